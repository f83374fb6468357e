/-
  The matrix of fractions.
  append(s, make([]byte, k)...) onto a slice of the call's own.
  A matrix at work: its rows in memory; how it begins.
  A matrix at work begins.
  The first row that has something in a column.
  A column is made nought in all rows but one.
  Elimination, column by column.
  The inverse.
-/
import Derived.Test.YtihnlhfngmbglaaGreatAl4
import Derived.Lib.AppendZerosOnto
set_option linter.unusedSimpArgs false
set_option linter.unusedVariables false
namespace Go.Proofs.YtihnlhfngmbglaaGreat
open Go.RowKit Go.Cib
attribute [local go_sem] cell_set Later.cell Later.frozen Grw.cell Grw.frozen
section

theorem call_cauchy (args : Array Value) (w : World) : (callFunc 165 args).run Tryz.prog w = .ok (.enter 165 args) w := by go_simp
set_option maxRecDepth 100000 in
set_option maxHeartbeats 1600000 in
theorem cauchy1_any {w : World} {b fb xb yb n1 n2 c1 c2 : Nat} {A1 A2 : Option Addr} {S1 S2 : Nat → Prop} {xs ys : List Nat} (F : Fld w b) (hf : BoxAt w fb #[.pointer (some ⟨b, 0, none⟩)]) (hx : BoxAt w xb #[.slice A1 n1 c1]) (hy : BoxAt w yb #[.slice A2 n2 c2])
    (R1 : RdL ByR 1 S1 w A1 n1 xs) (R2 : RdL ByR 1 S2 w A2 n2 ys) {i j : Nat} (hi : i < n1) (hj : j < n2) (hne : gt xs i ≠ gt ys j) :
    Calls Tryz.prog 165 #[.int .i64 (i : Int), .int .i64 (j : Int), .pointer (some ⟨fb, 0, none⟩), .pointer (some ⟨xb, 0, none⟩), .pointer (some ⟨yb, 0, none⟩)] w fun e w' => e = .returned (.int .u8 (dv 1 (gt xs i ^^^ gt ys j) : Int)) ∧ Below w.heap.size w w' := by
  obtain ⟨b1, o1, rfl, _, l1⟩ := R1.addr hi
  obtain ⟨b2, o2, rfl, _, l2⟩ := R2.addr hj
  obtain ⟨v1, x1⟩ := by_at R1 hi
  obtain ⟨v2, x2⟩ := by_at R2 hj
  have k1 := hf.cell 0
  have k2 := hx.cell 0
  have k3 := hy.cell 0
  have g1 := hf.lt
  have g2 := hx.lt
  have g3 := hy.lt
  have q1 : (i : Int) < (n1 : Int) := by omega
  have q2 : (j : Int) < (n2 : Int) := by omega
  have q3 : (0 : Int) ≤ (i : Int) := Int.natCast_nonneg _
  have q4 : (0 : Int) ≤ (j : Int) := Int.natCast_nonneg _
  have hxb := xor_bits x1 x2
  have hdv := fun (y : Later w.heap.size w) => div_any (F.below y.ok) (a := 1) (c := gt xs i ^^^ gt ys j) (by decide) (xor_ne hne) (xor_lt x1 x2)
  clear hf hx hy R1 R2 F hi hj
  go_enter Tryz.func165, Tryz.ntmps165
  go_wp2_with fail
  refine wp_region_later (by kernel_rfl) (by kernel_rfl) ?_
  repeat (go_big_quiet_step ((go_at_call 166; exact Later.call _ (hdv _) (Nat.le_refl _))))
  refine wpQuiet_nil ?_
  rintro _ ⟨z, rfl⟩
  go_wp2_with fail
  go_ret
  exact ⟨rfl, z.ok⟩

theorem gt_mem {l : List Nat} {i : Nat} (h : i < l.length) : gt l i ∈ l := List.mem_of_getElem? (gt_of_lt h)
/-- The factors of parity. -/
def cauF (xs ys : List Nat) (i j : Nat) : Nat := dv 1 (gt xs i ^^^ gt ys j)
set_option maxRecDepth 100000 in
set_option maxHeartbeats 4000000 in
theorem cauchy_new {w : World} {b n1 n2 c1 c2 : Nat} {A1 A2 : Option Addr} {S : Nat → Prop} {xs ys : List Nat} (F : FldNew w b) (R1 : RdL ByR 1 S w A1 n1 xs) (R2 : RdL ByR 1 S w A2 n2 ys) (hS : ¬ S b)
    (h1 : 1 ≤ n1) (h2 : n1 ≤ 255) (h3 : 1 ≤ n2) (h4 : n2 ≤ 255) (hcc1 : n1 ≤ c1) (hcc2 : n2 ≤ c2) (hnd : (xs ++ ys).Nodup) :
    Calls Tryz.prog 133 #[.pointer (some ⟨b, 0, none⟩), .slice A1 n1 c1, .slice A2 n2 c2] w fun e w' => ∃ A c, e = .returned (.tuple #[.agg #[.int .i64 (n1 : Int), .int .i64 (n2 : Int), .slice A (n1 * n2) c], .int .i64 0]) ∧ n1 * n2 ≤ c ∧
      RdL ByR 1 (fun k => w.heap.size ≤ k) w' A (n1 * n2) (flatF (cauF xs ys) n1 n2) ∧ Fld w' b ∧ Keep (· = b) w w' := by
  have hl1 := R1.1
  have hl2 := R2.1
  have HR1 := Lib.hid R1
  have HR2 := Lib.hid R2
  have HF := Lib.hid F
  have d1 : decide (1 ≤ (n1 : Int) ∧ (n1 : Int) ≤ 255) = true := by simp; omega
  have d2 : decide (1 ≤ (n2 : Int) ∧ (n2 : Int) ≤ 255) = true := by simp; omega
  have hbl : b < w.heap.size := by obtain ⟨cs, hb, _⟩ := F.ex; exact hb.lt
  clear F R1 R2
  go_enter Tryz.func133, Tryz.ntmps133
  go_wp2_with fail
  have hb1 := (((BoxAt.new w #[.pointer (some ⟨b, 0, none⟩)] 139).alloc (.cells #[.slice A1 n1 c1] 68)).alloc (.cells #[.slice A2 n2 c2] 68)).alloc (.cells #[.int .i64 0, .int .i64 0, .slice none 0 0] 181)
  have hb2 := ((BoxAt.new (w.alloc (.cells #[.pointer (some ⟨b, 0, none⟩)] 139)) #[.slice A1 n1 c1] 68).alloc (.cells #[.slice A2 n2 c2] 68)).alloc (.cells #[.int .i64 0, .int .i64 0, .slice none 0 0] 181)
  have hb3 := (BoxAt.new ((w.alloc (.cells #[.pointer (some ⟨b, 0, none⟩)] 139)).alloc (.cells #[.slice A1 n1 c1] 68)) #[.slice A2 n2 c2] 68).alloc (.cells #[.int .i64 0, .int .i64 0, .slice none 0 0] 181)
  have hb4 := BoxAt.new (((w.alloc (.cells #[.pointer (some ⟨b, 0, none⟩)] 139)).alloc (.cells #[.slice A1 n1 c1] 68)).alloc (.cells #[.slice A2 n2 c2] 68)) #[.int .i64 0, .int .i64 0, .slice none 0 0] 181
  have hbA : Below w.heap.size w ((((w.alloc (.cells #[.pointer (some ⟨b, 0, none⟩)] 139)).alloc (.cells #[.slice A1 n1 c1] 68)).alloc (.cells #[.slice A2 n2 c2] 68)).alloc (.cells #[.int .i64 0, .int .i64 0, .slice none 0 0] 181)) := (by repeat (first | (with_reducible exact Below.refl _ _) | (with_reducible assumption) | (with_reducible refine Below.drew ?_) | (with_reducible refine Below.setCell ?_ ?_ _) | (with_reducible refine Below.alloc ?_ ?_ _) | (with_reducible refine Below.later ?_ ?_ _) | (first | (with_reducible exact Nat.le_refl _) | omega | (simp only [World.size_alloc, World.size_setCell, World.size_drew] <;> omega))))
  simp only [World.size_alloc] at hb1 hb2 hb3 hb4
  generalize ((((w.alloc (.cells #[.pointer (some ⟨b, 0, none⟩)] 139)).alloc (.cells #[.slice A1 n1 c1] 68)).alloc (.cells #[.slice A2 n2 c2] 68)).alloc (.cells #[.int .i64 0, .int .i64 0, .slice none 0 0] 181)) = wA at *
  have HA := Lib.hid hbA
  refine (nobody_new (w := wA) (b := b) ?_).mono ?_
  · obtain ⟨cs, h5, h6⟩ := HF.out.ex
    exact ⟨cs, h5.below hbA, h6⟩
  rintro e w2 ⟨rfl, F2, K2⟩
  replace hb1 := hb1.keeps K2 (by omega)
  replace hb2 := hb2.keeps K2 (by omega)
  replace hb3 := hb3.keeps K2 (by omega)
  replace hb4 := hb4.keeps K2 (by omega)
  have HK2 := Lib.hid K2
  have HF2 := Lib.hid F2
  have hk2 : Keep (· = b) w w2 := (Keep.of_below (F := fun k => k = b) hbA).trans K2 (fun k h _ => h)
  have r1 := RdL.keep ByR.stable HR1.out hk2 (fun k hk e => hS (e ▸ hk))
  have r2 := RdL.keep ByR.stable HR2.out hk2 (fun k hk e => hS (e ▸ hk))
  have HB1 := Lib.hid hb1
  have HB2 := Lib.hid hb2
  have HB3 := Lib.hid hb3
  have HB4 := Lib.hid hb4
  have HR1 := Lib.hid r1
  have HR2 := Lib.hid r2
  have HKK := Lib.hid hk2
  have k1 := hb1.cell 0
  have k2 := hb2.cell 0
  have k3 := hb3.cell 0
  have l4 := hb4.lt
  have l3 := hb3.lt
  have l2 := hb2.lt
  have l1 := hb1.lt
  clear hb1 hb2 hb3 hb4 r1 r2 hk2 K2 F2 hbA
  go_wp2_with (go_at_call 162; refine (within_any _).mono ?_; rintro e w9 ⟨rfl, hw9⟩; rw [hw9]; clear hw9; try rw [d1]; try rw [d2])
  have hal : Below w2.heap.size w2 (w2.alloc (.cells #[.slice A1 n1 c1, .slice A2 n2 c2] 68)) := (Below.refl _ _).alloc (Nat.le_refl _) _
  have hbx := BoxAt.new w2 #[.slice A1 n1 c1, .slice A2 n2 c2] 68
  obtain ⟨wB, hwB⟩ : ∃ wB, w2.alloc (.cells #[.slice A1 n1 c1, .slice A2 n2 c2] 68) = wB := ⟨_, rfl⟩
  rw [hwB] at hal hbx ⊢
  have hls : RdL RowR 1 (fun _ => True) wB (some ⟨w2.heap.size, 0, none⟩) 2 [xs, ys] := ⟨rfl, fun _ => ⟨_, 0, rfl, trivial, hbx.lt, fun i x hx => by
    rcases i with _ | _ | i
    · simp at hx; subst hx
      refine ⟨[.slice A1 n1 c1], rfl, ⟨A1, n1, c1, rfl, hcc1, (HR1.out.below ByR.stable hal).weaken ByR.stable (fun _ _ => trivial)⟩, fun j v hj => ?_⟩
      rcases j with _ | j
      · simp at hj; subst hj
        exact hbx.cell 0
      · simp at hj
    · simp at hx; subst hx
      refine ⟨[.slice A2 n2 c2], rfl, ⟨A2, n2, c2, rfl, hcc2, (HR2.out.below ByR.stable hal).weaken ByR.stable (fun _ _ => trivial)⟩, fun j v hj => ?_⟩
      rcases j with _ | j
      · simp at hj; subst hj
        exact hbx.cell 1
      · simp at hj
    · simp at hx⟩⟩
  refine (twice_any hls (by omega) (by intro l hl; simp at hl; rcases hl with rfl | rfl <;> omega) (by simpa using hnd)).mono ?_
  rintro e w4 ⟨rfl, hb4⟩
  have hb24 : Below w2.heap.size w2 w4 := hal.trans (hb4.mono hal.size)
  have HB24 := Lib.hid hb24
  replace k1 := ((HB1.out.below hb24)).cell 0
  replace k2 := ((HB2.out.below hb24)).cell 0
  replace k3 := ((HB3.out.below hb24)).cell 0
  clear hls hbx hal hwB hb4
  have hs24 := hb24.size
  go_wp2_with fail
  refine (filled_any h2 h4 (g := 165) (f := cauF xs ys) (Lib.hid call_cauchy) (Lib.hid fun i j W hi hj hW => ?_)).mono ?_
  · have hb2W : Below w2.heap.size w2 W := HB24.out.trans (hW.mono hs24)
    have hne : gt xs i ≠ gt ys j := fun e => (List.nodup_append.1 hnd).2.2 _ (gt_mem (by omega)) _ (gt_mem (by omega)) e
    exact (cauchy1_any (HF2.out.below hb2W) (HB1.out.below hb2W) (HB2.out.below hb2W) (HB3.out.below hb2W) (HR1.out.below ByR.stable hb2W) (HR2.out.below ByR.stable hb2W) hi hj hne).mono fun e W' h => ⟨h.1, gm_lt, h.2⟩
  rintro e w5 ⟨A, c, rfl, hc, hr, hb5⟩
  have hb25 : Below w2.heap.size w2 w5 := HB24.out.trans (hb5.mono hs24)
  have g0 := (HB4.out.below hb25).cell 0
  have g1 := (HB4.out.below hb25).cell 1
  have g2 := (HB4.out.below hb25).cell 2
  have f0 := (HB4.out.below hb25).frozen 0
  have f1 := (HB4.out.below hb25).frozen 1
  have f2 := (HB4.out.below hb25).frozen 2
  have HB25 := Lib.hid hb25
  have HRR := Lib.hid hr
  have hs25 := hb25.size
  clear hr hb5 hb25 k1 k2 k3 hnd
  go_wp2_with fail
  refine bodyPost_ret (v := .tuple #[.agg #[.int .i64 (n1 : Int), .int .i64 (n2 : Int), .slice A (n1 * n2) c], .int .i64 0]) (by simp [results, Tryz.results133, go_sem, *]) rfl ?_
  refine ⟨A, c, rfl, hc, ?_, ?_, ?_⟩
  · refine RdL.weaken ByR.stable (S := fun k => w4.heap.size ≤ k) ?_ (fun k hk => by have h5 : w4.heap.size ≤ k := hk; show _ ≤ k; omega)
    repeat (first | exact HRR.out | refine RdL.setCell ByR.stable ?_ (show ¬ w4.heap.size ≤ _ by dsimp only; omega) _)
  · refine HF2.out.keep ?_
    have hbk := HB25.out.block b (by omega)
    repeat (first | exact hbk | refine (Below.heap_setCell _ _ _ _ (by dsimp only; omega)).trans ?_)
  · have hkk : Keep (· = b) w w5 := HKK.out.trans (Keep.of_below (F := fun _ => False) HB25.out) (fun _ h => h.elim)
    repeat (first | exact hkk | refine Keep.setCell ?_ (fun h5 => absurd h5 (by dsimp only; omega)) _)
end
section
open Go.Lib
section
variable {P : Program} (w : World)
theorem run_append_room_zeros (t tn ty e : TypeId) (i : TypeInfo) (z : Value) (kn kq : IntKind) (ht : P.underlying t = some (.slice e)) (htn : P.underlying tn = some (.int kn)) (hi : P.info? e = some i) (hz : i.zero = some z) (hzs : z.cells.size = i.size)
    (g sLen sCap : Nat) (cur : Array Value) (hg : w.heap[g]? = some (.cells cur e (0, 0))) (k : Nat) (h0 : 0 < k) (hs : 0 < i.size) (h63 : (k : Int) ≤ 9223372036854775807) (h48 : k * i.bytes ≤ 281474976710656)
    (h1 : ∀ u ∈ (Builtin.zeroCells z.cells k).toList, u.oneCell' = true) (hroom : sLen + k ≤ sCap) (hfit : sLen * i.size + (Builtin.zeroCells z.cells k).toList.length ≤ cur.size) :
    (Builtin.append_ #[t, tn] ty #[.slice (some ⟨g, 0, none⟩) sLen sCap, .int kq k]).run P w =
      .ok (.slice (some ⟨g, 0, none⟩) (sLen + k) sCap) (w.setRow g (cur.toList.take (sLen * i.size) ++ (Builtin.zeroCells z.cells k).toList ++ cur.toList.drop (sLen * i.size + (Builtin.zeroCells z.cells k).toList.length)).toArray) := by
  have hst := run_storeCells_at P g (sLen * i.size) e (Builtin.zeroCells z.cells k).toList 0 cur w hg (by simpa using hfit) h1
  simp only [Nat.add_zero] at hst
  have hk : k ≠ 0 := by omega
  have hw : IntKind.i64.wrap (k : Int) = k := by rw [IntKind.wrap_i64]; omega
  have h48i : ¬ (281474976710656 < (k : Int) * (i.bytes : Int)) := by
    rw [← Int.natCast_mul]
    omega
  have hneg : ¬ ((k : Int) < 0) := by omega
  have hns : ¬ (k * i.size = 0) := Nat.mul_ne_zero hk (by omega)
  simp only [Array.length_toList] at hst
  simp [Builtin.append_, run_underlying ht, run_underlying htn, sizeOf, typeInfo, zeroValue, hi, hz, asInt, asIntOf, hw, hneg, hns, h48i, hroom, Addr.add_lit, hst]
end
theorem zeros_by (k : Nat) : Builtin.zeroCells (Value.int .u8 0).cells k = Array.replicate k (.int .u8 0) := by
  rw [show (Value.int .u8 0).cells = #[.int .u8 0] from rfl]
  apply Array.ext
  · rw [size_zeroCells]; simp
  · intro i h1 h2
    simp [Builtin.zeroCells, Nat.mod_one]
section
variable {ops : Array Oper} {rest : List Oper} {o : Oper} {a : Act} {Q : Exit → Act → World → Prop} {w : World}
theorem wpList_appZ {s x : Operand} {tn : TypeId} {kn kq : IntKind} (htn : Tryz.prog.underlying tn = some (.int kn))
    (hgd : o.guard = none) (ho : o.op = .call { callee := .builtin .append, args := #[s, x], argTypes := #[68, tn] })
    {base n cap g : Nat} {S : Nat → Prop} {xs : List Nat} (hs : a.eval s = .slice (some ⟨g, 0, none⟩) n cap) (hown : OwnL ByR 5 1 base S w (.slice (some ⟨g, 0, none⟩) n cap) n xs)
    {k : Nat} (hx : a.eval x = .int kq (k : Int)) (h0 : 0 < k) (hn0 : 0 < n) (hk : n + k ≤ 1000000) (hbase : base ≤ w.heap.size)
    (h : ∀ g' c' w', base ≤ g' → n + k ≤ c' → OwnL ByR 5 1 base S w' (.slice (some ⟨g', 0, none⟩) (n + k) c') (n + k) (xs ++ List.replicate k 0) → w.grownBy w' (some g) → wpList Tryz.prog ops Q rest (a.put o.dst (.slice (some ⟨g', 0, none⟩) (n + k) c')) w') :
    wpList Tryz.prog ops Q (o :: rest) a w := by
  obtain ⟨i, hi, hz, hsz, hby⟩ := info_parts sl_by.info
  obtain ⟨css, k1, k2, k3, k4, k5⟩ := hown
  have hlen0 : css.flatten.length = n := by have := k1.1; omega
  have hreads : ∀ (j : Nat) (cs : List Value) (x : Nat), (css ++ List.replicate k [Value.int .u8 0])[j]? = some cs → (xs ++ List.replicate k 0)[j]? = some x → ByR S w cs x := by
    intro j cs x h1 h2
    by_cases hj : j < n
    · rw [List.getElem?_append_left (by omega)] at h1 h2
      exact k5 j cs x h1 h2
    · rw [List.getElem?_append_right (by omega)] at h1 h2
      have e1 := List.mem_of_getElem? h1
      have e2 := List.mem_of_getElem? h2
      have e3 : cs = [Value.int .u8 0] := (List.mem_replicate.1 e1).2
      have e4 : x = 0 := (List.mem_replicate.1 e2).2
      subst e3; subst e4
      show (0 : Nat) < 256 ∧ [Value.int .u8 0] = [Value.int .u8 ((0 : Nat) : Int)]
      exact ⟨Nat.succ_pos _, rfl⟩
  have hrp : ∀ m : Nat, (List.replicate m [Value.int .u8 0]).flatten = (Array.replicate m (Value.int .u8 0)).toList := fun m => by
    rw [Array.toList_replicate]
    induction m with
    | zero => exact List.flatten_nil
    | succ m ih => rw [List.replicate_succ, List.flatten_cons, ih, List.replicate_succ]; exact List.singleton_append
  have hfl : (css ++ List.replicate k [Value.int .u8 0]).flatten = css.flatten ++ (Array.replicate k (Value.int .u8 0)).toList := by
    rw [List.flatten_append, hrp]
  have hmk : ∀ (v' : Value) (w' : World), w'.ownsRow base 5 1 v' (n + k) (css.flatten ++ (Array.replicate k (Value.int .u8 0)).toList) → OwnL ByR 5 1 base S w' v' (n + k) (xs ++ List.replicate k 0) := fun v' w' hr =>
    ⟨css ++ List.replicate k [Value.int .u8 0], by rw [hfl]; exact hr, by rw [List.length_append, List.length_replicate, k2], by rw [List.length_append, List.length_replicate, k3], fun cs hc => by
      rcases List.mem_append.1 hc with hc | hc
      · exact k4 cs hc
      · rw [(List.mem_replicate.1 hc).2]; rfl, fun j cs x h1 h2 => hreads j cs x h1 h2⟩
  rcases k1.2 with ⟨e, _⟩ | ⟨g1, cap1, cur, e, hbg, hg, hnc, hcm, hcs, htake⟩
  · cases e
  injection e with e1 e2 e3
  injection e1 with e1
  injection e1 with e1
  subst e1; subst e3
  have hzc : Builtin.zeroCells (Value.int .u8 0).cells k = Array.replicate k (.int .u8 0) := zeros_by k
  have hlen : (css.flatten ++ (Array.replicate k (Value.int .u8 0)).toList).length = n + k := by rw [List.length_append, hlen0]; simp
  by_cases hroom : n + k ≤ cap
  · have hr := run_append_room_zeros (P := Tryz.prog) w 68 tn o.type 5 i (.int .u8 0) kn kq sl_by.und htn hi hz (by rw [hsz]; rfl) g n cap cur hg k h0 (by omega) (by omega) (by rw [hby]; omega) (by rw [hzc]; intro u hu; simp at hu; rw [hu.2]; rfl) hroom (by rw [hzc, hsz]; simp; omega)
    refine wpList_append_run w hgd _ _ _ _ ho _ _ hs hx _ _ hr ?_
    rw [hzc, hsz, Nat.mul_one]
    refine h g cap _ hbg hroom (hmk _ _ ⟨by rw [hlen]; omega, .inr ⟨g, cap, _, rfl, hbg, setRow_heap w g cur _ _ _ hg, hroom, hcm, ?_, ?_⟩⟩) ⟨rfl, rfl, rfl, by simp, fun k _ hk => setRow_other w g k _ (fun e => hk (by rw [e]))⟩
    · simp only [List.size_toArray, List.length_append, List.length_take, List.length_drop, Array.length_toList, Array.size_replicate]
      omega
    · rw [show cur.toList.take n = css.flatten by rw [← htake, Nat.mul_one]]
      rw [show (n + k) * 1 = (css.flatten ++ (Array.replicate k (Value.int .u8 0)).toList).length by rw [hlen]; omega]
      exact List.take_left
  · have holds : ∀ j u, css.flatten[j]? = some u → w.cell? ((⟨g, 0, none⟩ : Addr).add j) = some u := k1.cells (g := g) rfl
    have hfc := run_firstCells_some (P := Tryz.prog) w.drew i.size n ⟨g, 0, none⟩ n cap css.flatten (by rw [hsz, hlen0]; omega) (fun j u hj => holds j u hj)
    have hr := run_append_grow_zeros (P := Tryz.prog) w 68 tn o.type 5 i (.int .u8 0) kq kn sl_by.und htn hi hz (some ⟨g, 0, none⟩) n cap css.flatten hfc k h0 (by omega) (by omega) (by omega) (by rw [hby]; omega) (growslice_fits (by omega) (by rw [hby]; omega))
    refine wpList_append_run w hgd _ _ _ _ ho _ _ hs hx _ _ hr ?_
    rw [hzc]
    have hge := grownCap_ge w (n + k) cap 5
    have hcm2 : grownCap w (n + k) cap 5 ≤ maxLen := grownCap_le_maxLen w (n + k) cap _ (by unfold maxLen; omega)
    refine h _ _ _ hbase hge (hmk _ _ ⟨by rw [hlen]; omega, .inr ⟨w.heap.size, _, _, rfl, hbase, heap_alloc_new w.drew _, hge, hcm2, ?_, ?_⟩⟩) ⟨rfl, rfl, rfl, by simp, fun k hk _ => Below.heap_alloc w.drew _ _ hk⟩
    · rw [Array.size_append, Array.size_append, size_zeroCells, List.size_toArray, hlen0, Array.size_replicate]
      show n + k + _ * 1 = _
      omega
    · rw [Array.toList_append, Array.toList_append]
      rw [show (n + k) * 1 = (css.flatten ++ (Array.replicate k (Value.int .u8 0)).toList).length by rw [hlen]; omega]
      exact List.take_left
end
end
section

theorem sl_rows : SlTy Tryz.prog 151 68 (.slice none 0 0) 1 24 := ⟨by kernel_rfl, by kernel_rfl, by kernel_rfl, by omega⟩
theorem by_mk {S : Nat → Prop} {w : World} {b o n : Nat} {xs : List Nat} (hl : xs.length = n) (hx : Byt xs) (hS : S b) (hb : b < w.heap.size) (h : ∀ k, k < n → w.cell? ⟨b, o + k, none⟩ = some (.int .u8 (gt xs k))) : RdL ByR 1 S w (some ⟨b, o, none⟩) n xs := by
  refine ⟨hl, fun _ => ⟨b, o, rfl, hS, hb, fun i x hi => ⟨[.int .u8 (x : Int)], rfl, ⟨hx x (List.mem_of_getElem? hi), rfl⟩, fun j v hj => ?_⟩⟩⟩
  rcases j with _ | j
  · simp at hj; subst hj
    have hlt := (List.getElem?_eq_some_iff.1 hi).1
    rw [Nat.mul_one, Nat.add_zero, h i (by omega), Option.some.inj ((gt_of_lt hlt).symm.trans hi)]
  · simp at hj
theorem flat_get : ∀ {V : Rws} {n m : Nat}, Shp n m V → ∀ {i j : Nat}, i < n → j < m → gt V.flatten (i * m + j) = gt (ra V i) j
  | V, n, m, h, i, j, hi, hj => by
    have h1 := flatten_get V (fun r hr => (h.2 r hr).1) i (ra V i) j (ra_of_lt (by rw [h.1]; exact hi)) hj
    unfold gt
    rw [List.getD_eq_getElem?_getD, List.getD_eq_getElem?_getD, h1]
theorem mul_lt {i n m j : Nat} (hi : i < n) (hj : j < m) : i * m + j < n * m := by
  have := Nat.mul_le_mul (show i + 1 ≤ n from hi) (Nat.le_refl m)
  rw [Nat.succ_mul] at this
  omega
theorem row_rd {S : Nat → Prop} {w : World} {A : Option Addr} {V : Rws} {n m : Nat} (hV : Shp n m V) (R : RdL ByR 1 S w A (n * m) V.flatten) {i : Nat} (hi : i < n) (hm : 0 < m) :
    RdL ByR 1 S w (A.map fun x : Addr => x.add (i * m)) m (ra V i) := by
  obtain ⟨b, o, rfl, hS, hb⟩ := R.addr (k := i * m + 0) (mul_lt hi hm)
  have e : Option.map (fun x : Addr => x.add (i * m)) (some ⟨b, o, none⟩) = some ⟨b, o + i * m, none⟩ := by
    simp only [Option.map_some, Addr.add]
    split
    · rename_i e; rw [e]; rfl
    · rfl
  rw [e]
  refine by_mk (hV.row hi).1 (hV.row hi).2 hS hb fun k hk => ?_
  rw [Nat.add_assoc, (by_at R (mul_lt hi hk)).1, flat_get hV hi hk]

/-- A matrix at work. -/
structure WorkAt (w : World) (p b m base g n c : Nat) (a : Rws) : Prop where
  box : BoxAt w p #[.pointer (some ⟨b, 0, none⟩), .slice (some ⟨g, 0, none⟩) n c]
  cur : ∃ cur : Array Value, BoxAt w g cur ∧ n ≤ cur.size ∧ ∀ i, i < n → ∃ A c', cur[i]? = some (.slice A m c') ∧ m ≤ c' ∧ RdL ByR 1 (fun k => base ≤ k ∧ k ≠ g ∧ k ≠ p) w A m (ra a i)
  shp : Shp n m a
  pg : p ≠ g
  hp : base ≤ p
  hg : base ≤ g
  nc : n ≤ c
section
variable {w w' : World} {p b m base g n c : Nat} {a : Rws}
theorem WorkAt.below (h : WorkAt w p b m base g n c a) (hb : Below w.heap.size w w') : WorkAt w' p b m base g n c a := by
  obtain ⟨cur, h1, h2, h3⟩ := h.cur
  refine ⟨h.box.below hb, ⟨cur, h1.below hb, h2, fun i hi => ?_⟩, h.shp, h.pg, h.hp, h.hg, h.nc⟩
  obtain ⟨A, c', e1, e2, e3⟩ := h3 i hi
  exact ⟨A, c', e1, e2, e3.below ByR.stable hb⟩
theorem WorkAt.row (h : WorkAt w p b m base g n c a) {i : Nat} (hi : i < n) : ∃ A c', w.cell? ⟨g, i, none⟩ = some (.slice A m c') ∧ w.frozen? ⟨g, i, none⟩ = false ∧ m ≤ c' ∧ RdL ByR 1 (fun k => base ≤ k ∧ k ≠ g ∧ k ≠ p) w A m (ra a i) := by
  obtain ⟨cur, h1, h2, h3⟩ := h.cur
  obtain ⟨A, c', e1, e2, e3⟩ := h3 i hi
  exact ⟨A, c', (h1.cell i).trans e1, h1.frozen i, e2, e3⟩
/-- A row is laid. -/
theorem WorkAt.set (h : WorkAt w p b m base g n c a) {i c' : Nat} {A : Option Addr} {r : List Nat} (hi : i < n) (hc : m ≤ c') (hr : RdL ByR 1 (fun k => base ≤ k ∧ k ≠ g ∧ k ≠ p) w A m r) :
    WorkAt (w.setCell ⟨g, i, none⟩ (.slice A m c')) p b m base g n c (a.set i r) := by
  obtain ⟨cur, h1, h2, h3⟩ := h.cur
  have hst : ∀ {A : Option Addr} {x : List Nat}, RdL ByR 1 (fun k => base ≤ k ∧ k ≠ g ∧ k ≠ p) w A m x → RdL ByR 1 (fun k => base ≤ k ∧ k ≠ g ∧ k ≠ p) (w.setCell ⟨g, i, none⟩ (.slice A m c')) A m x → True := fun _ _ => trivial
  refine ⟨h.box.set_other (by exact h.pg) _, ⟨_, h1.set i _, by rw [Array.size_setIfInBounds]; exact h2, fun k hk => ?_⟩, .of (by rw [List.length_set, h.shp.1]) fun k hk => ?_, h.pg, h.hp, h.hg, h.nc⟩
  · rw [ra_set _ _ _ (by rw [h.shp.1]; exact hk)]
    by_cases e : k = i
    · subst e
      rw [if_pos rfl, set_eq (by omega)]
      exact ⟨A, c', rfl, hc, hr.setCell ByR.stable (fun h => h.2.1 rfl) _⟩
    · rw [if_neg e, set_ne (fun h => e h.symm)]
      obtain ⟨A1, c1, e1, e2, e3⟩ := h3 k hk
      exact ⟨A1, c1, e1, e2, e3.setCell ByR.stable (fun h => h.2.1 rfl) _⟩
  · rw [ra_set _ _ _ (by rw [h.shp.1]; exact hk)]
    split
    · exact ⟨hr.1, by_byt hr⟩
    · exact h.shp.row hk
/-- Out of rows of the call's own. -/
theorem WorkAt.of_own {v : Value} (hbx : BoxAt w p #[.pointer (some ⟨b, 0, none⟩), v]) (ho : OwnL RowR 68 1 (p + 1) (fun k => p < k) w v n a) (hn : 0 < n) (hbase : base ≤ p) (hs : Shp n m a) :
    ∃ g c, v = .slice (some ⟨g, 0, none⟩) n c ∧ WorkAt w p b m base g n c a := by
  obtain ⟨css, h1, h2, h3, h4, h5⟩ := ho
  rcases h1.2 with ⟨_, e⟩ | ⟨g, cap, cur, rfl, hg, hblk, hnc, hcm, hsz, ht⟩
  · omega
  · refine ⟨g, cap, rfl, hbx, ⟨cur, ⟨_, hblk⟩, by omega, fun i hi => ?_⟩, hs, by omega, hbase, by omega, hnc⟩
    obtain ⟨A, n', c', e1, e2, e3⟩ := h5 i css[i] (ra a i) (List.getElem?_eq_getElem (by omega)) (ra_of_lt (by omega))
    have hm : n' = m := by rw [← e3.1]; exact (hs.row hi).1
    subst hm
    refine ⟨A, c', ?_, e2, e3.stable ByR.stable fun k hk _ => ⟨⟨by have := hk.1; omega, fun e => hk.2 (by rw [e]; rfl), by have := hk.1; omega⟩, rfl⟩⟩
    have hf := flatten_get css h4 i css[i] 0 (List.getElem?_eq_getElem (by omega)) (by omega)
    rw [Nat.mul_one, Nat.add_zero, e1] at hf
    have hc := h1.cells (g := g) rfl i _ hf
    rw [Addr.add_lit, Nat.zero_add] at hc
    rw [← hc]
    exact (BoxAt.cell (w := w) (b := g) (cs := cur) ⟨_, hblk⟩ i).symm
end
end
section

def begRow (V : Rws) (n i : Nat) : List Nat := (ra V i ++ List.replicate n 0).set (n + i) 1
def begF (V : Rws) (n k : Nat) : Rws := (List.range k).map (begRow V n)
theorem begF_next (V : Rws) (n k : Nat) : begF V n (k + 1) = begF V n k ++ [begRow V n k] := by unfold begF; rw [List.range_succ, List.map_append]; rfl
theorem begRow_ok {V : Rws} {n i : Nat} (hV : Shp n n V) (hi : i < n) : (begRow V n i).length = n + n ∧ Byt (begRow V n i) := by
  unfold begRow
  have h := hV.row hi
  refine ⟨by rw [List.length_set, List.length_append, List.length_replicate, h.1], byt_set (fun x hx => ?_) (by decide)⟩
  rcases List.mem_append.1 hx with hx | hx
  · exact h.2 x hx
  · rw [(List.mem_replicate.1 hx).2]; decide
theorem begF_shp {V : Rws} {n : Nat} (hV : Shp n n V) : Shp n (n + n) (begF V n n) := .of (by unfold begF; simp) fun i hi => by
  have e : ra (begF V n n) i = begRow V n i := ra_some (by unfold begF; rw [List.getElem?_map, List.getElem?_range hi]; rfl)
  rw [e]
  exact begRow_ok hV hi
structure BegI (w0 wr : World) (mb p b n i : Nat) (mv : Array Value) (A : Option Addr) (c : Nat) (a : Rws) : Prop where
  own : OwnL RowR 68 1 (p + 1) (fun k => p < k) wr (.slice A i c) i a
  bp : BoxAt wr p #[.pointer (some ⟨b, 0, none⟩), .slice A i c]
  bm : BoxAt wr mb mv
  mp : mb < p
  hm : w0.heap.size ≤ mb
  bel : Below w0.heap.size w0 wr
theorem BegI.below {w0 wr w2 : World} {mb p b n i : Nat} {mv : Array Value} {A : Option Addr} {c : Nat} {a : Rws} (h : BegI w0 wr mb p b n i mv A c a) (hb : Below wr.heap.size wr w2) : BegI w0 w2 mb p b n i mv A c a :=
  ⟨h.own.keep RowR.stable hb, h.bp.below hb, h.bm.below hb, h.mp, h.hm, h.bel.trans (hb.mono h.bel.size)⟩
theorem BegI.pushed {w0 w2 : World} {mb p b n i : Nat} {mv : Array Value} {A A' : Option Addr} {c c' : Nat} {a : Rws} {y : List Nat} (h : BegI w0 w2 mb p b n i mv A c a) (u : Grw (Value.slice A i c).ownBlock w2)
    (hown : OwnL RowR 68 1 (p + 1) (fun k => p < k) u.to (.slice A' (i + 1) c') (i + 1) (a ++ [y])) (hb : Below (p + 1) w2 u.to) :
    BegI w0 (u.to.setCell ⟨p, 1, none⟩ (.slice A' (i + 1) c')) mb p b n (i + 1) mv A' c' (a ++ [y]) := by
  have hl := h.bp.lt
  have hm := h.mp
  have hne : ∀ k, k ≤ p → some k ≠ (Value.slice A i c).ownBlock := fun k hk e => by
    have := (h.own.lt k e.symm).1; omega
  have hne2 : Value.ownBlock (.slice A' (i + 1) c') ≠ some p := fun e => by
    have := (hown.lt p e).1; omega
  refine ⟨?_, ?_, (h.bm.grw u.ok (hne mb (by omega))).set_other (by show mb ≠ p; omega) _, h.mp, h.hm, (h.bel.trans (hb.mono (by have := h.hm; omega))).setCell (by have := h.hm; show _ ≤ p; omega) _⟩
  · obtain ⟨css, h1, h2, h3, h4, h5⟩ := hown
    refine ⟨css, h1.kept (row := some p) ⟨rfl, rfl, rfl, by simp, fun k _ hk => Below.heap_setCell _ _ _ _ (fun e => hk (by rw [e]))⟩ (.inr hne2), h2, h3, h4, fun i cs x hc hx => ?_⟩
    exact RowR.stable _ _ _ _ _ _ (h5 i cs x hc hx) fun k hk _ => ⟨hk, Below.heap_setCell _ _ _ _ (fun e => by have := hk.1; dsimp only at e; omega)⟩
  · have := (h.bp.grw u.ok (hne p (Nat.le_refl _))).set 1 (.slice A' (i + 1) c')
    simpa using this

set_option maxRecDepth 100000 in
set_option maxHeartbeats 4000000 in
theorem begun_any {w : World} {b n c : Nat} {A : Option Addr} {S : Nat → Prop} {V : Rws} (hV : Shp n n V) (h1 : 1 ≤ n) (h2 : n ≤ 255) (R : RdL ByR 1 S w A (n * n) V.flatten) (hc : n * n ≤ c) :
    Calls Tryz.prog 248 #[.pointer (some ⟨b, 0, none⟩), .agg #[.int .i64 (n : Int), .int .i64 (n : Int), .slice A (n * n) c], .bool true] w fun e w' => ∃ p g cc, e = .returned (.pointer (some ⟨p, 0, none⟩)) ∧
      WorkAt w' p b (n + n) w.heap.size g n cc (begF V n n) ∧ Below w.heap.size w w' := by
  have HR := Lib.hid R
  have q0 : (0 : Int) ≤ (n : Int) := Int.natCast_nonneg _
  have q1 : (n : Int) ≤ 255 := by omega
  clear R
  go_enter Tryz.func248, Tryz.ntmps248
  go_wp2_with fail
  obtain ⟨mv, hmv⟩ : ∃ mv : Array Value, mv = #[.int .i64 (n : Int), .int .i64 (n : Int), .slice A (n * n) c] := ⟨_, rfl⟩
  have hi0 : BegI w ((w.alloc (.cells #[.int .i64 (n : Int), .int .i64 (n : Int), .slice A (n * n) c] 181)).alloc (.cells #[.pointer (some ⟨b, 0, none⟩), .slice none 0 0] 328)) w.heap.size (w.heap.size + 1) b n 0 mv none 0 (begF V n 0) := by
    have e := BoxAt.new (w.alloc (.cells #[.int .i64 (n : Int), .int .i64 (n : Int), .slice A (n * n) c] 181)) #[.pointer (some ⟨b, 0, none⟩), .slice none 0 0] 328
    rw [World.size_alloc] at e
    exact ⟨OwnL.nil_, e, hmv ▸ (BoxAt.new w _ _).alloc _, by omega, Nat.le_refl _, (by repeat (first | (with_reducible exact Below.refl _ _) | (with_reducible assumption) | (with_reducible refine Below.drew ?_) | (with_reducible refine Below.setCell ?_ ?_ _) | (with_reducible refine Below.alloc ?_ ?_ _) | (with_reducible refine Below.later ?_ ?_ _) | (first | (with_reducible exact Nat.le_refl _) | omega | (simp only [World.size_alloc, World.size_setCell, World.size_drew] <;> omega))))⟩
  have HI0 := Lib.hid hi0
  clear hi0
  generalize ((w.alloc (.cells #[.int .i64 (n : Int), .int .i64 (n : Int), .slice A (n * n) c] 181)).alloc (.cells #[.pointer (some ⟨b, 0, none⟩), .slice none 0 0] 328)) = wA at *
  go_loopw [15] (fun vi wr => ∃ (i : Nat) (A : Option Addr) (c : Nat), i ≤ n ∧ vi = .int .i64 i ∧ Hid (BegI w wr w.heap.size (w.heap.size + 1) b n i mv A c (begF V n i))) (fun vi _ => n - (intOf vi).toNat)
  case atStart => exact ⟨0, none, 0, Nat.zero_le _, rfl, HI0⟩
  case round =>
    clear HI0
    obtain ⟨i, AR, cR, hi, rfl, HI⟩ := hrel
    have p0 : (0 : Int) ≤ (i : Int) := Int.natCast_nonneg _
    by_cases hlt : i < n
    · have p1 : (i : Int) < (n : Int) := by omega
      have hmul : (i + 1) * n ≤ n * n := Nat.mul_le_mul hlt (Nat.le_refl _)
      have k0 := HI.out.bm.cell 0
      have k1 := HI.out.bm.cell 1
      have k2 := HI.out.bm.cell 2
      rw [hmv] at k0 k1 k2
      have hrow := row_any (w := wr) (A := A) hmul hc (by omega) h2 h1
      have hrd := row_rd hV (HR.out.below ByR.stable HI.out.bel) hlt h1
      have HRD := Lib.hid hrd
      clear hrd hmul
      have hrl := (begRow_ok hV hlt).1
      have hy : ∀ (W : World) (g4 c4 : Nat) (cur : Array Value), Hid (RowIn W g4 cur (begRow V n i)) → n + n ≤ c4 → w.heap.size + 1 < wr.heap.size → wr.heap.size ≤ g4 →
          RowR (Go.Cib.Rest (fun k => w.heap.size + 1 < k) (.slice AR i cR)) W [.slice (some ⟨g4, 0, none⟩) (n + n) c4] (begRow V n i) := fun W g4 c4 cur hR h4 h5 h6 => by
        have := hR.out.rd (S := Go.Cib.Rest (fun k => w.heap.size + 1 < k) (.slice AR i cR)) ⟨by omega, fun e => by have := (HI.out.own.lt _ e.symm).2; omega⟩
        rw [hrl] at this
        exact ⟨_, _, _, rfl, h4, this⟩
      have HY := Lib.hid hy
      clear hy hrl
      go_wp2_with (first
        | (go_at_call 238; refine hrow.mono ?_; rintro e w9 ⟨rfl, hw9⟩; rw [hw9]; clear hw9)
        | (at_builtin; refine wpList_appL ByR.stable ByR.one sl_by rfl (by exact rfl) (base := wr.heap.size) (S := fun _ => True) (n := 0) (v := .slice none 0 0) (xs := []) (by exact rfl) OwnL.nil_ (by exact rfl) HRD.out (fun _ _ h => h) (by unfold maxLen; omega) (by omega) (Nat.le_refl _) ?_; intro A3 c3 w3 hc3 hown3 hg3 hat; simp only [Nat.zero_add, List.nil_append] at hc3 hown3 ⊢; have hb3 : Below wr.heap.size wr w3 := ⟨hg3.os, hg3.tape, hg3.output, hg3.size, fun k hk => hg3.block k hk (by intro h; cases h)⟩; obtain ⟨g3, cap3, cur3, e3, l3, _, _, _⟩ := RowIn.of_own hown3 h1; injection e3 with e3 _ e4; subst e3; subst e4; have bm3 := (HI.out.below hb3).bm; replace k0 := bm3.cell 0; replace k1 := bm3.cell 1; rw [hmv] at k0 k1; have HB3 := Lib.hid hb3; have HO3 := Lib.hid hown3; clear hb3 hown3 hg3 hat bm3)
        | (at_builtin; refine wpList_appZ (kn := .i64) (kq := .i64) (by kernel_rfl) rfl (by exact rfl) (by exact rfl) HO3.out (by exact rfl) h1 h1 (by omega) HB3.out.size ?_; intro g4 c4 w4 hg4 hc4 hown4 hgr4; have hb4 : Below wr.heap.size wr w4 := ⟨hgr4.os.trans HB3.out.os, hgr4.tape.trans HB3.out.tape, hgr4.output.trans HB3.out.output, Nat.le_trans HB3.out.size hgr4.size, fun k hk => (hgr4.block k (Nat.lt_of_lt_of_le hk HB3.out.size) (by intro h; injection h with h; omega)).trans (HB3.out.block k hk)⟩; obtain ⟨g5, cap5, cur5, e5, l5, l6, l7, RI⟩ := RowIn.of_own hown4 (by omega); injection e5 with e5 _ e6; injection e5 with e5; injection e5 with e5; subst e5; subst e6; have x5 := RI.cell (i := n + i) (by omega); have f5 := RI.frozen (n + i); have bm4 := (HI.out.below hb4).bm; replace k1 := bm4.cell 1; rw [hmv] at k1; have r5 : RowIn (w4.setCell ⟨g4, n + i, none⟩ (.int .u8 1)) g4 _ (begRow V n i) := RI.set (i := n + i) (x := 1) (by omega) (by decide); have hb5 := hb4.setCell (p := ⟨g4, n + i, none⟩) hg4 (.int .u8 1); have hi5 := HI.out.below hb5; have hpl := HI.out.bp.lt; have hne : ¬ g4 = w.heap.size + 1 := (by omega); have c5 := hi5.bp.cell 1; have f6 := hi5.bp.frozen 1; have HI5 := Lib.hid hi5; have HR5 := Lib.hid r5; have HB5 := Lib.hid hb5; clear hown4 hgr4 hb4 bm4 RI r5 hb5 hi5)
        | (at_builtin; go_must (refine wpList_push1 RowR.stable RowR.one sl_rows (by rfl) (by rfl) (base := w.heap.size + 1 + 1) (S := fun k => w.heap.size + 1 < k) (cs := #[.slice (some ⟨g4, 0, none⟩) (n + n) c4]) (y := begRow V n i) (by rfl) (by rw [World.size_setCell]; rfl) HI5.out.own (by rfl) (HY.out _ _ _ _ HR5 hc4 hpl hg4) (by unfold maxLen; omega) (by omega) HI5.out.bp.lt ?_); intro A9 c9 u9 hc9 own9 hlt9 hb9 hat9; have B9 := HI5.out.bp.grw u9.ok (fun e => by have := (HI5.out.own.lt _ e.symm).1; omega); have c9p := B9.cell 1; have f9p := B9.frozen 1; have hp9 := HI5.out.pushed u9 own9 hb9; rw [← begF_next] at hp9; have HP9 := Lib.hid hp9; clear own9 hlt9 hb9 hat9 B9 hp9))
      exact ⟨⟨i + 1, A9, c9, by omega, by go_num, HP9⟩, by simp [intOf]; omega⟩
    · have p1 : ¬ (i : Int) < (n : Int) := by omega
      obtain rfl : i = n := by omega
      obtain ⟨g, cc, e, hW⟩ := WorkAt.of_own (base := w.heap.size) HI.out.bp HI.out.own h1 (by omega) (begF_shp hV)
      injection e with e1 _ e2
      subst e1; subst e2
      have k0 := HI.out.bm.cell 0
      rw [hmv] at k0
      have HW := Lib.hid hW
      clear hW
      go_wp2_with fail
      go_ret
      first | exact ⟨_, rfl, ⟨g, cR, HW.out⟩, HI.out.bel⟩ | exact ⟨_, rfl, g, cR, HW.out, HI.out.bel⟩ | exact ⟨_, rfl, g, ⟨cR, HW.out⟩, HI.out.bel⟩
end
section

def pvI (col : Nat) (a : Rws) (d : Nat) : Int := match pvF col (a.drop d) d with
  | none => -1
  | some k => k
theorem drop_ra {a : Rws} {k : Nat} (hk : k < a.length) : a.drop k = ra a k :: a.drop (k + 1) := by
  rw [List.drop_eq_getElem_cons hk]
  congr 1
  exact (ra_some (List.getElem?_eq_getElem hk)).symm
theorem pvF_cons (col : Nat) (r : List Nat) (l : Rws) (i : Nat) : pvF col (r :: l) i = if gt r col = 0 then pvF col l (i + 1) else some i := rfl
theorem pvI_next {col : Nat} {a : Rws} {k : Nat} (hk : k < a.length) (h0 : gt (ra a k) col = 0) : pvI col a k = pvI col a (k + 1) := by
  unfold pvI
  rw [drop_ra hk, pvF_cons, if_pos h0]
theorem pvI_found {col : Nat} {a : Rws} {k : Nat} (hk : k < a.length) (h0 : gt (ra a k) col ≠ 0) : pvI col a k = k := by
  unfold pvI
  rw [drop_ra hk, pvF_cons, if_neg h0]
theorem pvI_end {col : Nat} {a : Rws} {k : Nat} (hk : a.length ≤ k) : pvI col a k = -1 := by
  unfold pvI
  rw [List.drop_of_length_le hk]
  rfl
set_option maxRecDepth 100000 in
set_option maxHeartbeats 4000000 in
theorem pivot_any {w : World} {p b m base g n c : Nat} {a : Rws} (H : WorkAt w p b m base g n c a) {d col : Nat} (hd : d < n) (hn : n ≤ 1000) (hcol : col < m) (hm : m ≤ 1000) :
    Calls Tryz.prog 260 #[.pointer (some ⟨p, 0, none⟩), .int .i64 (d : Int), .int .i64 (col : Int)] w fun e w' => e = .returned (.int .i64 (pvI col a d)) ∧ w' = w := by
  have k0 := H.box.cell 0
  have k1 := H.box.cell 1
  have hnc := H.nc
  have hal := H.shp.1
  have hp := fun w => piece_suf sl_rows (A := some ⟨g, 0, none⟩) (N := n) (c := c) (k := d) (by omega) w
  rw [if_neg (by omega)] at hp
  have e0 : Option.map (fun x : Addr => x.add (d * 1)) (some ⟨g, 0, none⟩) = some ⟨g, d, none⟩ := by
    simp only [Option.map_some, Addr.add]
    split
    · rename_i e; rw [show d = 0 by omega]
    · rw [Nat.mul_one, Nat.zero_add]
  rw [e0] at hp
  have HW := Lib.hid H
  have q0 : (0 : Int) ≤ (d : Int) := Int.natCast_nonneg _
  have q1 : (d : Int) < 1000 := by omega
  have q2 : (0 : Int) ≤ (col : Int) := Int.natCast_nonneg _
  have q3 : (col : Int) < (m : Int) := by omega
  have q4 : (m : Int) ≤ 1000 := by omega
  have q5 : ((n - d : Nat) : Int) ≤ 1000 := by omega
  clear H e0
  go_enter Tryz.func260, Tryz.ntmps260
  go_wp2_with fail
  clear hp
  go_loopw [16] (fun vi wr => ∃ k : Nat, k ≤ n - d ∧ vi = .int .i64 k ∧ wr = w ∧ Hid (pvI col a d = pvI col a (d + k))) (fun vi _ => (n - d) - (intOf vi).toNat)
  case atStart => exact ⟨0, Nat.zero_le _, rfl, rfl, Lib.hid rfl⟩
  case round =>
    obtain ⟨k, hk, rfl, hwr, HP⟩ := hrel
    rw [hwr]
    clear hwr
    have p0 : (0 : Int) ≤ (k : Int) := Int.natCast_nonneg _
    by_cases hlt : k < n - d
    · have p1 : (k : Int) < ((n - d : Nat) : Int) := by omega
      obtain ⟨A, c', v1, _, hc1, hr⟩ := HW.out.row (i := d + k) (by omega)
      obtain ⟨bb, o, rfl, _, hbb⟩ := hr.addr hcol
      obtain ⟨v2, x2⟩ := by_at hr hcol
      have hdk : d + k < a.length := by omega
      by_cases h0 : gt (ra a (d + k)) col = 0
      · have hnx := pvI_next hdk h0
        rw [h0] at v2
        have HN := Lib.hid (HP.out.trans hnx)
        clear hnx h0 x2 hr
        go_wp2_with fail
        exact ⟨⟨k + 1, by omega, by go_num, trivial, HN⟩, by simp [intOf]; omega⟩
      · have hf := HP.out.trans (pvI_found hdk h0)
        have h1 : ((gt (ra a (d + k)) col : Nat) : Int) ≠ 0 := by omega
        have h2 : (((gt (ra a (d + k)) col : Nat) : Int) != 0) = true := by simpa using h0
        have HN := Lib.hid hf
        have p3 : IntKind.i64.wrap ((d : Int) + (k : Int)) = ((d + k : Nat) : Int) := by rw [IntKind.wrap_i64]; omega
        clear hf hr x2
        go_wp2_with fail
        go_ret
        refine ⟨?_, rfl⟩
        rw [HN.out]
        congr 2
    · have p1 : ¬ (k : Int) < ((n - d : Nat) : Int) := by omega
      have hk2 : d + k = n := by omega
      have hf := HP.out.trans (pvI_end (by omega))
      have HN := Lib.hid hf
      clear hf HP
      go_wp2_with fail
      go_ret
      exact ⟨by rw [HN.out]; rfl, rfl⟩
end
section

def mixP (at' k i : Nat) : Bool := decide (i ≠ at') && decide (i < k)
theorem mix_zero {at' col : Nat} {a : Rws} : elF (mixP at' 0) at' col a = a := ra_ext (elF_len ..) fun i hi => by
  rw [elF_ra _ _ _ (by rw [elF_len] at hi; exact hi), if_neg (by unfold mixP; simp)]
theorem mix_fold {at' col k : Nat} {a : Rws} (hne : k ≠ at') (hk : k < a.length) : elF (mixP at' (k + 1)) at' col a = (elF (mixP at' k) at' col a).set k (fd (gt (ra a k) col) (ra a at') (ra a k)) := ra_ext (by rw [elF_len, List.length_set, elF_len]) fun i hi => by
  rw [elF_len] at hi
  rw [ra_set _ _ _ (by rw [elF_len]; exact hi), elF_ra _ _ _ hi, elF_ra _ _ _ hi]
  by_cases e : i = k
  · subst e
    rw [if_pos rfl, if_pos (by unfold mixP; simp [hne])]
  · rw [if_neg e]
    have : mixP at' (k + 1) i = mixP at' k i := by unfold mixP; congr 1; simp; omega
    rw [this]
theorem mix_same {at' col k n m : Nat} {a : Rws} (hs : Shp n m a) (hat : at' < n) (h : k = at' ∨ gt (ra a k) col = 0) (hk : k < n) : elF (mixP at' (k + 1)) at' col a = elF (mixP at' k) at' col a := ra_ext (by rw [elF_len, elF_len]) fun i hi => by
  rw [elF_len] at hi
  rw [elF_ra _ _ _ hi, elF_ra _ _ _ hi]
  by_cases e : i = k
  · subst e
    have e2 : mixP at' i i = false := by unfold mixP; simp
    rw [if_neg (c := mixP at' i i = true) (by rw [e2]; decide)]
    rcases h with h | h
    · rw [if_neg (by unfold mixP; simp [h])]
    · split
      · rw [h, fd_zero (by rw [(hs.row hk).1, (hs.row hat).1]; exact Nat.le_refl _)]
      · rfl
  · have : mixP at' (k + 1) i = mixP at' k i := by unfold mixP; congr 1; simp; omega
    rw [this]
theorem mix_end {at' col n : Nat} {a : Rws} (hl : a.length = n) : elF (mixP at' n) at' col a = elF (fun i => decide (i ≠ at')) at' col a := ra_ext (by rw [elF_len, elF_len]) fun i hi => by
  rw [elF_len] at hi
  rw [elF_ra _ _ _ hi, elF_ra _ _ _ hi]
  have : mixP at' n i = decide (i ≠ at') := by unfold mixP; rw [decide_eq_true (by omega : i < n), Bool.and_true]
  rw [this]
theorem mix_at {at' col k i : Nat} {a : Rws} (hi : i < a.length) (h : i = at' ∨ k ≤ i) : ra (elF (mixP at' k) at' col a) i = ra a i := by
  rw [elF_ra _ _ _ hi, if_neg (by unfold mixP; simp; omega)]
theorem clF_eq {at' col n : Nat} {a : Rws} (hl : a.length = n) : clF at' col a = elF (mixP at' n) at' col (scF at' (inv (gt (ra a at') col)) a) := by
  unfold clF
  rw [mix_end (by rw [scF_len]; exact hl)]
theorem scF_set {j c : Nat} {a : Rws} (hj : j < a.length) : scF j c a = a.set j (sc c (ra a j)) := ra_ext (by rw [scF_len, List.length_set]) fun i hi => by
  rw [scF_len] at hi
  rw [scF_ra _ _ hi, ra_set _ _ _ hi]
  split
  · rename_i e; rw [e]
  · rfl
theorem dv_one {x : Nat} : dv 1 x = inv x := gm_one (inv_lt x)

/-- What only changes a block. -/
abbrev KeepB (g : Nat) (w w' : World) : Prop := Keep (fun k => k = g) w w'
set_option maxRecDepth 100000 in
set_option maxHeartbeats 8000000 in
theorem clean_any {w : World} {p b m base g n c : Nat} {a : Rws} (H : WorkAt w p b m base g n c a) (F : Fld w b) (hbb : b < base) {at' col : Nat} (hat : at' < n) (hn : n ≤ 1000) (hcol : col < m) (hm : m ≤ 1000) (hv : gt (ra a at') col ≠ 0) :
    Calls Tryz.prog 261 #[.pointer (some ⟨p, 0, none⟩), .int .i64 (at' : Int), .int .i64 (col : Int)] w fun e w' => e = .returned (.tuple #[]) ∧ WorkAt w' p b m base g n c (clF at' col a) ∧ KeepB g w w' := by
  have k0 := H.box.cell 0
  have k1 := H.box.cell 1
  have lp := H.box.lt
  have hnc := H.nc
  have hal := H.shp.1
  obtain ⟨A, c', v1, _, hc1, hr⟩ := H.row hat
  obtain ⟨bb, o, rfl, ⟨hb1, hb2, hb3⟩, hbl⟩ := hr.addr hcol
  have HRr := Lib.hid hr
  obtain ⟨v2, x2⟩ := by_at hr hcol
  have lg0 : g < w.heap.size := by obtain ⟨cur, h1, _⟩ := H.cur; exact h1.lt
  have hdv := fun (y : Later w.heap.size w) => div_any (F.below y.ok) (a := 1) (c := gt (ra a at') col) (by decide) hv x2
  rw [dv_one] at hdv
  have HW := Lib.hid H
  have HF := Lib.hid F
  have q0 : (0 : Int) ≤ (at' : Int) := Int.natCast_nonneg _
  have q1 : (at' : Int) < (n : Int) := by omega
  have q2 : (0 : Int) ≤ (col : Int) := Int.natCast_nonneg _
  have q3 : (col : Int) < (m : Int) := by omega
  have q4 : (m : Int) ≤ 1000 := by omega
  have q5 : (n : Int) ≤ 1000 := by omega
  clear H F hr
  go_enter Tryz.func261, Tryz.ntmps261
  go_wp2_with fail
  refine wp_region_later (by kernel_rfl) (by kernel_rfl) ?_
  repeat (go_big_quiet_step ((go_at_call 166; exact Later.call _ (hdv _) (Nat.le_refl _))))
  refine wpQuiet_nil ?_
  rintro _ ⟨z, rfl⟩
  clear hdv
  have s1 : z.to.drew.cell? ⟨p, 0, none⟩ = some (.pointer (some ⟨b, 0, none⟩)) ∧ z.to.drew.cell? ⟨p, 1, none⟩ = some (.slice (some ⟨g, 0, none⟩) n c) ∧ z.to.drew.cell? ⟨g, at', none⟩ = some (.slice (some ⟨bb, o, none⟩) m c') := ⟨(z.cell lp).trans k0, (z.cell lp).trans k1, (z.cell lg0).trans v1⟩
  have HZ := Lib.hid (HW.out.below (z.ok.drew))
  have hsc := scale_any (w := z.to.drew) (cp := c') (HF.out.below z.ok.drew) (inv_lt (gt (ra a at') col)) (HRr.out.below ByR.stable z.ok.drew) (by omega)
  go_wp2_with fail
  refine wp_region_L (S := fun w' => w'.cell? ⟨p, 0, none⟩ = some (.pointer (some ⟨b, 0, none⟩)) ∧ w'.cell? ⟨p, 1, none⟩ = some (.slice (some ⟨g, 0, none⟩) n c) ∧ w'.cell? ⟨g, at', none⟩ = some (.slice (some ⟨bb, o, none⟩) m c')) [19] (by kernel_rfl) (by first | exact s1 | exact s2) (fun hHeld => ?_)
  refine tkL 0 rfl ?_
  refine tkL 1 rfl ?_
  refine tkL 2 rfl ?_
  refine tkL 3 rfl ?_
  refine tkL 4 rfl ?_
  refine tkL 5 rfl ?_
  refine tkL 6 rfl ?_
  refine tkL 7 rfl ?_
  refine tkL 8 rfl ?_
  refine tkL 9 rfl ?_
  refine tkL 10 rfl ?_
  refine tkL 11 rfl ?_
  refine tkL 12 rfl ?_
  refine tkL 13 rfl ?_
  refine tkL 14 rfl ?_
  refine tkL 15 rfl ?_
  refine tkL 16 rfl ?_
  refine rdL 17 rfl fun K hK => ?_
  try simp (maxSteps := 2000000) only [zz1, zz2, zz3]
  go_simp
  go_at_call 267
  refine hsc.mono ?_
  rintro e w2 ⟨gs, rfl, hgs, hrs, hb2⟩
  have HB2 := Lib.hid hb2
  have hw2 := HZ.out.below (w' := w2) hb2
  have c2 := (hb2.cell (p := ⟨p, 0, none⟩) (Nat.lt_of_lt_of_le lp z.ok.size)).trans s1.1
  have c3 := (hb2.cell (p := ⟨p, 1, none⟩) (Nat.lt_of_lt_of_le lp z.ok.size)).trans s1.2.1
  have c4 := (hb2.cell (p := ⟨g, at', none⟩) (Nat.lt_of_lt_of_le lg0 z.ok.size)).trans s1.2.2
  have s2 : w2.cell? ⟨p, 0, none⟩ = some (.pointer (some ⟨b, 0, none⟩)) ∧ w2.cell? ⟨p, 1, none⟩ = some (.slice (some ⟨g, 0, none⟩) n c) ∧ w2.cell? ⟨g, at', none⟩ = some (.slice (some ⟨bb, o, none⟩) m c') := ⟨c2, c3, c4⟩
  have f2 : w2.frozen? ⟨g, at', none⟩ = false := by obtain ⟨_, _, _, h, _⟩ := hw2.row hat; exact h
  have HW2 := Lib.hid hw2
  have HRS := Lib.hid hrs
  clear hsc hb2 hw2 hrs c2 c3 c4
  try (go_wp2_with fail)
  refine hK.out _ _ (by first | exact s1 | exact s2) (fun hHeld => ?_)
  clear hK K
  try simp (maxSteps := 2000000) only [zz1, zz2, zz3, Act.put, zz4, zz5, zz6]
  refine tkL 18 rfl ?_
  refine lsL 19 rfl fun K hK => ?_
  try simp (maxSteps := 2000000) only [zz1, zz2, zz3]
  go_simp
  refine hK.out _ _ ?_
  clear hK K
  try simp (maxSteps := 2000000) only [zz1, zz2, zz3, Act.put, zz4, zz5, zz6]
  refine wpAnyL_done (by kernel_rfl) ?_ _
  obtain ⟨a1, ha1⟩ : ∃ a1, a1 = scF at' (inv (gt (ra a at') col)) a := ⟨_, rfl⟩
  have hs1 : z.to.drew.heap.size = z.to.heap.size := rfl
  have zsz := z.ok.size
  have hw3 := HW2.out.set (i := at') (c' := m) (r := sc (inv (gt (ra a at') col)) (ra a at')) hat (Nat.le_refl _) (HRS.out.weaken ByR.stable fun k hk => by
    have hk2 : z.to.drew.heap.size ≤ k := hk
    have := HW2.out.hg
    have := HW2.out.hp
    have hb0 : base ≤ p := HW2.out.hp
    refine ⟨by omega, by omega, by omega⟩)
  rw [← scF_set (by omega), ← ha1] at hw3
  have hk3 : KeepB g w (w2.setCell ⟨g, at', none⟩ (.slice (some ⟨gs, 0, none⟩) m m)) := Keep.setCell (F := fun k => k = g) (p := ⟨g, at', none⟩) (Keep.of_below (z.ok.drew.trans (HB2.out.mono (by rw [hs1]; exact zsz)))) (fun _ => rfl) _
  have hf3 : Fld (w2.setCell ⟨g, at', none⟩ (.slice (some ⟨gs, 0, none⟩) m m)) b := (HF.out.below (z.ok.drew.trans (HB2.out.mono (by rw [hs1]; exact zsz)))).keep (Below.heap_setCell _ _ _ _ (by have := HW2.out.hg; dsimp only; omega))
  have h31 := hw3.box.cell 1
  generalize w2.setCell ⟨g, at', none⟩ (.slice (some ⟨gs, 0, none⟩) m m) = w3 at *
  have HW3 := Lib.hid hw3
  have HK3 := Lib.hid hk3
  have HF3 := Lib.hid hf3
  have hsh1 := hw3.shp
  have hl1 := hsh1.1
  have HA1 := Lib.hid ha1
  clear hw3 hk3 hf3 s1 s2 f2 hHeld HW2 HRS HB2 HZ hgs v1 v2 k0 k1 hs1 zsz ha1
  go_wp2_with fail
  go_loopw [52] (fun vi wr => ∃ k : Nat, k ≤ n ∧ vi = .int .i64 k ∧ Hid (WorkAt wr p b m base g n c (elF (mixP at' k) at' col a1)) ∧ Hid (KeepB g w3 wr)) (fun vi _ => n - (intOf vi).toNat)
  case atStart => exact ⟨0, Nat.zero_le _, rfl, by rw [mix_zero]; exact HW3, Lib.hid (Keep.refl _ _)⟩
  case round =>
    obtain ⟨k, hk, rfl, HM, HK⟩ := hrel
    have p0 : (0 : Int) ≤ (k : Int) := Int.natCast_nonneg _
    by_cases hlt : k < n
    · have p1 : (k : Int) < (n : Int) := by omega
      obtain ⟨A, d', v1, f1, hd1, hr⟩ := HM.out.row hlt
      rw [mix_at (by omega) (.inr (Nat.le_refl _))] at hr
      obtain ⟨b4, o4, rfl, ⟨g1, g2, g3⟩, hbl4⟩ := hr.addr hcol
      obtain ⟨v2, x4⟩ := by_at hr hcol
      have HR4 := Lib.hid hr
      clear hr
      by_cases hka : k = at'
      · have e1 : ((k : Int) != (at' : Int)) = false := by rw [hka]; simp
        have hms := mix_same hsh1 (col := col) hat (.inl hka) hlt
        rw [← hms] at HM
        clear hka hms
        go_wp2_with fail
        exact ⟨⟨k + 1, by omega, by go_num, HM, HK⟩, by simp [intOf]; omega⟩
      · have e1 : ((k : Int) != (at' : Int)) = true := by simpa using (by omega : ¬ (k : Int) = (at' : Int))
        by_cases h0 : gt (ra a1 k) col = 0
        · have hms := mix_same hsh1 (col := col) hat (.inr h0) hlt
          rw [← hms] at HM
          rw [h0] at v2
          clear hms h0 x4
          go_wp2_with fail
          exact ⟨⟨k + 1, by omega, by go_num, HM, HK⟩, by simp [intOf]; omega⟩
        · have e2 : (((gt (ra a1 k) col : Nat) : Int) != 0) = true := by simpa using h0
          have hmf := mix_fold (col := col) hka (by omega : k < a1.length)
          obtain ⟨A5, d5, v5, _, hd5, hr5⟩ := HM.out.row hat
          rw [mix_at (by omega) (.inl rfl)] at hr5
          have k0 := HM.out.box.cell 0
          have k1 := HM.out.box.cell 1
          have lp1 := HM.out.box.lt
          have lg1 : g < wr.heap.size := by obtain ⟨cur, h1, _⟩ := HM.out.cur; exact h1.lt
          have hfr : Fld wr b := HF3.out.keep (HK.out.block b HF3.out.lt (by have := HM.out.hg; omega))
          have hfo := fold_any (w := wr.drew) (cp := d5) (cp2 := d') (hfr.keep (w' := wr.drew) rfl) x4 (hr5.below (w' := wr.drew) ByR.stable (Below.refl _ _).drew) (by omega) hd5 (HR4.out.below (w' := wr.drew) ByR.stable (Below.refl _ _).drew) (by omega)
          have HD := Lib.hid (HM.out.below (w' := wr.drew) (Below.refl _ _).drew)
          have HMF := Lib.hid hmf
          have s1 : wr.drew.cell? ⟨p, 0, none⟩ = some (.pointer (some ⟨b, 0, none⟩)) ∧ wr.drew.cell? ⟨p, 1, none⟩ = some (.slice (some ⟨g, 0, none⟩) n c) ∧ wr.drew.cell? ⟨g, at', none⟩ = some (.slice A5 m d5) ∧ wr.drew.cell? ⟨b4, o4 + col, none⟩ = some (.int .u8 (gt (ra a1 k) col : Int)) := ⟨k0, k1, v5, v2⟩
          clear hmf hr5 hfr h0
          go_wp2_with fail
          refine wp_region_L (S := fun w' => w'.cell? ⟨p, 0, none⟩ = some (.pointer (some ⟨b, 0, none⟩)) ∧ w'.cell? ⟨p, 1, none⟩ = some (.slice (some ⟨g, 0, none⟩) n c) ∧ w'.cell? ⟨g, at', none⟩ = some (.slice A5 m d5) ∧ w'.cell? ⟨b4, o4 + col, none⟩ = some (.int .u8 (gt (ra a1 k) col : Int))) [23] (by kernel_rfl) (by first | exact s1 | exact s2) (fun hHeld => ?_)
          refine tkL 0 rfl ?_
          refine tkL 1 rfl ?_
          refine tkL 2 rfl ?_
          refine tkL 3 rfl ?_
          refine tkL 4 rfl ?_
          refine tkL 5 rfl ?_
          refine tkL 6 rfl ?_
          refine tkL 7 rfl ?_
          refine tkL 8 rfl ?_
          refine tkL 9 rfl ?_
          refine tkL 10 rfl ?_
          refine tkL 11 rfl ?_
          refine tkL 12 rfl ?_
          refine tkL 13 rfl ?_
          refine tkL 14 rfl ?_
          refine tkL 15 rfl ?_
          refine tkL 16 rfl ?_
          refine tkL 17 rfl ?_
          refine tkL 18 rfl ?_
          refine tkL 19 rfl ?_
          refine tkL 20 rfl ?_
          refine rdL 21 rfl fun K hK => ?_
          try simp (maxSteps := 2000000) only [zz1, zz2, zz3]
          go_simp
          go_at_call 210
          refine hfo.mono ?_
          rintro e w5 ⟨AN, cN, rfl, hcN, hrs, hb2⟩
          have HB5 := Lib.hid hb2
          have hw5 := HD.out.below (w' := w5) hb2
          have c2 := (hb2.cell (p := ⟨p, 0, none⟩) lp1).trans s1.1
          have c3 := (hb2.cell (p := ⟨p, 1, none⟩) lp1).trans s1.2.1
          have c4 := (hb2.cell (p := ⟨g, at', none⟩) lg1).trans s1.2.2.1
          have c5 := (hb2.cell (p := ⟨b4, o4 + col, none⟩) hbl4).trans s1.2.2.2
          have s2 : w5.cell? ⟨p, 0, none⟩ = some (.pointer (some ⟨b, 0, none⟩)) ∧ w5.cell? ⟨p, 1, none⟩ = some (.slice (some ⟨g, 0, none⟩) n c) ∧ w5.cell? ⟨g, at', none⟩ = some (.slice A5 m d5) ∧ w5.cell? ⟨b4, o4 + col, none⟩ = some (.int .u8 (gt (ra a1 k) col : Int)) := ⟨c2, c3, c4, c5⟩
          obtain ⟨_, _, c6, f6, _, _⟩ := hw5.row hlt
          have HW5 := Lib.hid hw5
          have HRS := Lib.hid hrs
          have HCN := Lib.hid hcN
          clear hfo hb2 hw5 hrs c2 c3 c4 c5 hcN
          try (go_wp2_with fail)
          refine hK.out _ _ (by first | exact s1 | exact s2) (fun hHeld => ?_)
          clear hK K
          try simp (maxSteps := 2000000) only [zz1, zz2, zz3, Act.put, zz4, zz5, zz6]
          refine tkL 22 rfl ?_
          refine lsL 23 rfl fun K hK => ?_
          try simp (maxSteps := 2000000) only [zz1, zz2, zz3]
          go_simp
          refine hK.out _ _ ?_
          clear hK K
          try simp (maxSteps := 2000000) only [zz1, zz2, zz3, Act.put, zz4, zz5, zz6]
          refine wpAnyL_done (by kernel_rfl) ?_ _
          have hw6 := HW5.out.set (i := k) hlt HCN.out (HRS.out.weaken ByR.stable fun j hj => by
            have hj2 : wr.heap.size ≤ j := hj
            have := HW5.out.hg
            refine ⟨by omega, by omega, by omega⟩)
          rw [← HMF.out] at hw6
          have hk6 : KeepB g w3 (w5.setCell ⟨g, k, none⟩ (.slice AN m cN)) := Keep.setCell (F := fun k => k = g) (p := ⟨g, k, none⟩) (keep_drew HK.out |>.trans (Keep.of_below (F := fun _ => False) HB5.out) (fun _ h => h.elim)) (fun _ => rfl) _
          have HW6 := Lib.hid hw6
          have HK6 := Lib.hid hk6
          clear hw6 hk6 s1 s2 hHeld
          go_wp2_with fail
          exact ⟨⟨k + 1, by omega, by go_num, HW6, HK6⟩, by simp [intOf]; omega⟩
    · have p1 : ¬ (k : Int) < (n : Int) := by omega
      obtain rfl : k = n := by omega
      rw [HA1.out, ← clF_eq hal] at HM
      go_wp2_with fail
      go_end0
      exact ⟨rfl, HM.out, HK3.out.trans HK.out (fun _ h _ => h)⟩
end
section

theorem eliF_succ (c col d : Nat) (a : Rws) : eliF (c + 1) col d a = if d = a.length then (d, a) else match pvF col (a.drop d) d with
    | none => eliF c (col + 1) d a
    | some k => eliF c (col + 1) (d + 1) (clF d col (swF a d k)) := rfl
theorem far2 {w : World} {p g i : Nat} (h : p ≠ g) {v : Option Value} {u : Value} (hc : w.cell? ⟨p, 1, none⟩ = v) : (w.setCell ⟨g, i, none⟩ u).cell? ⟨p, 1, none⟩ = v := (World.cell?_setCell_other _ _ _ _ (fun e => h (by injection e with e; exact e.symm))).trans hc
set_option maxRecDepth 100000 in
set_option maxHeartbeats 8000000 in
theorem eliminate_any {w : World} {p b m base g n c cols : Nat} {a : Rws} (H : WorkAt w p b m base g n c a) (F : Fld w b) (hbb : b < base) (hn : n ≤ 1000) (hcol : cols ≤ m) (hm : m ≤ 1000) :
    Calls Tryz.prog 249 #[.pointer (some ⟨p, 0, none⟩), .int .i64 (cols : Int)] w fun e w' => e = .returned (.int .i64 ((eliF cols 0 0 a).1 : Int)) ∧ WorkAt w' p b m base g n c (eliF cols 0 0 a).2 ∧ KeepB g w w' := by
  have HW := Lib.hid H
  have HF := Lib.hid F
  have q0 : (0 : Int) ≤ (cols : Int) := Int.natCast_nonneg _
  have q1 : (cols : Int) ≤ 1000 := by omega
  have q2 : (n : Int) ≤ 1000 := by omega
  clear H F
  obtain ⟨R, hR⟩ : ∃ R, eliF cols 0 0 a = R := ⟨_, rfl⟩
  rw [hR]
  have HR := Lib.hid hR
  clear hR
  go_enter Tryz.func249, Tryz.ntmps249
  go_wp2_with fail
  go_loopw [5, 9] (fun vd vi wr => ∃ (col d : Nat) (a' : Rws), col ≤ cols ∧ d ≤ n ∧ vi = .int .i64 col ∧ vd = .int .i64 d ∧ Hid (eliF (cols - col) col d a' = R) ∧ Hid (WorkAt wr p b m base g n c a') ∧ Hid (KeepB g w wr)) (fun _ vi _ => cols - (intOf vi).toNat)
  case atStart => exact ⟨0, 0, a, Nat.zero_le _, Nat.zero_le _, rfl, rfl, HR, HW, Lib.hid (Keep.refl _ _)⟩
  case round =>
    clear HR HW a
    obtain ⟨col, d, a, hc, hd, rfl, rfl, HR, HM, HK⟩ := hrel
    have p0 : (0 : Int) ≤ (col : Int) := Int.natCast_nonneg _
    have p2 : (0 : Int) ≤ (d : Int) := Int.natCast_nonneg _
    have hal := HM.out.shp.1
    have k1 := HM.out.box.cell 1
    by_cases hlt : col < cols
    · have p1 : (col : Int) < (cols : Int) := by omega
      have hE := HR.out
      rw [show cols - col = (cols - (col + 1)) + 1 by omega, eliF_succ] at hE
      by_cases hdn : d = n
      · rw [if_pos (by omega)] at hE
        have e1 : ((d : Int) == (n : Int)) = true := by rw [hdn]; simp
        have h1 : R.1 = d := by rw [← hE]
        have h2 : R.2 = a := by rw [← hE]
        have H1 := Lib.hid h1
        have H2 := Lib.hid h2
        clear hE h1 h2 hdn
        go_wp2_with fail
        go_ret
        rw [H1.out, H2.out]
        exact ⟨rfl, HM.out, HK.out⟩
      · rw [if_neg (by omega)] at hE
        have e1 : ((d : Int) == (n : Int)) = false := by simpa using (by omega : ¬ (d : Int) = (n : Int))
        have hpv := pivot_any HM.out (d := d) (col := col) (by omega) hn (by omega) hm
        cases hp : pvF col (a.drop d) d with
        | none =>
          rw [hp] at hE
          have hI : pvI col a d = -1 := by unfold pvI; rw [hp]
          rw [hI] at hpv
          have HE := Lib.hid hE
          clear hp hI hE hdn
          go_wp2_with (go_at_call 260; refine hpv.mono ?_; rintro e w9 ⟨rfl, hw9⟩; rw [hw9]; clear hw9)
          exact ⟨⟨col + 1, d, a, by omega, hd, by go_num, rfl, HE, HM, HK⟩, by simp [intOf]; omega⟩
        | some k =>
          rw [hp] at hE
          have hI : pvI col a d = (k : Int) := by unfold pvI; rw [hp]
          rw [hI] at hpv
          obtain ⟨r, x1, x2, x3⟩ := pvF_some hp
          rw [List.getElem?_drop, show d + (k - d) = k by omega] at x1
          have hkn : k < n := by rw [← hal]; exact (List.getElem?_eq_some_iff.1 x1).1
          have x4 : gt (ra a k) col ≠ 0 := by rw [ra_some x1]; exact x2
          have hsw : gt (ra (swF a d k) d) col ≠ 0 := by
            rw [swF_ra _ _ _ (by omega)]
            split
            · rename_i e; rw [e]; exact x4
            · rw [if_pos rfl]; exact x4
          obtain ⟨Ad, cd, vd, fd0, hcd, hrd⟩ := HM.out.row (i := d) (by omega)
          obtain ⟨Ak, ck, vk, fk0, hck, hrk⟩ := HM.out.row hkn
          have hw1 := HM.out.set (i := d) (by omega) hck hrk
          have hw2 := hw1.set (i := k) hkn hcd (hrd.setCell ByR.stable (fun h => h.2.1 rfl) _)
          have hww : WorkAt ((wr.setCell ⟨g, d, none⟩ (.slice Ak m ck)).setCell ⟨g, k, none⟩ (.slice Ad m cd)).drew p b m base g n c (swF a d k) := hw2.below (Below.refl _ _).drew
          obtain ⟨_, _, v5, f5, _, _⟩ := hw1.row hkn
          have HE := Lib.hid hE
          have HS := Lib.hid hsw
          have HW2 := Lib.hid hww
          have p5 : (k : Int) < (n : Int) := by omega
          have p6 : (0 : Int) ≤ (k : Int) := Int.natCast_nonneg _
          have p7 : (d : Int) < (n : Int) := by omega
          have p8 : ¬ (k : Int) < 0 := by omega
          have hpg := HM.out.pg
          have s2 : (wr.drew.setCell ⟨g, d, none⟩ (.slice Ak m ck)).cell? ⟨p, 1, none⟩ = some (.slice (some ⟨g, 0, none⟩) n c) := far2 hpg k1
          have s3 : ((wr.drew.setCell ⟨g, d, none⟩ (.slice Ak m ck)).setCell ⟨g, k, none⟩ (.slice Ad m cd)).cell? ⟨p, 1, none⟩ = some (.slice (some ⟨g, 0, none⟩) n c) := far2 hpg s2
          have s1 : wr.drew.cell? ⟨p, 1, none⟩ = some (.slice (some ⟨g, 0, none⟩) n c) ∧ wr.drew.cell? ⟨g, d, none⟩ = some (.slice Ad m cd) ∧ wr.drew.cell? ⟨g, k, none⟩ = some (.slice Ak m ck) := ⟨k1, vd, vk⟩
          clear hp hI hE hdn hw1 hw2 hww x1 x2 x3 x4 hrd hrk hsw
          go_wp2_with (go_at_call 260; refine hpv.mono ?_; rintro e w9 ⟨rfl, hw9⟩; rw [hw9]; clear hw9 hpv)
          refine wp_region_held_drew (S := fun w' => w'.cell? ⟨p, 1, none⟩ = some (.slice (some ⟨g, 0, none⟩) n c)) (by kernel_rfl) (by first | exact s1.1 | exact s2 | exact s3) (fun hHeld => ?_)
          refine tkH 0 rfl ?_
          refine tkH 1 rfl ?_
          refine tkH 2 rfl ?_
          refine tkH 3 rfl ?_
          refine tkH 4 rfl ?_
          refine tkH 5 rfl ?_
          refine tkH 6 rfl ?_
          refine tkH 7 rfl ?_
          refine tkH 8 rfl ?_
          refine tkH 9 rfl ?_
          refine tkH 10 rfl ?_
          refine tkH 11 rfl ?_
          refine tkH 12 rfl ?_
          refine tkH 13 rfl ?_
          refine tkH 14 rfl ?_
          refine tkH 15 rfl ?_
          refine tkH 17 rfl ?_
          refine tkH 18 rfl ?_
          refine tkH 19 rfl ?_
          refine tkH 20 rfl ?_
          refine tkH 21 rfl ?_
          refine tkH 22 rfl ?_
          refine wpAnyH_ready (rs := [16, 23]) (by kernel_rfl) (by simp) ?_
          refine AllReadyH.cons rfl (fun K hK => ?_) (AllReadyH.cons rfl (fun K hK => ?_) AllReadyH.nil)
          · try simp (maxSteps := 2000000) only [zz1, zz2, zz3]
            go_simp
            refine hK.out _ _ (by first | exact s1.1 | exact s2 | exact s3) (fun hHeld => ?_)
            clear hK K
            try simp (maxSteps := 2000000) only [zz1, zz2, zz3, Act.put, zz4, zz5, zz6]
            refine rdH 23 rfl fun K hK => ?_
            try simp (maxSteps := 2000000) only [zz1, zz2, zz3]
            go_simp
            refine hK.out _ _ (by first | exact s1.1 | exact s2 | exact s3) (fun hHeld => ?_)
            clear hK K
            try simp (maxSteps := 2000000) only [zz1, zz2, zz3, Act.put, zz4, zz5, zz6]
            refine tkH 24 rfl ?_
            refine rdH 25 rfl fun K hK => ?_
            try simp (maxSteps := 2000000) only [zz1, zz2, zz3]
            go_simp
            refine hK.out _ _ (by first | exact s1.1 | exact s2 | exact s3) (fun hHeld => ?_)
            clear hK K
            try simp (maxSteps := 2000000) only [zz1, zz2, zz3, Act.put, zz4, zz5, zz6]
            refine tkH 26 rfl ?_
            refine rdH 27 rfl fun K hK => ?_
            try simp (maxSteps := 2000000) only [zz1, zz2, zz3]
            go_simp
            refine hK.out _ _ (by first | exact s1.1 | exact s2 | exact s3) (fun hHeld => ?_)
            clear hK K
            try simp (maxSteps := 2000000) only [zz1, zz2, zz3, Act.put, zz4, zz5, zz6]
            refine wpAnyH_done (by kernel_rfl) ?_ _
            have hk2 : KeepB g w ((wr.setCell ⟨g, d, none⟩ (.slice Ak m ck)).setCell ⟨g, k, none⟩ (.slice Ad m cd)).drew := keep_drew <| Keep.setCell (F := fun k => k = g) (p := ⟨g, k, none⟩) (Keep.setCell (F := fun k => k = g) (p := ⟨g, d, none⟩) HK.out (fun _ => rfl) _) (fun _ => rfl) _
            have HK2 := Lib.hid hk2
            clear hk2 s1 s2 s3 hHeld k1 vd vk fd0 fk0 v5 f5
            generalize ((wr.setCell ⟨g, d, none⟩ (.slice Ak m ck)).setCell ⟨g, k, none⟩ (.slice Ad m cd)).drew = w5 at *
            have hcl := clean_any HW2.out (HF.out.keep (HK2.out.block b HF.out.lt (by have := HM.out.hg; omega))) hbb (at' := d) (col := col) (by omega) hn (by omega) hm HS.out
            go_wp2_with (go_at_call 261; refine hcl.mono ?_; rintro e w6 ⟨rfl, h6, h7⟩; have H6 := Lib.hid h6; have H7 := Lib.hid (HK2.out.trans h7 (fun _ h _ => h)); clear h6 h7 hcl)
            exact ⟨⟨col + 1, d + 1, _, by omega, by omega, by go_num, by go_num, HE, H6, H7⟩, by simp [intOf]; omega⟩
          · try simp (maxSteps := 2000000) only [zz1, zz2, zz3]
            go_simp
            refine hK.out _ _ (by first | exact s1.1 | exact s2 | exact s3) (fun hHeld => ?_)
            clear hK K
            try simp (maxSteps := 2000000) only [zz1, zz2, zz3, Act.put, zz4, zz5, zz6]
            refine rdH 16 rfl fun K hK => ?_
            try simp (maxSteps := 2000000) only [zz1, zz2, zz3]
            go_simp
            refine hK.out _ _ (by first | exact s1.1 | exact s2 | exact s3) (fun hHeld => ?_)
            clear hK K
            try simp (maxSteps := 2000000) only [zz1, zz2, zz3, Act.put, zz4, zz5, zz6]
            refine tkH 24 rfl ?_
            refine rdH 25 rfl fun K hK => ?_
            try simp (maxSteps := 2000000) only [zz1, zz2, zz3]
            go_simp
            refine hK.out _ _ (by first | exact s1.1 | exact s2 | exact s3) (fun hHeld => ?_)
            clear hK K
            try simp (maxSteps := 2000000) only [zz1, zz2, zz3, Act.put, zz4, zz5, zz6]
            refine tkH 26 rfl ?_
            refine rdH 27 rfl fun K hK => ?_
            try simp (maxSteps := 2000000) only [zz1, zz2, zz3]
            go_simp
            refine hK.out _ _ (by first | exact s1.1 | exact s2 | exact s3) (fun hHeld => ?_)
            clear hK K
            try simp (maxSteps := 2000000) only [zz1, zz2, zz3, Act.put, zz4, zz5, zz6]
            refine wpAnyH_done (by kernel_rfl) ?_ _
            have hk2 : KeepB g w ((wr.setCell ⟨g, d, none⟩ (.slice Ak m ck)).setCell ⟨g, k, none⟩ (.slice Ad m cd)).drew := keep_drew <| Keep.setCell (F := fun k => k = g) (p := ⟨g, k, none⟩) (Keep.setCell (F := fun k => k = g) (p := ⟨g, d, none⟩) HK.out (fun _ => rfl) _) (fun _ => rfl) _
            have HK2 := Lib.hid hk2
            clear hk2 s1 s2 s3 hHeld k1 vd vk fd0 fk0 v5 f5
            generalize ((wr.setCell ⟨g, d, none⟩ (.slice Ak m ck)).setCell ⟨g, k, none⟩ (.slice Ad m cd)).drew = w5 at *
            have hcl := clean_any HW2.out (HF.out.keep (HK2.out.block b HF.out.lt (by have := HM.out.hg; omega))) hbb (at' := d) (col := col) (by omega) hn (by omega) hm HS.out
            go_wp2_with (go_at_call 261; refine hcl.mono ?_; rintro e w6 ⟨rfl, h6, h7⟩; have H6 := Lib.hid h6; have H7 := Lib.hid (HK2.out.trans h7 (fun _ h _ => h)); clear h6 h7 hcl)
            exact ⟨⟨col + 1, d + 1, _, by omega, by omega, by go_num, by go_num, HE, H6, H7⟩, by simp [intOf]; omega⟩
    · have p1 : ¬ (col : Int) < (cols : Int) := by omega
      have hE := HR.out
      rw [show cols - col = 0 by omega] at hE
      have h1 : R.1 = d := by rw [← hE]; rfl
      have h2 : R.2 = a := by rw [← hE]; rfl
      have H1 := Lib.hid h1
      have H2 := Lib.hid h2
      clear hE h1 h2
      go_wp2_with fail
      go_ret
      rw [H1.out, H2.out]
      exact ⟨rfl, HM.out, HK.out⟩
end
section

def mkF (f : Nat → Nat → Nat) (rows cols : Nat) : Rws := (List.range rows).map fun i => (List.range cols).map (f i)
theorem mkF_flat (f : Nat → Nat → Nat) (rows cols : Nat) : flatF f rows cols = (mkF f rows cols).flatten := rfl
theorem mkF_ra {f : Nat → Nat → Nat} {rows cols i : Nat} (hi : i < rows) : ra (mkF f rows cols) i = (List.range cols).map (f i) := ra_some (by unfold mkF; rw [List.getElem?_map, List.getElem?_range hi]; rfl)
theorem range_gt {f : Nat → Nat} {n j : Nat} (hj : j < n) : gt ((List.range n).map f) j = f j := by
  unfold gt
  rw [List.getD_eq_getElem?_getD, List.getElem?_map, List.getElem?_range hj]; rfl
theorem mkF_shp {f : Nat → Nat → Nat} {rows cols : Nat} (h : ∀ i j, i < rows → j < cols → f i j < 256) : Shp rows cols (mkF f rows cols) := .of (by unfold mkF; simp) fun i hi => by
  rw [mkF_ra hi]
  refine ⟨by simp, fun x hx => ?_⟩
  obtain ⟨j, hj, rfl⟩ := List.mem_map.1 hx
  exact h i j hi (List.mem_range.1 hj)
/-- What elimination leaves of a matrix and the identity behind it. -/
def eliR (V : Rws) (n : Nat) : Rws := (eliF n 0 0 (begF V n n)).2
def invE (V : Rws) (n i j : Nat) : Nat := gt (ra (eliR V n) i) (n + j)
theorem begF_ra {V : Rws} {n i : Nat} (hi : i < n) : ra (begF V n n) i = begRow V n i := ra_some (by unfold begF; rw [List.getElem?_map, List.getElem?_range hi]; rfl)
theorem begRow_gt {V : Rws} {n i l : Nat} (hV : Shp n n V) (hi : i < n) (hl : l < n + n) : gt (begRow V n i) l = if l < n then gt (ra V i) l else if l = n + i then 1 else 0 := by
  unfold begRow
  have h := (hV.row hi).1
  rw [gt_set _ _ _ (by rw [List.length_append, List.length_replicate, h]; exact hl), gt_append, h]
  by_cases e : l = n + i
  · rw [if_pos e, if_neg (by omega), if_pos e]
  · rw [if_neg e]
    by_cases e2 : l < n
    · rw [if_pos e2, if_pos e2]
    · rw [if_neg e2, if_neg e2, if_neg e]
      unfold gt
      rw [List.getD_eq_getElem?_getD, List.getElem?_replicate]
      split <;> rfl
theorem inj_beg {V : Rws} {n : Nat} (hV : Shp n n V) (h : Inj n V) : Inj n (begF V n n) := fun x hx hx0 hz => h x hx hx0 fun i hi => by
  rw [← hz i hi]
  refine sumx_cong fun l hl => ?_
  rw [begF_ra hi, begRow_gt hV hi (by omega), if_pos hl]
theorem eliR_ok {V : Rws} {n : Nat} (hV : Shp n n V) (h : Inj n V) : (eliF n 0 0 (begF V n n)).1 = n ∧ Gj n (n + n) n (eliR V n) ∧ ∀ y : Nat → Nat, (∀ l, y l < 256) → (Ann n (n + n) (eliR V n) y ↔ Ann n (n + n) (begF V n n) y) := by
  obtain ⟨a', h1, h2, h3⟩ := eli_ok (n := n) (m := n + n) (by omega) (inj_beg hV h) n 0 (begF V n n) (by omega) ⟨begF_shp hV, fun _ _ _ hl => absurd hl (Nat.not_lt_zero _)⟩ (fun _ _ => Iff.rfl)
  unfold eliR
  rw [h1]
  exact ⟨rfl, h2, h3⟩
theorem call_inv1 (args : Array Value) (w : World) : (callFunc 250 args).run Tryz.prog w = .ok (.enter 250 args) w := by go_simp
set_option maxRecDepth 100000 in
set_option maxHeartbeats 1600000 in
theorem inv1_any {w : World} {p b base g n c pb mb : Nat} {a : Rws} {v0 v2 : Value} (H : WorkAt w p b (n + n) base g n c a) (hp : BoxAt w pb #[.pointer (some ⟨p, 0, none⟩)]) (hm : BoxAt w mb #[v0, .int .i64 (n : Int), v2]) (hn : n ≤ 255) {i j : Nat} (hi : i < n) (hj : j < n) :
    Calls Tryz.prog 250 #[.int .i64 (i : Int), .int .i64 (j : Int), .pointer (some ⟨pb, 0, none⟩), .pointer (some ⟨mb, 0, none⟩)] w fun e w' => e = .returned (.int .u8 (gt (ra a i) (n + j) : Int)) ∧ Below w.heap.size w w' := by
  have k1 := H.box.cell 1
  have k2 := hp.cell 0
  have k3 := hm.cell 1
  have l1 := H.box.lt
  have l2 := hp.lt
  have l3 := hm.lt
  obtain ⟨A, c', v1, _, hc1, hr⟩ := H.row hi
  obtain ⟨bb, o, rfl, _, hbl⟩ := hr.addr (k := n + j) (by omega)
  obtain ⟨v2', x2⟩ := by_at hr (k := n + j) (by omega)
  have lg0 : g < w.heap.size := by obtain ⟨cur, h1, _⟩ := H.cur; exact h1.lt
  have q1 : (i : Int) < (n : Int) := by omega
  have q2 : (0 : Int) ≤ (i : Int) := Int.natCast_nonneg _
  have q3 : (0 : Int) ≤ (j : Int) := Int.natCast_nonneg _
  have q4 : (j : Int) < (n : Int) := by omega
  have q5 : (n : Int) ≤ 255 := by omega
  have q6 : IntKind.i64.wrap ((n : Int) + (j : Int)) = ((n + j : Nat) : Int) := by rw [IntKind.wrap_i64]; omega
  have q7 : ((n + j : Nat) : Int) < ((n + n : Nat) : Int) := by omega
  have q8 : (0 : Int) ≤ ((n + j : Nat) : Int) := Int.natCast_nonneg _
  clear H hp hm hr
  go_enter Tryz.func250, Tryz.ntmps250
  go_wp2_with fail
  refine wp_region_later (by kernel_rfl) (by kernel_rfl) ?_
  repeat (go_big_quiet_step (fail))
  refine wpQuiet_nil ?_
  rintro _ ⟨z, rfl⟩
  go_wp2_with fail
  go_ret
  exact ⟨rfl, z.ok⟩
set_option maxRecDepth 100000 in
set_option maxHeartbeats 8000000 in
theorem invert_any {w : World} {b n c : Nat} {A : Option Addr} {S : Nat → Prop} {V : Rws} (F : Fld w b) (hV : Shp n n V) (hI : Inj n V) (h1 : 1 ≤ n) (h2 : n ≤ 255) (R : RdL ByR 1 S w A (n * n) V.flatten) (hc : n * n ≤ c) :
    Calls Tryz.prog 236 #[.pointer (some ⟨b, 0, none⟩), .agg #[.int .i64 (n : Int), .int .i64 (n : Int), .slice A (n * n) c]] w fun e w' => ∃ A' c', e = .returned (.tuple #[.agg #[.int .i64 (n : Int), .int .i64 (n : Int), .slice A' (n * n) c'], .int .i64 0]) ∧ n * n ≤ c' ∧
      RdL ByR 1 (fun k => w.heap.size ≤ k) w' A' (n * n) (mkF (invE V n) n n).flatten ∧ Below w.heap.size w w' := by
  have HR := Lib.hid R
  have HF := Lib.hid F
  obtain ⟨e1, e2, _⟩ := eliR_ok hV hI
  have E1 := Lib.hid e1
  have E2 := Lib.hid e2
  have q1 : (n : Int) ≤ 255 := by omega
  have q0 : (0 : Int) ≤ (n : Int) := Int.natCast_nonneg _
  clear R F e1 e2
  go_enter Tryz.func236, Tryz.ntmps236
  go_wp2_with fail
  have hm1 := (BoxAt.new w #[.int .i64 (n : Int), .int .i64 (n : Int), .slice A (n * n) c] 181).alloc (.cells #[.int .i64 0, .int .i64 0, .slice none 0 0] 181)
  have hr1 := BoxAt.new (w.alloc (.cells #[.int .i64 (n : Int), .int .i64 (n : Int), .slice A (n * n) c] 181)) #[.int .i64 0, .int .i64 0, .slice none 0 0] 181
  have hb1 : Below w.heap.size w ((w.alloc (.cells #[.int .i64 (n : Int), .int .i64 (n : Int), .slice A (n * n) c] 181)).alloc (.cells #[.int .i64 0, .int .i64 0, .slice none 0 0] 181)) := (by repeat (first | (with_reducible exact Below.refl _ _) | (with_reducible assumption) | (with_reducible refine Below.drew ?_) | (with_reducible refine Below.setCell ?_ ?_ _) | (with_reducible refine Below.alloc ?_ ?_ _) | (with_reducible refine Below.later ?_ ?_ _) | (first | (with_reducible exact Nat.le_refl _) | omega | (simp only [World.size_alloc, World.size_setCell, World.size_drew] <;> omega))))
  rw [World.size_alloc] at hr1
  generalize ((w.alloc (.cells #[.int .i64 (n : Int), .int .i64 (n : Int), .slice A (n * n) c] 181)).alloc (.cells #[.int .i64 0, .int .i64 0, .slice none 0 0] 181)) = w1 at *
  refine (nobody_any (HF.out.below hb1)).mono ?_
  rintro e w2 ⟨rfl, hb2⟩
  have hbA := hb1.trans (hb2.mono hb1.size)
  replace hm1 := hm1.below hb2
  replace hr1 := hr1.below hb2
  have k0 := hm1.cell 0
  have k1 := hm1.cell 1
  have k2 := hm1.cell 2
  clear hb1 hb2
  go_wp2_with fail
  refine (right_ok h1 h2 h1 h2).mono ?_
  rintro e w3 ⟨rfl, hb3⟩
  replace hbA := hbA.trans (hb3.mono hbA.size)
  replace hm1 := hm1.below hb3
  replace hr1 := hr1.below hb3
  replace k0 := hm1.cell 0
  replace k1 := hm1.cell 1
  replace k2 := hm1.cell 2
  clear hb3
  go_wp2_with fail
  have hml := hm1.lt
  have hrl := hr1.lt
  refine (begun_any hV h1 h2 (HR.out.below ByR.stable hbA) hc).mono ?_
  rintro e w4 ⟨p, g, cc, rfl, hW, hb4⟩
  have hs3 := hbA.size
  replace hbA := hbA.trans (hb4.mono hbA.size)
  replace hm1 := hm1.below hb4
  replace hr1 := hr1.below hb4
  have hgg := hW.hg
  have hm3 := hb4.size
  clear hb4 k0 k1 k2
  go_wp2_with fail
  have hb5 : Below w4.heap.size w4 (w4.alloc (.cells #[.pointer (some ⟨p, 0, none⟩)] 325)) := (Below.refl _ _).alloc (Nat.le_refl _) _
  have hp5 := BoxAt.new w4 #[.pointer (some ⟨p, 0, none⟩)] 325
  generalize (w4.alloc (.cells #[.pointer (some ⟨p, 0, none⟩)] 325)) = w5 at *
  obtain ⟨pb, hpb⟩ : ∃ pb, w4.heap.size = pb := ⟨_, rfl⟩
  have hgl : g < w4.heap.size := by obtain ⟨cur, h1, _⟩ := hW.cur; exact h1.lt
  replace hbA := hbA.trans (hb5.mono hbA.size)
  replace hm1 := hm1.below hb5
  replace hr1 := hr1.below hb5
  replace hW := (hW.below hb5).below (w' := w5.drew) (Below.refl _ _).drew
  rw [hpb] at hp5 hgl ⊢
  have hbd : Below w.heap.size w w5.drew := hbA.drew
  have hel := eliminate_any hW (HF.out.below hbd) (by have := HF.out.lt; omega) (by omega) (by omega : n ≤ n + n) (by omega)
  rw [E1.out] at hel
  have s1 : w5.drew.cell? ⟨pb, 0, none⟩ = some (.pointer (some ⟨p, 0, none⟩)) ∧ w5.drew.cell? ⟨w.heap.size, 0, none⟩ = some (.int .i64 n) ∧ w5.drew.cell? ⟨w.heap.size, 1, none⟩ = some (.int .i64 n) := ⟨hp5.cell 0, hm1.cell 0, hm1.cell 1⟩
  have HP5 := Lib.hid hp5
  have HM5 := Lib.hid hm1
  have HR5 := Lib.hid hr1
  have HBD := Lib.hid hbd
  clear hp5 hm1 hr1 hbd hb5 hW hbA
  refine wp_region_held_drew (S := fun w' => w'.cell? ⟨pb, 0, none⟩ = some (.pointer (some ⟨p, 0, none⟩)) ∧ w'.cell? ⟨w.heap.size, 0, none⟩ = some (.int .i64 n) ∧ w'.cell? ⟨w.heap.size, 1, none⟩ = some (.int .i64 n)) (by kernel_rfl) (by first | exact s1 | exact s2) (fun hHeld => ?_)
  refine tkH 0 rfl ?_
  refine tkH 1 rfl ?_
  refine tkH 2 rfl ?_
  refine tkH 4 rfl ?_
  refine tkH 5 rfl ?_
  refine rdH 3 rfl fun K hK => ?_
  try simp (maxSteps := 2000000) only [zz1, zz2, zz3]
  go_simp
  go_at_call 249
  refine hel.mono ?_
  rintro e w6 ⟨rfl, h6, h7⟩
  have hp6 := (HP5.out.below (Below.refl _ _).drew).keeps h7 (by omega)
  have hm6 := (HM5.out.below (Below.refl _ _).drew).keeps h7 (by omega)
  have hr6 := (HR5.out.below (Below.refl _ _).drew).keeps h7 (by omega)
  have s2 : w6.cell? ⟨pb, 0, none⟩ = some (.pointer (some ⟨p, 0, none⟩)) ∧ w6.cell? ⟨w.heap.size, 0, none⟩ = some (.int .i64 n) ∧ w6.cell? ⟨w.heap.size, 1, none⟩ = some (.int .i64 n) := ⟨hp6.cell 0, hm6.cell 0, hm6.cell 1⟩
  have hb6 : Below w.heap.size w w6 := HBD.out.trans (Keep.below h7 HBD.out.size (fun k hk => by omega))
  have HP6 := Lib.hid hp6
  have HM6 := Lib.hid hm6
  have HR6 := Lib.hid hr6
  have HW6 := Lib.hid h6
  have HB6 := Lib.hid hb6
  clear hp6 hm6 hr6 h6 h7 hb6 hel
  try (go_wp2_with fail)
  refine hK.out _ _ (by first | exact s1 | exact s2) (fun hHeld => ?_)
  clear hK K
  try simp (maxSteps := 2000000) only [zz1, zz2, zz3, Act.put, zz4, zz5, zz6]
  refine tkH 6 rfl ?_
  refine wpAnyH_done (by kernel_rfl) ?_ _
  have k0 := HM6.out.cell 0
  have k1 := HM6.out.cell 1
  have hs6 := HB6.out.size
  clear s1 s2 hHeld
  go_wp2_with fail
  refine (filled_any h2 h2 (g := 250) (f := invE V n) (Lib.hid call_inv1) (Lib.hid fun i j W hi hj hW => ?_)).mono ?_
  · exact (inv1_any (HW6.out.below hW) (HP6.out.below hW) (HM6.out.below hW) h2 hi hj).mono fun e W' h => ⟨h.1, gt_lt (E2.out.shp.row hi).2 _, h.2⟩
  rintro e w7 ⟨A', c', rfl, hc', hr7, hb7⟩
  have g0 := (HR6.out.below hb7).cell 0
  have g1 := (HR6.out.below hb7).cell 1
  have g2 := (HR6.out.below hb7).cell 2
  have f0 := (HR6.out.below hb7).frozen 0
  have f1 := (HR6.out.below hb7).frozen 1
  have f2 := (HR6.out.below hb7).frozen 2
  have hrl6 := HR6.out.lt
  have HB7 := Lib.hid hb7
  have HRR := Lib.hid hr7
  clear hr7 hb7 k0 k1
  go_wp2_with fail
  refine bodyPost_ret (v := .tuple #[.agg #[.int .i64 (n : Int), .int .i64 (n : Int), .slice A' (n * n) c'], .int .i64 0]) (by simp [results, Tryz.results236, go_sem, *]) rfl ?_
  refine ⟨A', c', rfl, hc', ?_, ?_⟩
  · refine RdL.weaken ByR.stable (S := fun k => w6.heap.size ≤ k) ?_ (fun k hk => by have h5 : w6.heap.size ≤ k := hk; show _ ≤ k; omega)
    rw [← mkF_flat]
    repeat (first | exact HRR.out | refine RdL.setCell ByR.stable ?_ (show ¬ w6.heap.size ≤ _ by dsimp only; omega) _)
  · have hbk := HB6.out.trans (HB7.out.mono hs6)
    repeat (first | exact hbk | refine Below.setCell ?_ (by dsimp only; omega) _)
end
end Go.Proofs.YtihnlhfngmbglaaGreat
