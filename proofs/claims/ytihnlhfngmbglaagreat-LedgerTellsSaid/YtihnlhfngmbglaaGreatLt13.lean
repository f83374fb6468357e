/-
  Numbers read out of bytes, by the reference.
  A sector read as a shard, as the document does: ref11.number, Is, Get.
  The document's stripes: rows and Whole.
  The document's stripes: Whole, of any name.
-/
import Derived.Test.YtihnlhfngmbglaaGreatLt8
import Derived.Test.YtihnlhfngmbglaaGreatLt5
import Derived.Test.YtihnlhfngmbglaaGreatLt11
import Derived.Test.YtihnlhfngmbglaaGreatLt12
import Derived.Test.YtihnlhfngmbglaaGreatLt3
set_option linter.unusedSimpArgs false
set_option linter.unusedVariables false
namespace Go.Proofs.YtihnlhfngmbglaaGreat
open Go.RowKit Go.Cib
attribute [local go_sem] cell_set Later.cell Later.frozen Grw.cell Grw.frozen
section
theorem unN_at {xs : List Nat} {a i k : Nat} (hi : i < k) (hk : a + k ≤ xs.length) : unN ((xs.drop (a + i)).take (k - i)) = 256 * unN ((xs.drop (a + (i + 1))).take (k - (i + 1))) + gt xs (a + i) := by
  obtain ⟨d, hd⟩ : ∃ d, k - i = d + 1 := ⟨k - i - 1, by omega⟩
  rw [hd, show k - (i + 1) = d by omega, List.drop_eq_getElem_cons (show a + i < xs.length by omega), List.take_succ_cons]
  show xs[a + i] + 256 * unN ((xs.drop (a + i + 1)).take d) = _
  rw [show a + (i + 1) = a + i + 1 by omega]
  have : gt xs (a + i) = xs[a + i] := by
    unfold gt
    rw [List.getD_eq_getElem?_getD, List.getElem?_eq_getElem (show a + i < xs.length by omega)]; rfl
  rw [this]; omega
theorem unN_part {xs : List Nat} (hb : Byt xs) (a d : Nat) (hd : d ≤ 8) : unN ((xs.drop a).take d) < 2 ^ 64 := by
  have h := unN_lt (l := (xs.drop a).take d) fun x hx => hb x (List.mem_of_mem_drop (List.mem_of_mem_take hx))
  have hl : ((xs.drop a).take d).length ≤ d := by rw [List.length_take]; omega
  exact Nat.lt_of_lt_of_le h (Nat.pow_le_pow_right (by omega) (by omega))
set_option maxRecDepth 100000 in
set_option maxHeartbeats 4000000 in
theorem rget_or {w : World} {n c k : Nat} {z : Int} {A : Option Addr} {S : Nat → Prop} {xs : List Nat} (R : RdL ByR 1 S w A n xs) (hnc : n ≤ c) (hn : n ≤ 4000) (k1 : 1 ≤ k) (k8 : k ≤ 8) :
    Calls Tryz.prog 229 #[.slice A n c, .int .i64 z, .int .i64 (k : Int)] w fun e w' => NgR n xs z k e ∧ w' = w := by
  have hl := R.1
  have q1 : ¬ (k : Int) < 1 := by omega
  have q2 : ¬ (k : Int) > 8 := by omega
  by_cases h0 : z < 0
  · obtain ⟨e1, e2⟩ := ng_out hl (k := k) (Or.inl h0)
    unfold NgR
    rw [e1, e2]
    clear R hl e1 e2
    go_enter Tryz.func229, Tryz.ntmps229
    go_wp2_with fail
    go_ret2
    exact ⟨rfl, rfl⟩
  by_cases h1 : z > (n : Int)
  · obtain ⟨e1, e2⟩ := ng_out hl (k := k) (Or.inr h1)
    unfold NgR
    rw [e1, e2]
    clear R hl e1 e2
    go_enter Tryz.func229, Tryz.ntmps229
    go_wp2_with fail
    go_ret2
    exact ⟨rfl, rfl⟩
  obtain ⟨a, rfl⟩ : ∃ a : Nat, z = a := ⟨z.toNat, by omega⟩
  have hw : IntKind.i64.wrap ((n : Int) - (a : Int)) = (n : Int) - (a : Int) := by rw [IntKind.wrap_i64]; omega
  by_cases h2 : (n : Int) - (a : Int) < (k : Int)
  · obtain ⟨e1, e2⟩ := ng_short hl (z := (a : Int)) (k := k) (by omega) (by omega) (by omega)
    unfold NgR
    rw [e1, e2]
    clear R hl e1 e2
    go_enter Tryz.func229, Tryz.ntmps229
    go_wp2_with fail
    go_ret2
    exact ⟨rfl, rfl⟩
  · obtain ⟨e1, e2⟩ := ng_in hl (a := a) (k := k) (by omega)
    unfold NgR
    rw [e1, e2]
    obtain ⟨b, o, rfl, _, hb⟩ := R.addr (k := 0) (by omega)
    have HR := Lib.hid R
    have HX := Lib.hid hl
    have HBY := Lib.hid (by_byt R)
    have q7 : (a : Int) ≤ 4000 := by omega
    have hwk : IntKind.i64.wrap ((k : Int) - 1) = (k : Int) - 1 := by rw [IntKind.wrap_i64]; omega
    clear R hl e1 e2
    go_enter Tryz.func229, Tryz.ntmps229
    go_wp2_with fail
    clear hw hwk
    go_loopw [8, 9] (fun vn vi wr => ∃ i : Nat, i ≤ k ∧ vi = .int .i64 ((i : Int) - 1) ∧ vn = .int .u64 (unN ((xs.drop (a + i)).take (k - i)) : Nat) ∧ wr = w) (fun _ vi _ => ((intOf vi) + 1).toNat)
    case atStart => exact ⟨k, Nat.le_refl _, rfl, by rw [Nat.sub_self]; rfl, rfl⟩
    case round =>
      obtain ⟨i, hi, rfl, rfl, hwr⟩ := hrel
      rw [hwr]
      clear hwr
      by_cases hlt : 0 < i
      · obtain ⟨j, rfl⟩ : ∃ j, i = j + 1 := ⟨i - 1, by omega⟩
        rw [show ((j + 1 : Nat) : Int) - 1 = (j : Int) by omega]
        have p1 : (j : Int) ≥ 0 := by omega
        have p2 : (j : Int) < 8 := by omega
        obtain ⟨v1, x1⟩ := by_at HR.out (k := a + j) (by omega)
        have HG := Lib.hid (unN_at (xs := xs) (a := a) (i := j) (k := k) (by omega) (by rw [HX.out]; omega))
        have hlim := unN_part HBY.out (a + j) (k - j) (by omega)
        rw [HG.out] at hlim
        obtain ⟨U, hU⟩ : ∃ U, unN ((xs.drop (a + (j + 1))).take (k - (j + 1))) = U := ⟨_, rfl⟩
        obtain ⟨Y, hY⟩ : ∃ Y, gt xs (a + j) = Y := ⟨_, rfl⟩
        have HU := Lib.hid hU
        have HY := Lib.hid hY
        rw [hU] at hlim ⊢
        rw [hY] at hlim v1 x1
        have hm : IntKind.u64.wrap (256 * (U : Int)) = 256 * (U : Int) := by rw [IntKind.wrap_u64]; omega
        have hs : IntKind.u64.wrap (256 * (U : Int) + (Y : Int)) = ((256 * U + Y : Nat) : Int) := by rw [IntKind.wrap_u64]; omega
        clear hU hY
        go_wp2_with fail
        exact ⟨⟨j, by omega, by go_num, by rw [HG.out, HU.out, HY.out]; push_cast; rfl, trivial⟩, by simp [intOf]⟩
      · obtain rfl : i = 0 := by omega
        rw [show ((0 : Nat) : Int) - 1 = -1 by omega]
        have p1 : ¬ (-1 : Int) ≥ 0 := by omega
        go_wp2_with fail
        go_ret2
        exact ⟨rfl, rfl⟩
end
section
set_option maxRecDepth 100000 in
theorem rnum_any {w : World} {n c a k : Nat} {A : Option Addr} {S : Nat → Prop} {xs : List Nat} (R : RdL ByR 1 S w A n xs) (hnc : n ≤ c) (hn : n ≤ 4000) (k1 : 1 ≤ k) (k8 : k ≤ 8) (hk : a + k ≤ n) :
    Calls Tryz.prog 198 #[.slice A n c, .int .i64 (a : Int), .int .i64 (k : Int)] w fun e w' => e = .returned (.int .u64 (unN ((xs.drop a).take k) : Nat)) ∧ w' = w := by
  have h := rget_or (z := (a : Int)) R hnc hn k1 k8
  unfold NgR at h
  obtain ⟨e1, e2⟩ := ng_in R.1 hk
  rw [e1, e2] at h
  obtain ⟨v, hv⟩ : ∃ v, unN ((xs.drop a).take k) = v := ⟨_, rfl⟩
  rw [hv] at h ⊢
  clear e1 e2 hv R
  go_enter Tryz.func198, Tryz.ntmps198
  go_wp2_with fail
  refine h.mono ?_
  rintro e w1 ⟨rfl, rfl⟩
  go_wp2_with fail
  go_ret
  exact ⟨rfl, rfl⟩

set_option maxRecDepth 100000 in
set_option maxHeartbeats 4000000 in
theorem rshis_any {w : World} {x : Shd} {r : Ref} {i : Nat} (hx : x.ok) : Calls Tryz.prog 159 #[.agg (shC x), .agg (refC r), .int .i64 (i : Int)] w fun e w' => e = .returned (.bool (isB x r i)) ∧ Below w.heap.size w w' := by
  have c0 := shC_0 x
  have c1 := shC_1 x
  have c2 := shC_2 x
  have c3 := shC_3 x
  have l2 := hx.p
  have l1 := hx.i
  have q2 : (x.place : Int) < 65536 := by omega
  have q3 : (0 : Int) ≤ (x.place : Int) := Int.natCast_nonneg _
  have q4 : (x.index : Int) < 256 := by omega
  have q5 : (0 : Int) ≤ (x.index : Int) := Int.natCast_nonneg _
  clear hx
  unfold refC
  go_enter Tryz.func159, Tryz.ntmps159
  by_cases h1 : x.kind = r.kind
  · have e1 : ((x.kind : Int) == (r.kind : Int)) = true := by rw [h1]; simp
    by_cases h2 : x.place = r.place
    · have e2 : ((x.place : Int) == (r.place : Int)) = true := by rw [h2]; simp
      by_cases h3 : x.gen = r.gen
      · have e3 : ((x.gen : Int) == (r.gen : Int)) = true := by rw [h3]; simp
        by_cases h4 : x.index = i
        · have e4 : ((x.index : Int) == (i : Int)) = true := by rw [h4]; simp
          have HR := Lib.hid (show isB x r i = true by unfold isB; simp [h1, h2, h3, h4])
          clear h1 h2 h3 h4
          go_wp2_with fail
          go_ret
          exact ⟨by rw [HR.out]; rfl, ((Below.refl _ _).alloc (Nat.le_refl _) _).alloc (by rw [World.size_alloc]; omega) _⟩
        · have e4 : ((x.index : Int) == (i : Int)) = false := by simp; omega
          have HR := Lib.hid (show isB x r i = false by unfold isB; simp [h4])
          clear h1 h2 h3 h4
          go_wp2_with fail
          go_ret
          exact ⟨by rw [HR.out]; rfl, ((Below.refl _ _).alloc (Nat.le_refl _) _).alloc (by rw [World.size_alloc]; omega) _⟩
      · have e3 : ((x.gen : Int) == (r.gen : Int)) = false := by simp; omega
        have HR := Lib.hid (show isB x r i = false by unfold isB; simp [h3])
        clear h1 h2 h3
        go_wp2_with fail
        go_ret
        exact ⟨by rw [HR.out]; rfl, ((Below.refl _ _).alloc (Nat.le_refl _) _).alloc (by rw [World.size_alloc]; omega) _⟩
    · have e2 : ((x.place : Int) == (r.place : Int)) = false := by simp; omega
      have HR := Lib.hid (show isB x r i = false by unfold isB; simp [h2])
      clear h1 h2
      go_wp2_with fail
      go_ret
      exact ⟨by rw [HR.out]; rfl, ((Below.refl _ _).alloc (Nat.le_refl _) _).alloc (by rw [World.size_alloc]; omega) _⟩
  · have e1 : ((x.kind : Int) == (r.kind : Int)) = false := by simp; omega
    have HR := Lib.hid (show isB x r i = false by unfold isB; simp [h1])
    clear h1
    go_wp2_with fail
    go_ret
    exact ⟨by rw [HR.out]; rfl, ((Below.refl _ _).alloc (Nat.le_refl _) _).alloc (by rw [World.size_alloc]; omega) _⟩

theorem textB_inj {xs ys : List Nat} (hx : Byt xs) (hy : Byt ys) (h : textB xs = textB ys) : xs = ys := by
  unfold textB at h
  have h2 : (strOfNums (xs.map fun x : Nat => (x : Int))).data.toList = (strOfNums (ys.map fun x : Nat => (x : Int))).data.toList := by rw [h]
  rw [strOfNums_data, strOfNums_data, List.map_map, List.map_map] at h2
  have hl : xs.length = ys.length := by simpa using congrArg List.length h2
  refine List.ext_getElem hl fun i h3 h4 => ?_
  have h5 := congrArg (fun l => l[i]?) h2
  simp only [List.getElem?_map, List.getElem?_eq_getElem h3, List.getElem?_eq_getElem h4, Option.map_some, Option.some.injEq, Function.comp] at h5
  have h6 := congrArg UInt8.toNat h5
  simp only [Int.toNat_natCast, UInt8.toNat_ofNat'] at h6
  have h7 := hx _ (List.getElem_mem h3)
  have h8 := hy _ (List.getElem_mem h4)
  rw [Nat.mod_eq_of_lt h7, Nat.mod_eq_of_lt h8] at h6
  exact h6
def ExQ0 (act : Act) (F : World → Prop) : Exit → Act → World → Prop
  | .normal, a', w' => a' = act ∧ F w'
  | _, _, _ => False
theorem wp_mono_ex0 {P : Program} {c : Code} {Q : Exit → Act → World → Prop} {a : Act} {w : World} {F : World → Prop} (act : Act) (h : c.wp P (ExQ0 act F) a w) (hq : ∀ w', F w' → Q .normal act w') : c.wp P Q a w := Code.wp_mono (fun e a w h => by
  cases e with
  | normal => obtain ⟨h1, h2⟩ := h; subst h1; exact hq w h2
  | _ => exact False.elim h) h
/-- What the document reads in bytes. -/
def RgE (w : World) (n : Nat) (xs : List Nat) (e : Ending) (w' : World) : Prop := Below w.heap.size w w' ∧ ∃ y, ∃ E : Int, e = .returned (.tuple #[.agg (shC y), .int .i64 E]) ∧ y.ok ∧ ((E = 0 ∧ n = 64 ∧ okSum xs ∧ frmB xs = true ∧ y = decS xs) ∨ (E ≠ 0 ∧ ¬ (n = 64 ∧ okSum xs ∧ frmB xs = true)))
attribute [local go_sem ↓] shut_loadS shut_zeroS shut_buildS shut_storeS
attribute [local go_sem] run_zeroS run_build0
theorem frm_iff {xs : List Nat} (hl : xs.length = 64) : frmB xs = true ↔ (1 ≤ gt xs 0 ∧ gt xs 0 ≤ 4) ∧ gt xs 14 = 0 ∧ gt xs 15 = 0 := by
  have u0 := unN_at (xs := xs) (a := 0) (i := 0) (k := 1) (by omega) (by omega)
  have u1 := unN_at (xs := xs) (a := 14) (i := 0) (k := 2) (by omega) (by omega)
  have u2 := unN_at (xs := xs) (a := 14) (i := 1) (k := 2) (by omega) (by omega)
  have e0 : unN (List.take 0 (List.drop (0 + 1) xs)) = 0 := rfl
  have e2 : unN (List.take 0 (List.drop (14 + 2) xs)) = 0 := rfl
  simp only [Nat.sub_self, Nat.add_zero, Nat.sub_zero, Nat.zero_add, Nat.reduceAdd, Nat.reduceSub, List.take_zero] at u0 u1 u2
  have e3 : unN ([] : List Nat) = 0 := rfl
  rw [e3] at u0 u2
  unfold frmB kindB
  rw [u1, u2, u0]
  simp only [Bool.and_eq_true, decide_eq_true_eq]
  omega

set_option maxRecDepth 100000 in
set_option maxHeartbeats 16000000 in
theorem rshget_any {w : World} {n c : Nat} {A : Option Addr} {S : Nat → Prop} {xs : List Nat} (R : RdL ByR 1 S w A n xs) (hc : n ≤ c) :
    Calls Tryz.prog 158 #[.slice A n c] w fun e w' => RgE w n xs e w' := by
  have HX := Lib.hid R.1
  have HBY := Lib.hid (by_byt R)
  have bP := BoxAt.new w (shC sh0) 193
  have hb0 : Below w.heap.size w (w.alloc (.cells (shC sh0) 193)) := (Below.refl _ _).alloc (Nat.le_refl _) _
  have HR := Lib.hid R
  clear R
  by_cases h64 : n = 64
  case neg =>
    have q9 : ((n : Int) != 64) = true := by simp; omega
    obtain ⟨wA, hwA⟩ : ∃ wA, w.alloc (.cells (shC sh0) 193) = wA := ⟨_, rfl⟩
    obtain ⟨p, hp⟩ : ∃ p, w.heap.size = p := ⟨_, rfl⟩
    rw [hwA] at bP hb0
    rw [hp] at bP hb0
    go_enter Tryz.func158, Tryz.ntmps158
    have hst := run_storeS (y := sh0) bP sh0_ok.l sh0_ok.l
    have hb2 := shC_set (y := sh0) bP sh0_ok.l sh0_ok.l
    go_wp2_with fail
    have hld := run_loadS hb2 sh0_ok.l
    refine bodyPost_ret (v := .tuple #[.agg (shC sh0), .int .i64 2]) (results_cellS Tryz.results158 _ _ _ _ _ rfl rfl hld) rfl ?_
    unfold RgE
    exact ⟨by rw [hp]; exact setS_below hb0 (Nat.le_refl _) _, _, _, rfl, sh0_ok, .inr ⟨by decide, fun h => h64 h.1⟩⟩
  case pos =>
    subst h64
    have q9 : ((64 : Int) != 64) = false := by decide
    have HFI := Lib.hid (frm_iff HX.out)
    have HOK := Lib.hid (show okSum xs ↔ textB (xs.take 60 ++ leN 4 (csum (xs.take 60))) = textB xs by
      have hl60 : (xs.take 60).length = 60 := by rw [List.length_take, HX.out]; rfl
      have hb60 : Byt (xs.take 60) := fun x hx => HBY.out x (List.mem_of_mem_take hx)
      unfold okSum
      rw [le4_leN]
      constructor
      · intro h
        rw [h, List.take_append_drop]
      · intro h
        have h2 := textB_inj (fun x hx => by
          rcases List.mem_append.1 hx with h3 | h3
          · exact hb60 x h3
          · exact leN_byt _ _ x h3) HBY.out h
        have h3 := congrArg (List.drop 60) h2
        rw [List.drop_left' hl60] at h3
        exact h3)
    have HCL := Lib.hid (fun (w' : World) (hb : Below w.heap.size w w') => rclosed_any (c := c) (Lib.hid (RdL.take (HR.out.below ByR.stable hb) (k := 60) (by omega))) (by omega))
    have hsl := fun w => piece_pre sl_by (A := A) (N := 64) (c := c) (k := 60) (by omega) w
    push_cast at hsl
    have HTX := Lib.hid (fun (w' : World) (hb : Below w.heap.size w w') => text_run (c := c) (HR.out.below ByR.stable hb))
    obtain ⟨T1, hT1⟩ : ∃ T, textB (xs.take 60 ++ leN 4 (csum (xs.take 60))) = T := ⟨_, rfl⟩
    obtain ⟨T2, hT2⟩ : ∃ T, textB xs = T := ⟨_, rfl⟩
    rw [hT1, hT2] at HOK
    rw [hT2] at HTX
    have HT1 := Lib.hid hT1
    clear hT1 hT2
    go_enter Tryz.func158, Tryz.ntmps158
    go_wp2_with fail
    obtain ⟨wA, hwA⟩ : ∃ wA, w.alloc (.cells (shC sh0) 193) = wA := ⟨_, rfl⟩
    obtain ⟨p, hp⟩ : ∃ p, w.heap.size = p := ⟨_, rfl⟩
    rw [hwA] at bP hb0 ⊢
    have HBP := Lib.hid bP
    rw [hp] at bP ⊢
    have HPP := Lib.hid hp
    have HB0 := Lib.hid hb0
    have u5 := HTX.out _ hb0.drew
    clear hp hwA hb0
    have hst := run_storeS (y := sh0) bP sh0_ok.l sh0_ok.l
    clear hst
    by_cases hT : T1 = T2
    case neg =>
      have hnok := Lib.hid (fun h => hT (HOK.out.1 h))
      have q8 : (T1.toList == T2.toList) = false := by
        rw [← Bool.not_eq_true, beq_iff_eq, ByteArray.toList_eq, ByteArray.toList_eq]
        exact fun h => hT (ByteArray.ext (Array.toList_inj.mp h))
      clear hT

      refine wp_region_held_drew (S := fun w' => (convert 68 9 (.slice A 64 c)).run Tryz.prog w' = .ok (.string T2) w') (by kernel_rfl) (by first | exact u5 | exact u6) (fun hHeld => ?_)
      refine tkH 0 rfl ?_
      refine tkH 1 rfl ?_
      refine tkH 4 rfl ?_
      refine tkH 5 rfl ?_
      refine rdH 2 rfl fun K hK => ?_
      try simp (maxSteps := 2000000) only [zz1, zz2, zz3]
      go_simp
      go_at_call 183
      refine (HCL.out _ HB0.out.drew).mono ?_
      rintro e w3 ⟨A3, c3, rfl, hO3, hb3⟩
      have hBB := HB0.out.drew.trans (hb3.mono HB0.out.drew.size)
      have u6 := HTX.out _ hBB
      obtain ⟨A3', c3', hAe, hcc3, hr3⟩ := hO3.rd (S' := fun _ => True) (fun j hj => trivial) (fun cs x hx => hx)
      injection hAe with hA1 _ hA2
      subst hA1 hA2
      have u7 := text_run (c := c3) hr3
      rw [HT1.out] at u7
      have HB3 := Lib.hid hBB
      have HL3 := Lib.hid hb3
      clear hBB hb3 hO3
      try (go_wp2_with fail)
      refine hK.out _ _ (by first | exact u5 | exact u6) (fun hHeld => ?_)
      clear hK K
      try simp (maxSteps := 2000000) only [zz1, zz2, zz3, Act.put, zz4, zz5, zz6]
      refine rdH 3 rfl fun K hK => ?_
      try simp (maxSteps := 2000000) only [zz1, zz2, zz3]
      go_simp
      refine hK.out _ _ (by first | exact u5 | exact u6) (fun hHeld => ?_)
      clear hK K
      try simp (maxSteps := 2000000) only [zz1, zz2, zz3, Act.put, zz4, zz5, zz6]
      refine tkH 6 rfl ?_
      refine wpAnyH_done (by kernel_rfl) ?_ _
      replace bP := bP.below ((Below.refl wA.heap.size wA).drew.trans (show Below wA.heap.size wA.drew w3 from HL3.out))
      have hst := run_storeS (y := sh0) bP sh0_ok.l sh0_ok.l
      have hb2 := shC_set (y := sh0) bP sh0_ok.l sh0_ok.l
      go_wp2_with fail
      have hld := run_loadS hb2 sh0_ok.l
      refine bodyPost_ret (v := .tuple #[.agg (shC sh0), .int .i64 4]) (results_cellS Tryz.results158 _ _ _ _ _ rfl rfl hld) rfl ?_
      unfold RgE
      exact ⟨setS_below HB3.out (by rw [HPP.out]; exact Nat.le_refl _) _, _, _, rfl, sh0_ok, .inr ⟨by decide, fun h => hnok.out h.2.1⟩⟩
    case pos =>
      have hok := Lib.hid (HOK.out.2 hT)
      have q8 : (T1.toList == T2.toList) = true := by rw [hT]; simp
      clear hT
      refine wp_region_held_drew (S := fun w' => (convert 68 9 (.slice A 64 c)).run Tryz.prog w' = .ok (.string T2) w') (by kernel_rfl) (by first | exact u5 | exact u6) (fun hHeld => ?_)
      refine tkH 0 rfl ?_
      refine tkH 1 rfl ?_
      refine tkH 4 rfl ?_
      refine tkH 5 rfl ?_
      refine rdH 2 rfl fun K hK => ?_
      try simp (maxSteps := 2000000) only [zz1, zz2, zz3]
      go_simp
      go_at_call 183
      refine (HCL.out _ HB0.out.drew).mono ?_
      rintro e w3 ⟨A3, c3, rfl, hO3, hb3⟩
      have hBB := HB0.out.drew.trans (hb3.mono HB0.out.drew.size)
      have u6 := HTX.out _ hBB
      obtain ⟨A3', c3', hAe, hcc3, hr3⟩ := hO3.rd (S' := fun _ => True) (fun j hj => trivial) (fun cs x hx => hx)
      injection hAe with hA1 _ hA2
      subst hA1 hA2
      have u7 := text_run (c := c3) hr3
      rw [HT1.out] at u7
      have HB3 := Lib.hid hBB
      have HL3 := Lib.hid hb3
      clear hBB hb3 hO3
      try (go_wp2_with fail)
      refine hK.out _ _ (by first | exact u5 | exact u6) (fun hHeld => ?_)
      clear hK K
      try simp (maxSteps := 2000000) only [zz1, zz2, zz3, Act.put, zz4, zz5, zz6]
      refine rdH 3 rfl fun K hK => ?_
      try simp (maxSteps := 2000000) only [zz1, zz2, zz3]
      go_simp
      refine hK.out _ _ (by first | exact u5 | exact u6) (fun hHeld => ?_)
      clear hK K
      try simp (maxSteps := 2000000) only [zz1, zz2, zz3, Act.put, zz4, zz5, zz6]
      refine tkH 6 rfl ?_
      refine wpAnyH_done (by kernel_rfl) ?_ _
      replace bP := bP.below ((Below.refl wA.heap.size wA).drew.trans (show Below wA.heap.size wA.drew w3 from HL3.out))
      have hR3 := HR.out.below ByR.stable HB3.out
      obtain ⟨ba, oa, rfl, _, hba⟩ := hR3.addr (k := 0) (by omega)
      obtain ⟨y0, x0⟩ := by_at hR3 (k := 0) (by omega)
      rw [Nat.add_zero] at y0
      obtain ⟨y1, x1⟩ := by_at hR3 (k := 1) (by omega)
      obtain ⟨y14, x14⟩ := by_at hR3 (k := 14) (by omega)
      obtain ⟨y15, x15⟩ := by_at hR3 (k := 15) (by omega)
      have e0 : unN ((xs.drop 0).take 1) = gt xs 0 := by
        have h := unN_at (xs := xs) (a := 0) (i := 0) (k := 1) (by omega) (by rw [HX.out]; omega)
        simp only [Nat.sub_self, Nat.add_zero, Nat.sub_zero, List.take_zero] at h
        have h3 : unN ([] : List Nat) = 0 := rfl
        omega
      have e1 : unN ((xs.drop 1).take 1) = gt xs 1 := by
        have h := unN_at (xs := xs) (a := 1) (i := 0) (k := 1) (by omega) (by rw [HX.out]; omega)
        simp only [Nat.sub_self, Nat.add_zero, Nat.sub_zero, List.take_zero] at h
        have h3 : unN ([] : List Nat) = 0 := rfl
        omega
      have E0 := Lib.hid e0
      have E1 := Lib.hid e1
      clear e0 e1
      obtain ⟨g0, hg0⟩ : ∃ g, gt xs 0 = g := ⟨_, rfl⟩
      obtain ⟨g1, hg1⟩ : ∃ g, gt xs 1 = g := ⟨_, rfl⟩
      obtain ⟨g14, hg14⟩ : ∃ g, gt xs 14 = g := ⟨_, rfl⟩
      obtain ⟨g15, hg15⟩ : ∃ g, gt xs 15 = g := ⟨_, rfl⟩
      rw [hg0] at y0 x0 HFI E0
      rw [hg1] at y1 x1 E1
      rw [hg14] at y14 x14 HFI
      rw [hg15] at y15 x15 HFI
      clear hg0 hg1 hg14 hg15 u5 hR3
      by_cases c1 : g0 < 1
      · have d1 : (g0 : Int) < 1 := by omega
        have HNF := Lib.hid (show ¬ frmB xs = true from fun h => absurd (HFI.out.1 h).1.1 (by omega))
        have hst := run_storeS (y := sh0) bP sh0_ok.l sh0_ok.l
        have hb2 := shC_set (y := sh0) bP sh0_ok.l sh0_ok.l
        go_wp2_with fail
        have hld := run_loadS hb2 sh0_ok.l
        refine bodyPost_ret (v := .tuple #[.agg (shC sh0), .int .i64 3]) (results_cellS Tryz.results158 _ _ _ _ _ rfl rfl hld) rfl ?_
        unfold RgE
        refine ⟨setS_below HB3.out (by rw [HPP.out]; exact Nat.le_refl _) _, _, _, rfl, sh0_ok, .inr ⟨by decide, fun h => HNF.out h.2.2⟩⟩
      have d1 : ¬ (g0 : Int) < 1 := by omega
      by_cases c2 : 4 < g0
      · have d2 : (g0 : Int) > 4 := by omega
        have HNF := Lib.hid (show ¬ frmB xs = true from fun h => absurd (HFI.out.1 h).1.2 (by omega))
        have hst := run_storeS (y := sh0) bP sh0_ok.l sh0_ok.l
        have hb2 := shC_set (y := sh0) bP sh0_ok.l sh0_ok.l
        go_wp2_with fail
        have hld := run_loadS hb2 sh0_ok.l
        refine bodyPost_ret (v := .tuple #[.agg (shC sh0), .int .i64 3]) (results_cellS Tryz.results158 _ _ _ _ _ rfl rfl hld) rfl ?_
        unfold RgE
        refine ⟨setS_below HB3.out (by rw [HPP.out]; exact Nat.le_refl _) _, _, _, rfl, sh0_ok, .inr ⟨by decide, fun h => HNF.out h.2.2⟩⟩
      have d2 : ¬ (g0 : Int) > 4 := by omega
      by_cases c3 : g14 = 0
      case neg =>
        have d3 : ((g14 : Int) != 0) = true := by simp; omega
        have HNF := Lib.hid (show ¬ frmB xs = true from fun h => absurd (HFI.out.1 h).2.1 c3)
        have hst := run_storeS (y := sh0) bP sh0_ok.l sh0_ok.l
        have hb2 := shC_set (y := sh0) bP sh0_ok.l sh0_ok.l
        go_wp2_with fail
        have hld := run_loadS hb2 sh0_ok.l
        refine bodyPost_ret (v := .tuple #[.agg (shC sh0), .int .i64 3]) (results_cellS Tryz.results158 _ _ _ _ _ rfl rfl hld) rfl ?_
        unfold RgE
        refine ⟨setS_below HB3.out (by rw [HPP.out]; exact Nat.le_refl _) _, _, _, rfl, sh0_ok, .inr ⟨by decide, fun h => HNF.out h.2.2⟩⟩
      case pos =>
        have d3 : ((g14 : Int) != 0) = false := by simp; omega
        by_cases c4 : g15 = 0
        case neg =>
          have d4 : ((g15 : Int) != 0) = true := by simp; omega
          have HNF := Lib.hid (show ¬ frmB xs = true from fun h => absurd (HFI.out.1 h).2.2 c4)
          have hst := run_storeS (y := sh0) bP sh0_ok.l sh0_ok.l
          have hb2 := shC_set (y := sh0) bP sh0_ok.l sh0_ok.l
          go_wp2_with fail
          have hld := run_loadS hb2 sh0_ok.l
          refine bodyPost_ret (v := .tuple #[.agg (shC sh0), .int .i64 3]) (results_cellS Tryz.results158 _ _ _ _ _ rfl rfl hld) rfl ?_
          unfold RgE
          refine ⟨setS_below HB3.out (by rw [HPP.out]; exact Nat.le_refl _) _, _, _, rfl, sh0_ok, .inr ⟨by decide, fun h => HNF.out h.2.2⟩⟩
        case pos =>
          have d4 : ((g15 : Int) != 0) = false := by simp; omega
          have HYF := Lib.hid (HFI.out.2 ⟨⟨by omega, by omega⟩, c3, c4⟩)
          have HC := Lib.hid (show ∀ w', Below w3.heap.size w3 w' → w'.cell? ⟨ba, oa, none⟩ = some (.int .u8 (g0 : Int)) ∧ w'.cell? ⟨ba, oa + 1, none⟩ = some (.int .u8 (g1 : Int)) from fun w' hb => ⟨(hb.cell (p := ⟨ba, oa, none⟩) hba).trans y0, (hb.cell (p := ⟨ba, oa + 1, none⟩) hba).trans y1⟩)
          have HLT := Lib.hid (And.intro x0 x1)
          clear c1 c2 c3 c4 hba
          have hRw := HR.out.below ByR.stable HB3.out
          have HN7 := Lib.hid (fun w' (hb : Below w3.heap.size w3 w') => rnum_any (a := 2) (k := 2) (hRw.below ByR.stable hb) hc (by omega) (by omega) (by omega) (by omega))
          have HN10 := Lib.hid (fun w' (hb : Below w3.heap.size w3 w') => rnum_any (a := 4) (k := 8) (hRw.below ByR.stable hb) hc (by omega) (by omega) (by omega) (by omega))
          have HN12 := Lib.hid (fun w' (hb : Below w3.heap.size w3 w') => rnum_any (a := 12) (k := 2) (hRw.below ByR.stable hb) hc (by omega) (by omega) (by omega) (by omega))
          have hdx := decS_ok HX.out HBY.out
          have hde : decS xs = ⟨g0, g1, unN ((xs.drop 2).take 2), unN ((xs.drop 4).take 8), unN ((xs.drop 12).take 2), (xs.drop 16).take 44⟩ := by unfold decS; rw [E0.out, E1.out]
          obtain ⟨v2, hv2⟩ : ∃ v, unN ((xs.drop 2).take 2) = v := ⟨_, rfl⟩
          obtain ⟨v8, hv8⟩ : ∃ v, unN ((xs.drop 4).take 8) = v := ⟨_, rfl⟩
          obtain ⟨vs, hvs⟩ : ∃ v, unN ((xs.drop 12).take 2) = v := ⟨_, rfl⟩
          obtain ⟨row, hrow⟩ : ∃ v, (xs.drop 16).take 44 = v := ⟨_, rfl⟩
          rw [hv2] at HN7 hde
          rw [hv8] at HN10 hde
          rw [hvs] at HN12 hde
          rw [hrow] at hde
          rw [hde] at hdx
          have l2 : v2 < 65536 := hdx.p
          have ls : vs < 65536 := hdx.s
          have w2' : IntKind.u16.wrap (v2 : Int) = (v2 : Int) := by rw [IntKind.wrap_u16]; omega
          have ws' : IntKind.u16.wrap (vs : Int) = (vs : Int) := by rw [IntKind.wrap_u16]; omega
          have m2' : (v2 : Int) % 65536 = (v2 : Int) := by omega
          have ms' : (vs : Int) % 65536 = (vs : Int) := by omega
          have z2 : (0 : Int) ≤ (v2 : Int) := Int.natCast_nonneg _
          have zs : (0 : Int) ≤ (vs : Int) := Int.natCast_nonneg _
          have z2' : (v2 : Int) < 65536 := by omega
          have zs' : (vs : Int) < 65536 := by omega
          have HDE := Lib.hid hde
          have HDX := Lib.hid hdx
          have HROW := Lib.hid hrow
          have hbl := run_build5 g0 g1 v2 v8 vs
          have b1 := (BoxAt.new w3 (shC sh0) 193).below ((Below.refl _ _).drew)
          have hst1 := run_storeS (y := ⟨g0, g1, v2, v8, vs, z44⟩) b1 sh0_ok.l z44_len
          have b2 := shC_set (y := ⟨g0, g1, v2, v8, vs, z44⟩) b1 sh0_ok.l z44_len
          have HB4 := Lib.hid (setS_below ((HB3.out.alloc HB3.out.size (.cells (shC sh0) 193)).drew) (p := w3.heap.size) HB3.out.size (shV ⟨g0, g1, v2, v8, vs, z44⟩))
          have HP4 := Lib.hid (((bP.alloc (.cells (shC sh0) 193)).below ((Below.refl _ _).drew)).keep (setCells_other _ w3.heap.size 0 p (shV ⟨g0, g1, v2, v8, vs, z44⟩) (by have := bP.lt; show p ≠ w3.heap.size; omega)))
          have HQ4 := Lib.hid b2
          have HBV := Lib.hid (((Below.refl w3.heap.size w3).alloc (Nat.le_refl _) (.cells (shC sh0) 193)).drew)
          have HBW := Lib.hid (setS_below HBV.out (p := w3.heap.size) (Nat.le_refl _) (shV ⟨g0, g1, v2, v8, vs, z44⟩))
          have c0 := fun w' (hb : Below w3.heap.size w3 w') => (HC.out w' hb).1
          have c1 := fun w' (hb : Below w3.heap.size w3 w') => (HC.out w' hb).2
          clear hv2 hv8 hvs hrow hde hdx b1 b2 hRw l2 ls c0 c1
          go_wp2_with fail
          clear y0 y1 y14 y15 d1 d2 d3 d4
          have c0 := fun w' (hb : Below w3.heap.size w3 w') => (HC.out w' hb).1
          have c1 := fun w' (hb : Below w3.heap.size w3 w') => (HC.out w' hb).2
          apply wp_mono_ex0 (F := fun w' => w' = (w3.alloc (.cells (shC sh0) 193)).drew.setCells w3.heap.size 0 (shV ⟨g0, g1, v2, v8, vs, z44⟩))
          case h =>
            refine wp_region_held_drew (S := fun w' => Below w3.heap.size w3 w') (by kernel_rfl) (by with_reducible first | assumption | exact HBW.out | exact (Below.refl _ _).drew | exact hHeld.alloc hHeld.size _ | exact HBV.out) (fun hHeld => ?_)
            refine tkH 0 rfl ?_
            refine tkH 1 rfl ?_
            refine tkH 2 rfl ?_
            refine tkH 3 rfl ?_
            refine tkH 4 rfl ?_
            refine tkH 5 rfl ?_
            refine tkH 6 rfl ?_
            refine tkH 9 rfl ?_
            refine tkH 11 rfl ?_
            refine wpAnyH_ready (rs := [7, 15]) (by kernel_rfl) (by simp) ?_
            refine AllReadyH.cons rfl (fun K hK => ?_) (AllReadyH.cons rfl (fun K hK => ?_) AllReadyH.nil)
            · try simp (maxSteps := 2000000) only [zz1, zz2, zz3]
              go_simp
              go_at_call 198
              refine (HN7.out _ (by first | assumption | exact hHeld)).mono ?_
              rintro e w9 ⟨rfl, rfl⟩
              try (go_wp2_with fail)
              refine hK.out _ _ (by with_reducible first | assumption | exact HBW.out | exact (Below.refl _ _).drew | exact hHeld.alloc hHeld.size _ | exact HBV.out) (fun hHeld => ?_)
              clear hK K
              try simp (maxSteps := 2000000) only [zz1, zz2, zz3, Act.put, zz4, zz5, zz6]
              refine tkH 8 rfl ?_
              refine wpAnyH_ready (rs := [10, 15]) (by kernel_rfl) (by simp) ?_
              refine AllReadyH.cons rfl (fun K hK => ?_) (AllReadyH.cons rfl (fun K hK => ?_) AllReadyH.nil)
              · try simp (maxSteps := 2000000) only [zz1, zz2, zz3]
                go_simp
                go_at_call 198
                refine (HN10.out _ (by first | assumption | exact hHeld)).mono ?_
                rintro e w9 ⟨rfl, rfl⟩
                try (go_wp2_with fail)
                refine hK.out _ _ (by with_reducible first | assumption | exact HBW.out | exact (Below.refl _ _).drew | exact hHeld.alloc hHeld.size _ | exact HBV.out) (fun hHeld => ?_)
                clear hK K
                try simp (maxSteps := 2000000) only [zz1, zz2, zz3, Act.put, zz4, zz5, zz6]
                refine wpAnyH_ready (rs := [12, 15]) (by kernel_rfl) (by simp) ?_
                refine AllReadyH.cons rfl (fun K hK => ?_) (AllReadyH.cons rfl (fun K hK => ?_) AllReadyH.nil)
                · try simp (maxSteps := 2000000) only [zz1, zz2, zz3]
                  go_simp
                  go_at_call 198
                  refine (HN12.out _ (by first | assumption | exact hHeld)).mono ?_
                  rintro e w9 ⟨rfl, rfl⟩
                  try (go_wp2_with fail)
                  refine hK.out _ _ (by with_reducible first | assumption | exact HBW.out | exact (Below.refl _ _).drew | exact hHeld.alloc hHeld.size _ | exact HBV.out) (fun hHeld => ?_)
                  clear hK K
                  try simp (maxSteps := 2000000) only [zz1, zz2, zz3, Act.put, zz4, zz5, zz6]
                  refine tkH 13 rfl ?_
                  refine tkH 14 rfl ?_
                  refine rdH 15 rfl fun K hK => ?_
                  try simp (maxSteps := 2000000) only [zz1, zz2, zz3]
                  go_simp
                  refine hK.out _ _ (by with_reducible first | assumption | exact HBW.out | exact (Below.refl _ _).drew | exact hHeld.alloc hHeld.size _ | exact HBV.out) (fun hHeld => ?_)
                  clear hK K
                  try simp (maxSteps := 2000000) only [zz1, zz2, zz3, Act.put, zz4, zz5, zz6]
                  refine rdH 16 rfl fun K hK => ?_
                  try simp (maxSteps := 2000000) only [zz1, zz2, zz3]
                  go_simp
                  refine hK.out _ _ (by with_reducible first | assumption | exact HBW.out | exact (Below.refl _ _).drew | exact hHeld.alloc hHeld.size _ | exact HBV.out) (fun hHeld => ?_)
                  clear hK K
                  try simp (maxSteps := 2000000) only [zz1, zz2, zz3, Act.put, zz4, zz5, zz6]
                  refine wpAnyH_done (by kernel_rfl) ?_ _
                  refine And.intro ?_ ?_
                  · rfl
                  · with_reducible rfl
                · try simp (maxSteps := 2000000) only [zz1, zz2, zz3]
                  go_simp
                  refine hK.out _ _ (by with_reducible first | assumption | exact HBW.out | exact (Below.refl _ _).drew | exact hHeld.alloc hHeld.size _ | exact HBV.out) (fun hHeld => ?_)
                  clear hK K
                  try simp (maxSteps := 2000000) only [zz1, zz2, zz3, Act.put, zz4, zz5, zz6]
                  refine rdH 12 rfl fun K hK => ?_
                  try simp (maxSteps := 2000000) only [zz1, zz2, zz3]
                  go_simp
                  go_at_call 198
                  refine (HN12.out _ (by first | assumption | exact hHeld)).mono ?_
                  rintro e w9 ⟨rfl, rfl⟩
                  try (go_wp2_with fail)
                  refine hK.out _ _ (by with_reducible first | assumption | exact HBW.out | exact (Below.refl _ _).drew | exact hHeld.alloc hHeld.size _ | exact HBV.out) (fun hHeld => ?_)
                  clear hK K
                  try simp (maxSteps := 2000000) only [zz1, zz2, zz3, Act.put, zz4, zz5, zz6]
                  refine tkH 13 rfl ?_
                  refine tkH 14 rfl ?_
                  refine rdH 16 rfl fun K hK => ?_
                  try simp (maxSteps := 2000000) only [zz1, zz2, zz3]
                  go_simp
                  refine hK.out _ _ (by with_reducible first | assumption | exact HBW.out | exact (Below.refl _ _).drew | exact hHeld.alloc hHeld.size _ | exact HBV.out) (fun hHeld => ?_)
                  clear hK K
                  try simp (maxSteps := 2000000) only [zz1, zz2, zz3, Act.put, zz4, zz5, zz6]
                  refine wpAnyH_done (by kernel_rfl) ?_ _
                  refine And.intro ?_ ?_
                  · rfl
                  · with_reducible rfl
              · try simp (maxSteps := 2000000) only [zz1, zz2, zz3]
                go_simp
                refine hK.out _ _ (by with_reducible first | assumption | exact HBW.out | exact (Below.refl _ _).drew | exact hHeld.alloc hHeld.size _ | exact HBV.out) (fun hHeld => ?_)
                clear hK K
                try simp (maxSteps := 2000000) only [zz1, zz2, zz3, Act.put, zz4, zz5, zz6]
                refine rdH 10 rfl fun K hK => ?_
                try simp (maxSteps := 2000000) only [zz1, zz2, zz3]
                go_simp
                go_at_call 198
                refine (HN10.out _ (by first | assumption | exact hHeld)).mono ?_
                rintro e w9 ⟨rfl, rfl⟩
                try (go_wp2_with fail)
                refine hK.out _ _ (by with_reducible first | assumption | exact HBW.out | exact (Below.refl _ _).drew | exact hHeld.alloc hHeld.size _ | exact HBV.out) (fun hHeld => ?_)
                clear hK K
                try simp (maxSteps := 2000000) only [zz1, zz2, zz3, Act.put, zz4, zz5, zz6]
                refine rdH 12 rfl fun K hK => ?_
                try simp (maxSteps := 2000000) only [zz1, zz2, zz3]
                go_simp
                go_at_call 198
                refine (HN12.out _ (by first | assumption | exact hHeld)).mono ?_
                rintro e w9 ⟨rfl, rfl⟩
                try (go_wp2_with fail)
                refine hK.out _ _ (by with_reducible first | assumption | exact HBW.out | exact (Below.refl _ _).drew | exact hHeld.alloc hHeld.size _ | exact HBV.out) (fun hHeld => ?_)
                clear hK K
                try simp (maxSteps := 2000000) only [zz1, zz2, zz3, Act.put, zz4, zz5, zz6]
                refine tkH 13 rfl ?_
                refine tkH 14 rfl ?_
                refine rdH 16 rfl fun K hK => ?_
                try simp (maxSteps := 2000000) only [zz1, zz2, zz3]
                go_simp
                refine hK.out _ _ (by with_reducible first | assumption | exact HBW.out | exact (Below.refl _ _).drew | exact hHeld.alloc hHeld.size _ | exact HBV.out) (fun hHeld => ?_)
                clear hK K
                try simp (maxSteps := 2000000) only [zz1, zz2, zz3, Act.put, zz4, zz5, zz6]
                refine wpAnyH_done (by kernel_rfl) ?_ _
                refine And.intro ?_ ?_
                · rfl
                · with_reducible rfl
            · try simp (maxSteps := 2000000) only [zz1, zz2, zz3]
              go_simp
              refine hK.out _ _ (by with_reducible first | assumption | exact HBW.out | exact (Below.refl _ _).drew | exact hHeld.alloc hHeld.size _ | exact HBV.out) (fun hHeld => ?_)
              clear hK K
              try simp (maxSteps := 2000000) only [zz1, zz2, zz3, Act.put, zz4, zz5, zz6]
              refine rdH 7 rfl fun K hK => ?_
              try simp (maxSteps := 2000000) only [zz1, zz2, zz3]
              go_simp
              go_at_call 198
              refine (HN7.out _ (by first | assumption | exact hHeld)).mono ?_
              rintro e w9 ⟨rfl, rfl⟩
              try (go_wp2_with fail)
              refine hK.out _ _ (by with_reducible first | assumption | exact HBW.out | exact (Below.refl _ _).drew | exact hHeld.alloc hHeld.size _ | exact HBV.out) (fun hHeld => ?_)
              clear hK K
              try simp (maxSteps := 2000000) only [zz1, zz2, zz3, Act.put, zz4, zz5, zz6]
              refine tkH 8 rfl ?_
              refine rdH 10 rfl fun K hK => ?_
              try simp (maxSteps := 2000000) only [zz1, zz2, zz3]
              go_simp
              go_at_call 198
              refine (HN10.out _ (by first | assumption | exact hHeld)).mono ?_
              rintro e w9 ⟨rfl, rfl⟩
              try (go_wp2_with fail)
              refine hK.out _ _ (by with_reducible first | assumption | exact HBW.out | exact (Below.refl _ _).drew | exact hHeld.alloc hHeld.size _ | exact HBV.out) (fun hHeld => ?_)
              clear hK K
              try simp (maxSteps := 2000000) only [zz1, zz2, zz3, Act.put, zz4, zz5, zz6]
              refine rdH 12 rfl fun K hK => ?_
              try simp (maxSteps := 2000000) only [zz1, zz2, zz3]
              go_simp
              go_at_call 198
              refine (HN12.out _ (by first | assumption | exact hHeld)).mono ?_
              rintro e w9 ⟨rfl, rfl⟩
              try (go_wp2_with fail)
              refine hK.out _ _ (by with_reducible first | assumption | exact HBW.out | exact (Below.refl _ _).drew | exact hHeld.alloc hHeld.size _ | exact HBV.out) (fun hHeld => ?_)
              clear hK K
              try simp (maxSteps := 2000000) only [zz1, zz2, zz3, Act.put, zz4, zz5, zz6]
              refine tkH 13 rfl ?_
              refine tkH 14 rfl ?_
              refine rdH 16 rfl fun K hK => ?_
              try simp (maxSteps := 2000000) only [zz1, zz2, zz3]
              go_simp
              refine hK.out _ _ (by with_reducible first | assumption | exact HBW.out | exact (Below.refl _ _).drew | exact hHeld.alloc hHeld.size _ | exact HBV.out) (fun hHeld => ?_)
              clear hK K
              try simp (maxSteps := 2000000) only [zz1, zz2, zz3, Act.put, zz4, zz5, zz6]
              refine wpAnyH_done (by kernel_rfl) ?_ _
              refine And.intro ?_ ?_
              · rfl
              · with_reducible rfl
          case hq =>
            rintro w4 hw4
            have HBQ := HB4.out
            have HPQ := HP4.out
            have HQQ := HQ4.out
            rw [← hw4] at HBQ HPQ HQQ
            have HLQ := Lib.hid (show w.heap.size ≤ w3.heap.size from HB3.out.size)
            have HPN := Lib.hid (show w.heap.size ≤ p by rw [HPP.out]; exact Nat.le_refl _)
            have HNE := Lib.hid (show p ≠ w3.heap.size by have := bP.lt; omega)
            obtain ⟨q, hq⟩ : ∃ q, w3.heap.size = q := ⟨_, rfl⟩
            rw [hq] at HQQ HLQ HNE
            rw [hq]
            have HRL := Lib.hid (show row.length = 44 by rw [← HROW.out, List.length_take, List.length_drop, HX.out]; rfl)
            have HRG := Lib.hid (show ∀ k, k < 44 → gt row k = gt xs (16 + k) from fun k hk => by
              rw [← HROW.out]
              unfold gt
              rw [List.getD_eq_getElem?_getD, List.getD_eq_getElem?_getD, List.getElem?_take, if_pos hk, List.getElem?_drop])
            have HQF := Lib.hid (show BoxAt w4 q (shC ⟨g0, g1, v2, v8, vs, fillL 44 (row.take 0)⟩) by rw [fill_zero]; exact HQQ)
            have HPF := Lib.hid HPQ
            have HBF := Lib.hid HBQ
            clear HB4 HP4 HQ4 HBW HBV hw4 HBQ HPQ HQQ bP hst1 hbl HN7 HN10 HN12 c0 c1 HC hq w2' ws' m2' ms' z2 zs z2' zs'
            go_wp2_with fail
            go_loopw [5] (fun vk wr => ∃ k : Nat, k ≤ 44 ∧ vk = .int .i64 k ∧ Hid (BoxAt wr q (shC ⟨g0, g1, v2, v8, vs, fillL 44 (row.take k)⟩)) ∧ Hid (BoxAt wr p (shC sh0)) ∧ Hid (Below w.heap.size w wr)) (fun vk _ => 44 - (intOf vk).toNat)
            case atStart => exact ⟨0, Nat.zero_le _, rfl, HQF, HPF, HBF⟩
            case round =>
              clear HQF HPF HBF
              obtain ⟨k, hk, rfl, HQ, HP, HB⟩ := hrel
              have k0 : (0 : Int) ≤ (k : Int) := Int.natCast_nonneg _
              by_cases hlt : k < 44
              · have k1 : (k : Int) < 44 := by omega
                have hfl : (fillL 44 (row.take k)).length = 44 := fillL_len (by rw [List.length_take]; omega)
                obtain ⟨_, _, hAe, _, hba⟩ := HR.out.addr (k := 16 + k) (by omega)
                cases hAe
                obtain ⟨y1, x1⟩ := by_at HR.out (k := 16 + k) (by omega)
                have y2 := (HB.out.cell (p := ⟨ba, oa + (16 + k), none⟩) hba).trans y1
                have HS := Lib.hid (show (fillL 44 (row.take k)).set k (gt row k) = fillL 44 (row.take (k + 1)) from fill_set (by rw [HRL.out]; exact hlt) hlt)
                rw [HRG.out k hlt] at HS
                have hxc := (HQ.out.cell (5 + k)).trans (shC_b (x := ⟨g0, g1, v2, v8, vs, fillL 44 (row.take k)⟩) (i := k) (by show k < (fillL 44 (row.take k)).length; omega))
                have hxf := HQ.out.frozen (5 + k)
                obtain ⟨y, hy⟩ : ∃ y, gt xs (16 + k) = y := ⟨_, rfl⟩
                rw [hy] at y1 y2 x1 HS
                have HXN := Lib.hid (show BoxAt (wr.setCell ⟨q, 5 + k, none⟩ (.int .u8 (y : Int))) q (shC ⟨g0, g1, v2, v8, vs, fillL 44 (row.take (k + 1))⟩) by
                  have h9 := HQ.out.set (5 + k) (.int .u8 (y : Int))
                  rw [shC_setb] at h9
                  rw [← HS.out]
                  exact h9)
                have HPN2 := Lib.hid (HP.out.set_other (p := ⟨q, 5 + k, none⟩) HNE.out (.int .u8 (y : Int)))
                have HBN := Lib.hid (HB.out.setCell (p := ⟨q, 5 + k, none⟩) HLQ.out (.int .u8 (y : Int)))
                have k2 : (16 : Int) + (k : Int) < 64 := by omega
                have k3 : (0 : Int) ≤ (16 : Int) + (k : Int) := by omega
                have k4 : IntKind.i64.wrap ((16 : Int) + (k : Int)) = (16 : Int) + (k : Int) := by rw [IntKind.wrap_i64]; omega
                have k5 : ((16 : Int) + (k : Int)).toNat = 16 + k := by omega
                clear y1 hy hfl hba
                go_wp2_with fail
                exact ⟨⟨k + 1, hlt, by go_num, HXN, HPN2, HBN⟩, by simp [intOf]; omega⟩
              · have k1 : ¬ (k : Int) < 44 := by omega
                obtain rfl : k = 44 := by omega
                have hbx := HQ.out
                rw [fill_full HRL.out] at hbx
                have hld := run_loadS (w := wr) (x := ⟨g0, g1, v2, v8, vs, row⟩) hbx HRL.out
                have hst := run_storeS (y := ⟨g0, g1, v2, v8, vs, row⟩) HP.out sh0_ok.l HRL.out
                have hb2 := shC_set (y := ⟨g0, g1, v2, v8, vs, row⟩) HP.out sh0_ok.l HRL.out
                clear hbx k0 hlt
                go_wp2_with fail
                have hld2 := run_loadS hb2 HRL.out
                refine bodyPost_ret (v := .tuple #[.agg (shC ⟨g0, g1, v2, v8, vs, row⟩), .int .i64 0]) (results_cellS Tryz.results158 _ _ _ _ _ rfl rfl hld2) rfl ?_
                unfold RgE
                exact ⟨setS_below HB.out HPN.out _, _, _, rfl, HDX.out, .inl ⟨rfl, rfl, hok.out, HYF.out, HDE.out.symm⟩⟩
end
section
theorem lookS_snoc (l : List (Nat × Shd)) (i j : Nat) (x : Shd) (h : ∀ p ∈ l, p.1 < i) : lookS (l ++ [(i, x)]) j = if j = i then some x else lookS l j := by
  unfold lookS
  rw [List.find?_append]
  by_cases e : j = i
  · subst e
    have h0 : l.find? (fun p => decide (p.1 = j)) = none := List.find?_eq_none.2 fun p hp => by have := h p hp; simp; omega
    rw [if_pos rfl, h0]
    simp
  · rw [if_neg e]
    have h1 : ([(i, x)] : List (Nat × Shd)).find? (fun p => decide (p.1 = j)) = none := by simp; omega
    rw [h1, Option.or_none]
theorem lookS_none {R : Nat → Option Shd} {i j : Nat} (h : i ≤ j) : lookS (wholeF R i).1 j = none := by
  unfold lookS
  rw [List.find?_eq_none.2 fun p hp => by have := wholeF_lt R i p hp; simp; omega]
  rfl
theorem rowsU_skip {R : Nat → Option Shd} {N i : Nat} (hi : i < N) (h : wholeF R (i + 1) = wholeF R i) : rowsU (wholeF R i).1 N i = rowsU (wholeF R (i + 1)).1 N (i + 1) := by
  rw [h]
  exact rowsU_none hi (lookS_none (Nat.le_refl _))
theorem rowsU_take {R : Nat → Option Shd} {N i : Nat} {x : Shd} (hi : i < N) (h : (wholeF R (i + 1)).1 = (wholeF R i).1 ++ [(i, x)]) : (rowsU (wholeF R i).1 N i).set i x.body = rowsU (wholeF R (i + 1)).1 N (i + 1) := by
  have hl := wholeF_lt R i
  have h1 : rowsU (wholeF R i).1 N i = rowsU (wholeF R (i + 1)).1 N i := by
    unfold rowsU
    congr 1
    refine List.map_congr_left fun j hj => ?_
    have hj := List.mem_range.1 hj
    rw [h, lookS_snoc _ _ _ _ hl, if_neg (by omega)]
  rw [h1, ← rowsU_next hi]
  congr 1
  rw [h, lookS_snoc _ _ _ _ hl, if_pos rfl]
  rfl
def sizeZ (l : List (Nat × Shd) × Nat) : Int := if l.1.length = 0 then -1 else (l.2 : Int)
theorem wholeF_no {R : Nat → Option Shd} {i : Nat} (h : R i = none) : wholeF R (i + 1) = wholeF R i := by rw [wholeF, h]
theorem wholeF_ne {R : Nat → Option Shd} {i : Nat} {x : Shd} (h : R i = some x) (hn : (wholeF R i).1.length ≠ 0) (hs : x.size ≠ (wholeF R i).2) : wholeF R (i + 1) = wholeF R i := by
  rw [wholeF, h]
  dsimp only
  rw [if_pos ⟨by omega, hs⟩]
theorem wholeF_yes {R : Nat → Option Shd} {i : Nat} {x : Shd} (h : R i = some x) (hs : (wholeF R i).1.length = 0 ∨ x.size = (wholeF R i).2) : wholeF R (i + 1) = ((wholeF R i).1 ++ [(i, x)], x.size) := by
  rw [wholeF, h]
  dsimp only
  rw [if_neg (fun h2 => by rcases hs with hs | hs <;> omega)]
theorem sizeZ_yes {R : Nat → Option Shd} {i : Nat} {x : Shd} (h : wholeF R (i + 1) = ((wholeF R i).1 ++ [(i, x)], x.size)) : sizeZ (wholeF R (i + 1)) = (x.size : Int) := by
  rw [h]
  unfold sizeZ
  rw [if_neg (by simp)]
/-- What the document reads at a drive's sector. -/
def RdE (w : World) (st : DSt) (z : Nat) (e : Ending) (w' : World) : Prop := Below w.heap.size w w' ∧ ((st.dead = true ∧ ∃ A c, ∃ E : Int, E ≠ 0 ∧ e = .returned (.tuple #[.slice A 0 c, .int .i64 E])) ∨ (st.dead = false ∧ ∃ A c, e = .returned (.tuple #[.slice A 64 c, .int .i64 0]) ∧ 64 ≤ c ∧ RdL ByR 1 (fun _ => True) w' A 64 (secN st z)))
section
variable {V : Nat → Prop} {w : World} {x n k m N t tg sb : Nat} {sts : List DSt} {ra : List RSt} {r : Ref}
theorem rdoc_read (hA : RArrAt V w x n ra) (hT : TInv N n t sts ra) (ht : t < 900000) (hG : GdA tg sts) (hok : ∀ st ∈ sts, st.ok n) {z d : Nat} (hz : z < n) {st : DSt} (hst : sts[d]? = some st) :
    Calls Tryz.prog 157 #[.pointer (some ⟨x, 0, none⟩), .int .i64 (d : Int), .int .i64 (z : Int)] w fun e w' => RdE w st z e w' := by
  obtain ⟨v, Fs, ps, hB⟩ := hA
  have hd : d < N := by rw [← hT.la]; exact (List.getElem?_eq_some_iff.1 hst).1
  obtain ⟨st', rs, h1, h2, hs, _⟩ := hT.at_ hd
  rw [hst] at h1
  cases h1
  have hgd := hT.good (by omega) rs (List.mem_of_getElem? h2)
  have hm := List.mem_of_getElem? hst
  have hsl := (hok st hm).sl
  have hgs := (hG st hm).seen (z := z) (by rw [hsl]; exact hz)
  refine (raread_in (Lib.hid hB) d h2 hgd (z : Int)).mono ?_
  rintro e w1 ⟨A, l, c, rfl, hr, hb, hlc⟩
  have hg2 := hs.dead
  rw [hs.read_eq] at hr
  refine ⟨hb, ?_⟩
  cases hdd : st.dead with
  | true =>
    have hE : readyE rs.gone n (z : Int) = 90 := by unfold readyE; rw [← hg2, hdd]; rfl
    have hE2 : readyE st.dead n (z : Int) = 90 := by unfold readyE; rw [hdd]; rfl
    unfold readL at hr
    rw [hE2, if_neg (by decide)] at hr
    have h0 : l = 0 := hr.1.symm
    subst h0
    exact .inl ⟨rfl, A, c, 90, by decide, by rw [hE]⟩
  | false =>
    have hE : readyE rs.gone n (z : Int) = 0 := (ready_iff2 _ _ _).2 ⟨by rw [← hg2, hdd], by omega, by omega⟩
    have hE2 : readyE st.dead n (z : Int) = 0 := (ready_iff2 _ _ _).2 ⟨hdd, by omega, by omega⟩
    unfold readL at hr
    rw [hE2, if_pos rfl, Int.toNat_natCast] at hr
    have h0 : l = 64 := by rw [← hr.1]; exact hgs.1
    subst h0
    exact .inr ⟨rfl, A, c, by rw [hE], hlc, by_of_u8 hr hgs.2⟩

theorem piece_mid2 {T E : TypeId} {z : Value} {s b : Nat} (st : SlTy Tryz.prog T E z s b) {A : Option Addr} {N c k j : Nat} (hk : k ≤ j) (hj : j ≤ c) (w : World) : (Instr.slice T (.slice A N c) (some (.int .i64 (k : Int))) (some (.int .i64 (j : Int))) none).run Tryz.prog w = .ok (.slice (if c = k then A else A.map (fun x : Addr => x.add (k * s))) (j - k) (c - k)) w := by
  obtain ⟨i, hi, hz, hsz, hby⟩ := info_parts st.info
  have hel : Tryz.prog.elem T = E := by simp [Program.elem, st.und]
  have ht : Tryz.prog.underlying T = some (.slice (Tryz.prog.elem T)) := by rw [hel]; exact st.und
  rw [run_slice_lh (t := T) (ht := ht) (h0 := Int.natCast_nonneg _) (h1 := by omega) (h2 := by omega)]
  have hs : (sizeOf (Tryz.prog.elem T)).run Tryz.prog w = .ok s w := by
    rw [hel]; simp [sizeOf, typeInfo, hi, hsz]
  rw [hs]
  simp only [Result.andThen, sliced, Int.toNat_natCast]
theorem piece_one2 {S : Nat → Prop} {w : World} {A : Option Addr} {n c : Nat} {xs : List Nat} (h : RdL ByR 1 S w A n xs) (hn : n ≤ c) {k j : Nat} (hk : k ≤ j) (hj : j ≤ n) : RdL ByR 1 S w (if c = k then A else A.map (fun x : Addr => x.add (k * 1))) (j - k) ((xs.drop k).take (j - k)) := by
  exact RdL.take (piece_rd h hn (k := k) (by omega)) (k := j - k) (by omega)

attribute [local go_sem ↓] shut_loadS shut_zeroS shut_buildS shut_storeS
attribute [local go_sem] run_zeroS run_build0
set_option maxRecDepth 100000 in
set_option maxHeartbeats 32000000 in
theorem rrows_any (hS : BoxAt w sb #[.pointer (some ⟨x, 0, none⟩), .int .i64 (k : Int), .int .i64 (m : Int)]) (hA : RArrAt V w x n ra) (hT : TInv (k + m) n t sts ra) (ht : t < 900000) (hG : GdA tg sts) (hok : ∀ st ∈ sts, st.ok n) (hr : r.ok n) (hn : n ≤ 600) (k1 : 1 ≤ k) (km : k + m ≤ 255) :
    Calls Tryz.prog 128 #[.pointer (some ⟨sb, 0, none⟩), .agg (refC r)] w fun e w' => ∃ g, e = .returned (.tuple #[.slice (some ⟨g, 0, none⟩) (k + m) (k + m), .int .i64 (sizeZ (wholeF (stR sts k r) (k + m)))]) ∧ RdL RowR 1 (fun j => w.heap.size ≤ j) w' (some ⟨g, 0, none⟩) (k + m) (rowsS (wholeF (stR sts k r) (k + m)).1 (k + m)) ∧ Below w.heap.size w w' := by
  have bR := BoxAt.new w #[.int .u8 (r.kind : Int), .int .i64 (r.place : Int), .int .u64 (r.gen : Int)] 38
  have hb0 : Below w.heap.size w (w.alloc (.cells #[.int .u8 (r.kind : Int), .int .i64 (r.place : Int), .int .u64 (r.gen : Int)] 38)) := (Below.refl _ _).alloc (Nat.le_refl _) _
  obtain ⟨WA, hWA⟩ : ∃ W, w.alloc (.cells #[.int .u8 (r.kind : Int), .int .i64 (r.place : Int), .int .u64 (r.gen : Int)] 38) = W := ⟨_, rfl⟩
  obtain ⟨p, hp⟩ : ∃ p, w.heap.size = p := ⟨_, rfl⟩
  rw [hWA] at bR hb0
  rw [hp] at bR
  have HCL := Lib.hid (show ∀ w', Below WA.heap.size WA w' → (fun w' => (w'.cell? ⟨sb, 0, none⟩ = some (.pointer (some ⟨x, 0, none⟩)) ∧ w'.cell? ⟨sb, 1, none⟩ = some (.int .i64 (k : Int)) ∧ w'.cell? ⟨sb, 2, none⟩ = some (.int .i64 (m : Int))) ∧ w'.cell? ⟨p, 0, none⟩ = some (.int .u8 (r.kind : Int)) ∧ w'.cell? ⟨p, 1, none⟩ = some (.int .i64 (r.place : Int)) ∧ w'.cell? ⟨p, 2, none⟩ = some (.int .u64 (r.gen : Int))) w' from fun w' hb => ⟨⟨((hS.below hb0).below hb).cell 0, ((hS.below hb0).below hb).cell 1, ((hS.below hb0).below hb).cell 2⟩, (bR.below hb).cell 0, (bR.below hb).cell 1, (bR.below hb).cell 2⟩)
  have HRD := Lib.hid (fun (w' : World) (hb : Below w.heap.size w w') (d : Nat) (st : DSt) (hst : sts[d]? = some st) => rdoc_read (hA.below hb) hT ht hG hok hr.p hst)
  have HRK := Lib.hid (hG.rd hok hr.p)
  have HLN := Lib.hid hT.la
  have HB0 := Lib.hid hb0
  have HPW := Lib.hid (show w.heap.size ≤ WA.heap.size from hb0.size)
  obtain ⟨N, hN⟩ : ∃ N, k + m = N := ⟨_, rfl⟩
  have hkm : IntKind.i64.wrap ((k : Int) + (m : Int)) = (N : Int) := by rw [IntKind.wrap_i64]; omega
  have hkm2 : (k : Int) + (m : Int) = (N : Int) := by omega
  have hkw : IntKind.i64.wrap (N : Int) = (N : Int) := by rw [IntKind.wrap_i64]; omega
  have hN2 : N ≤ 255 := by omega
  have hN1 : 1 ≤ N := by omega
  rw [hN] at HLN ⊢
  obtain ⟨R, hR⟩ : ∃ R, stR sts k r = R := ⟨_, rfl⟩
  rw [hR]
  have HR := Lib.hid hR
  have hmk := makeRows N (by omega) WA.drew
  have ho := (OutAt.made WA N 68).below ((Below.refl _ _).drew)
  have hbz : Below w.heap.size w (WA.alloc (.cells (Array.replicate N (.slice none 0 0)) 68)).drew := (hb0.alloc hb0.size _).drew
  have hbz2 : Below WA.heap.size WA (WA.alloc (.cells (Array.replicate N (.slice none 0 0)) 68)).drew := ((Below.refl _ _).alloc (Nat.le_refl _) _).drew
  have s0 := HCL.out WA.drew (Below.refl _ _).drew
  have s1 := HCL.out _ hbz2
  have hkN : (0 : Int) ≤ (N : Int) := by omega
  clear hS hA hT hG hok bR hb0 hN hR
  unfold refC
  go_enter Tryz.func128, Tryz.ntmps128
  go_wp2_with fail
  refine wp_region_held_drew (S := fun w' => (w'.cell? ⟨sb, 0, none⟩ = some (.pointer (some ⟨x, 0, none⟩)) ∧ w'.cell? ⟨sb, 1, none⟩ = some (.int .i64 (k : Int)) ∧ w'.cell? ⟨sb, 2, none⟩ = some (.int .i64 (m : Int))) ∧ w'.cell? ⟨p, 0, none⟩ = some (.int .u8 (r.kind : Int)) ∧ w'.cell? ⟨p, 1, none⟩ = some (.int .i64 (r.place : Int)) ∧ w'.cell? ⟨p, 2, none⟩ = some (.int .u64 (r.gen : Int))) (by kernel_rfl) (by first | exact s0 | exact s1) (fun hHeld => ?_)
  refine tkH 0 rfl ?_
  refine tkH 1 rfl ?_
  refine tkH 2 rfl ?_
  refine tkH 3 rfl ?_
  refine tkH 4 rfl ?_
  refine tkH 5 rfl ?_
  refine tkH 6 rfl ?_
  refine tkH 7 rfl ?_
  refine tkH 8 rfl ?_
  refine rdH 9 rfl fun K hK => ?_
  try simp (maxSteps := 2000000) only [zz1, zz2, zz3]
  go_simp
  refine hK.out _ _ (by first | exact s0 | exact s1) (fun hHeld => ?_)
  clear hK K
  try simp (maxSteps := 2000000) only [zz1, zz2, zz3, Act.put, zz4, zz5, zz6]
  refine tkH 10 rfl ?_
  refine wpAnyH_done (by kernel_rfl) ?_ _
  obtain ⟨g, hg⟩ : ∃ g, WA.heap.size = g := ⟨_, rfl⟩
  rw [hg] at ho
  have HO := Lib.hid (show OutAt (WA.alloc (.cells (Array.replicate N (.slice none 0 0)) 68)).drew g g N (rowsU (wholeF R 0).1 N 0) by unfold rowsU; exact ho)
  have HB := Lib.hid hbz2
  have HGW := Lib.hid (show w.heap.size ≤ g by rw [← hg]; exact HPW.out)
  have HGE := Lib.hid hg
  clear ho hbz hbz2 s0 s1 hmk
  rw [hg]
  clear hg
  go_wp2_with fail
  go_loopw [6, 8] (fun vz vi wr => ∃ i : Nat, i ≤ N ∧ vi = .int .i64 i ∧ vz = .int .i64 (sizeZ (wholeF R i)) ∧ Hid (OutAt wr g g N (rowsU (wholeF R i).1 N i)) ∧ Hid (Below WA.heap.size WA wr)) (fun _ vi _ => N - (intOf vi).toNat)
  case atStart => exact ⟨0, Nat.zero_le _, rfl, rfl, HO, HB⟩
  case round =>
    clear HO HB
    obtain ⟨i, hi, rfl, rfl, HO, HB⟩ := hrel
    have i0 : (0 : Int) ≤ (i : Int) := Int.natCast_nonneg _
    have s0 := HCL.out _ HB.out.drew
    by_cases hlt : i < N
    · have i1 : (i : Int) < (N : Int) := by omega
      have i2 : decide ((i : Int) < (N : Int)) = true := decide_eq_true i1
      go_wp2_with fail
      refine wp_region_held_drew (S := fun w' => (w'.cell? ⟨sb, 0, none⟩ = some (.pointer (some ⟨x, 0, none⟩)) ∧ w'.cell? ⟨sb, 1, none⟩ = some (.int .i64 (k : Int)) ∧ w'.cell? ⟨sb, 2, none⟩ = some (.int .i64 (m : Int))) ∧ w'.cell? ⟨p, 0, none⟩ = some (.int .u8 (r.kind : Int)) ∧ w'.cell? ⟨p, 1, none⟩ = some (.int .i64 (r.place : Int)) ∧ w'.cell? ⟨p, 2, none⟩ = some (.int .u64 (r.gen : Int))) (by kernel_rfl) (by exact s0) (fun hHeld => ?_)
      refine tkH 0 rfl ?_
      refine tkH 1 rfl ?_
      refine tkH 2 rfl ?_
      refine tkH 3 rfl ?_
      refine tkH 4 rfl ?_
      refine tkH 5 rfl ?_
      refine tkH 6 rfl ?_
      refine tkH 7 rfl ?_
      refine tkH 8 rfl ?_
      refine tkH 9 rfl ?_
      refine tkH 10 rfl ?_
      refine wpAnyH_done (by kernel_rfl) ?_ _
      have s1 := HCL.out _ HB.out.drew.drew
      have hd : homeN N r.place i < N := homeN_lt hN1
      obtain ⟨st, hst⟩ : ∃ st, sts[homeN N r.place i]? = some st := ⟨_, List.getElem?_eq_getElem (by rw [HLN.out]; exact hd)⟩
      have HRI := Lib.hid (show R i = rdS st k r i by rw [← HR.out]; unfold stR; rw [HLN.out, hst])
      have hm := List.mem_of_getElem? hst
      have HSN := Lib.hid (And.intro (secN_byt (HRK.out.b st hm)) (HRK.out.l st hm))
      have HHM := Lib.hid (fun W => rhome_any (w := W) (n := N) (place := r.place) (i := i) hN1 (by omega))
      have HRE := Lib.hid (fun (w' : World) (hb : Below w.heap.size w w') => HRD.out w' hb _ st hst)
      obtain ⟨dd, hdd⟩ : ∃ d, homeN N r.place i = d := ⟨_, rfl⟩
      rw [hdd] at HHM HRE hd
      clear hst hm hdd s0
      cases hdd : st.dead with
      | true =>
        have HRN := Lib.hid (show R i = none by rw [HRI.out]; exact rdS_dead hdd)
        have HWN := Lib.hid (wholeF_no HRN.out)
        go_wp2_with fail
        refine wp_region_held_drew (S := fun w' => (w'.cell? ⟨sb, 0, none⟩ = some (.pointer (some ⟨x, 0, none⟩)) ∧ w'.cell? ⟨sb, 1, none⟩ = some (.int .i64 (k : Int)) ∧ w'.cell? ⟨sb, 2, none⟩ = some (.int .i64 (m : Int))) ∧ w'.cell? ⟨p, 0, none⟩ = some (.int .u8 (r.kind : Int)) ∧ w'.cell? ⟨p, 1, none⟩ = some (.int .i64 (r.place : Int)) ∧ w'.cell? ⟨p, 2, none⟩ = some (.int .u64 (r.gen : Int))) (by kernel_rfl) (by first | exact s1 | exact s2 | exact s3) (fun hHeld => ?_)
        refine tkH 0 rfl ?_
        refine tkH 1 rfl ?_
        refine tkH 2 rfl ?_
        refine tkH 3 rfl ?_
        refine tkH 4 rfl ?_
        refine tkH 5 rfl ?_
        refine tkH 6 rfl ?_
        refine tkH 7 rfl ?_
        refine tkH 8 rfl ?_
        refine tkH 9 rfl ?_
        refine tkH 10 rfl ?_
        refine tkH 11 rfl ?_
        refine tkH 12 rfl ?_
        refine tkH 13 rfl ?_
        refine tkH 14 rfl ?_
        refine tkH 15 rfl ?_
        refine tkH 17 rfl ?_
        refine tkH 18 rfl ?_
        refine rdH 16 rfl fun K hK => ?_
        try simp (maxSteps := 2000000) only [zz1, zz2, zz3]
        go_simp
        go_at_call 69
        refine (HHM.out _).mono ?_
        rintro e w5 ⟨rfl, hb5⟩
        have hb5' := HB.out.drew.drew.trans (hb5.mono HB.out.drew.drew.size)
        have s2 := HCL.out _ hb5'
        have HB5 := Lib.hid hb5'
        have HW5 := Lib.hid ((Below.refl wr.heap.size wr).drew.drew.trans (show Below wr.heap.size wr.drew.drew w5 from hb5))
        clear hb5 hb5' HHM
        try (go_wp2_with fail)
        refine hK.out _ _ (by first | exact s1 | exact s2 | exact s3) (fun hHeld => ?_)
        clear hK K
        try simp (maxSteps := 2000000) only [zz1, zz2, zz3, Act.put, zz4, zz5, zz6]
        refine rdH 19 rfl fun K hK => ?_
        try simp (maxSteps := 2000000) only [zz1, zz2, zz3]
        go_simp
        go_at_call 157
        refine (HRE.out _ (HB0.out.trans (HB5.out.mono HB0.out.size))).mono ?_
        rintro e w6 ⟨hb6, ⟨_, A6, c6, E6, hE6, rfl⟩ | ⟨h9, _⟩⟩
        rotate_left
        · rw [hdd] at h9; cases h9
        have HWR := Lib.hid (HW5.out.trans (hb6.mono HW5.out.size))
        have hb6' := HB5.out.trans (hb6.mono HB5.out.size)
        have s3 := HCL.out _ hb6'
        have HB6 := Lib.hid hb6'
        clear hb6 hb6' HRE
        try (go_wp2_with fail)
        refine hK.out _ _ (by first | exact s1 | exact s2 | exact s3) (fun hHeld => ?_)
        clear hK K
        try simp (maxSteps := 2000000) only [zz1, zz2, zz3, Act.put, zz4, zz5, zz6]
        refine tkH 20 rfl ?_
        refine tkH 21 rfl ?_
        refine tkH 22 rfl ?_
        refine tkH 23 rfl ?_
        refine tkH 24 rfl ?_
        refine wpAnyH_done (by kernel_rfl) ?_ _
        have e6 : (E6 != 0) = true := by simpa using hE6
        clear hE6
        go_wp2_with fail
        refine (rshget_any (S := fun _ => True) (xs := []) ⟨rfl, fun h => absurd h (Nat.lt_irrefl 0)⟩ (Nat.zero_le c6)).mono ?_
        rintro e w7 ⟨hb7, y, E7, rfl, hyo, hcase⟩
        have hst7 := run_storeS (y := y) (BoxAt.new w7 (shC sh0) 193) sh0_ok.l hyo.l
        have bQ := shC_set (y := y) (BoxAt.new w7 (shC sh0) 193) sh0_ok.l hyo.l
        have hbr : Below w7.heap.size w7 ((w7.alloc (.cells (shC sh0) 193)).setCells w7.heap.size 0 (shV y)) := setS_below ((Below.refl _ _).alloc (Nat.le_refl _) _) (Nat.le_refl _) _
        obtain ⟨W8, hW8⟩ : ∃ W, (w7.alloc (.cells (shC sh0) 193)).setCells w7.heap.size 0 (shV y) = W := ⟨_, rfl⟩
        rw [hW8] at hst7 bQ hbr
        obtain ⟨q, hq⟩ : ∃ q, w7.heap.size = q := ⟨_, rfl⟩
        rw [hq] at hst7 bQ
        have HB7 := Lib.hid (HB6.out.trans (hb7.mono HB6.out.size))
        have HB8 := Lib.hid (HB7.out.trans (hbr.mono HB7.out.size))
        have HYO := Lib.hid hyo
        have HBQ := Lib.hid bQ
        have HW67 := Lib.hid (hb7.trans (hbr.mono hb7.size))
        have HW68 := Lib.hid hb7
        have HC8 := Lib.hid (show ∀ w', Below W8.heap.size W8 w' → (fun w' => ((w'.cell? ⟨sb, 0, none⟩ = some (.pointer (some ⟨x, 0, none⟩)) ∧ w'.cell? ⟨sb, 1, none⟩ = some (.int .i64 (k : Int)) ∧ w'.cell? ⟨sb, 2, none⟩ = some (.int .i64 (m : Int))) ∧ w'.cell? ⟨p, 0, none⟩ = some (.int .u8 (r.kind : Int)) ∧ w'.cell? ⟨p, 1, none⟩ = some (.int .i64 (r.place : Int)) ∧ w'.cell? ⟨p, 2, none⟩ = some (.int .u64 (r.gen : Int))) ∧ (shutLoad 193 ⟨q, 0, none⟩).run Tryz.prog w' = .ok (.agg (shC y)) w' ∧ w'.cell? ⟨q, 4, none⟩ = some (.int .u16 (y.size : Int))) w' from fun w' hb => ⟨HCL.out w' (HB8.out.trans (hb.mono HB8.out.size)), run_loadS (bQ.below hb) hyo.l, ((bQ.below hb).cell 4).trans (shC_4 y)⟩)
        have u8 := HC8.out _ (Below.refl _ _).drew
        clear s1 s2 s3 hb7 bQ hbr hyo
        go_wp2_with fail
        clear hst7 hW8
        refine wp_region_held_drew (S := fun w' => ((w'.cell? ⟨sb, 0, none⟩ = some (.pointer (some ⟨x, 0, none⟩)) ∧ w'.cell? ⟨sb, 1, none⟩ = some (.int .i64 (k : Int)) ∧ w'.cell? ⟨sb, 2, none⟩ = some (.int .i64 (m : Int))) ∧ w'.cell? ⟨p, 0, none⟩ = some (.int .u8 (r.kind : Int)) ∧ w'.cell? ⟨p, 1, none⟩ = some (.int .i64 (r.place : Int)) ∧ w'.cell? ⟨p, 2, none⟩ = some (.int .u64 (r.gen : Int))) ∧ (shutLoad 193 ⟨q, 0, none⟩).run Tryz.prog w' = .ok (.agg (shC y)) w' ∧ w'.cell? ⟨q, 4, none⟩ = some (.int .u16 (y.size : Int))) (by kernel_rfl) (by first | exact u8 | exact u9) (fun hHeld => ?_)
        refine tkH 0 rfl ?_
        refine tkH 1 rfl ?_
        refine tkH 2 rfl ?_
        refine skH 3 rfl ?_
        refine skH 4 rfl ?_
        refine tkH 5 rfl ?_
        refine tkH 6 rfl ?_
        refine skH 7 rfl ?_
        refine skH 8 rfl ?_
        refine skH 9 rfl ?_
        refine skH 10 rfl ?_
        refine skH 11 rfl ?_
        refine tkH 12 rfl ?_
        refine tkH 13 rfl ?_
        refine skH 14 rfl ?_
        refine skH 15 rfl ?_
        refine skH 16 rfl ?_
        refine skH 17 rfl ?_
        refine skH 18 rfl ?_
        refine skH 19 rfl ?_
        refine skH 20 rfl ?_
        refine skH 21 rfl ?_
        refine skH 22 rfl ?_
        refine tkH 23 rfl ?_
        refine wpAnyH_done (by kernel_rfl) ?_ _
        have HBn := Lib.hid (HB8.out.trans (((Below.refl W8.heap.size W8).drew) |>.mono HB8.out.size))
        have HOn := Lib.hid (show OutAt W8.drew g g N (rowsU (wholeF R (i + 1)).1 N (i + 1)) by
          rw [← rowsU_skip hlt HWN.out]
          exact ((HO.out.below HWR.out).below HW67.out).below ((Below.refl W8.heap.size W8).drew))
        go_wp2_with fail
        exact ⟨⟨i + 1, hlt, by go_num, by rw [HWN.out], HOn, HBn⟩, by simp [intOf]; omega⟩
      | false =>
        go_wp2_with fail
        refine wp_region_held_drew (S := fun w' => (w'.cell? ⟨sb, 0, none⟩ = some (.pointer (some ⟨x, 0, none⟩)) ∧ w'.cell? ⟨sb, 1, none⟩ = some (.int .i64 (k : Int)) ∧ w'.cell? ⟨sb, 2, none⟩ = some (.int .i64 (m : Int))) ∧ w'.cell? ⟨p, 0, none⟩ = some (.int .u8 (r.kind : Int)) ∧ w'.cell? ⟨p, 1, none⟩ = some (.int .i64 (r.place : Int)) ∧ w'.cell? ⟨p, 2, none⟩ = some (.int .u64 (r.gen : Int))) (by kernel_rfl) (by first | exact s1 | exact s2 | exact s3) (fun hHeld => ?_)
        refine tkH 0 rfl ?_
        refine tkH 1 rfl ?_
        refine tkH 2 rfl ?_
        refine tkH 3 rfl ?_
        refine tkH 4 rfl ?_
        refine tkH 5 rfl ?_
        refine tkH 6 rfl ?_
        refine tkH 7 rfl ?_
        refine tkH 8 rfl ?_
        refine tkH 9 rfl ?_
        refine tkH 10 rfl ?_
        refine tkH 11 rfl ?_
        refine tkH 12 rfl ?_
        refine tkH 13 rfl ?_
        refine tkH 14 rfl ?_
        refine tkH 15 rfl ?_
        refine tkH 17 rfl ?_
        refine tkH 18 rfl ?_
        refine rdH 16 rfl fun K hK => ?_
        try simp (maxSteps := 2000000) only [zz1, zz2, zz3]
        go_simp
        go_at_call 69
        refine (HHM.out _).mono ?_
        rintro e w5 ⟨rfl, hb5⟩
        have hb5' := HB.out.drew.drew.trans (hb5.mono HB.out.drew.drew.size)
        have s2 := HCL.out _ hb5'
        have HB5 := Lib.hid hb5'
        have HW5 := Lib.hid ((Below.refl wr.heap.size wr).drew.drew.trans (show Below wr.heap.size wr.drew.drew w5 from hb5))
        clear hb5 hb5' HHM
        try (go_wp2_with fail)
        refine hK.out _ _ (by first | exact s1 | exact s2 | exact s3) (fun hHeld => ?_)
        clear hK K
        try simp (maxSteps := 2000000) only [zz1, zz2, zz3, Act.put, zz4, zz5, zz6]
        refine rdH 19 rfl fun K hK => ?_
        try simp (maxSteps := 2000000) only [zz1, zz2, zz3]
        go_simp
        go_at_call 157
        refine (HRE.out _ (HB0.out.trans (HB5.out.mono HB0.out.size))).mono ?_
        rintro e w6 ⟨hb6, ⟨h9, _⟩ | ⟨_, A6, c6, rfl, hc6, hr6⟩⟩
        · rw [hdd] at h9; cases h9
        have HC6 := Lib.hid hc6
        have HR6 := Lib.hid hr6
        have HWR := Lib.hid (HW5.out.trans (hb6.mono HW5.out.size))
        clear hc6 hr6
        have hb6' := HB5.out.trans (hb6.mono HB5.out.size)
        have s3 := HCL.out _ hb6'
        have HB6 := Lib.hid hb6'
        clear hb6 hb6' HRE
        try (go_wp2_with fail)
        refine hK.out _ _ (by first | exact s1 | exact s2 | exact s3) (fun hHeld => ?_)
        clear hK K
        try simp (maxSteps := 2000000) only [zz1, zz2, zz3, Act.put, zz4, zz5, zz6]
        refine tkH 20 rfl ?_
        refine tkH 21 rfl ?_
        refine tkH 22 rfl ?_
        refine tkH 23 rfl ?_
        refine tkH 24 rfl ?_
        refine wpAnyH_done (by kernel_rfl) ?_ _
        go_wp2_with fail
        refine (rshget_any HR6.out HC6.out).mono ?_
        rintro e w7 ⟨hb7, y, E7, rfl, hyo, hcase⟩
        have hst7 := run_storeS (y := y) (BoxAt.new w7 (shC sh0) 193) sh0_ok.l hyo.l
        have bQ := shC_set (y := y) (BoxAt.new w7 (shC sh0) 193) sh0_ok.l hyo.l
        have hbr : Below w7.heap.size w7 ((w7.alloc (.cells (shC sh0) 193)).setCells w7.heap.size 0 (shV y)) := setS_below ((Below.refl _ _).alloc (Nat.le_refl _) _) (Nat.le_refl _) _
        obtain ⟨W8, hW8⟩ : ∃ W, (w7.alloc (.cells (shC sh0) 193)).setCells w7.heap.size 0 (shV y) = W := ⟨_, rfl⟩
        rw [hW8] at hst7 bQ hbr
        obtain ⟨q, hq⟩ : ∃ q, w7.heap.size = q := ⟨_, rfl⟩
        rw [hq] at hst7 bQ
        have HB7 := Lib.hid (HB6.out.trans (hb7.mono HB6.out.size))
        have HB8 := Lib.hid (HB7.out.trans (hbr.mono HB7.out.size))
        have HYO := Lib.hid hyo
        have HBQ := Lib.hid bQ
        have HW67 := Lib.hid (hb7.trans (hbr.mono hb7.size))
        have HW68 := Lib.hid hb7
        have HC8 := Lib.hid (show ∀ w', Below W8.heap.size W8 w' → (fun w' => ((w'.cell? ⟨sb, 0, none⟩ = some (.pointer (some ⟨x, 0, none⟩)) ∧ w'.cell? ⟨sb, 1, none⟩ = some (.int .i64 (k : Int)) ∧ w'.cell? ⟨sb, 2, none⟩ = some (.int .i64 (m : Int))) ∧ w'.cell? ⟨p, 0, none⟩ = some (.int .u8 (r.kind : Int)) ∧ w'.cell? ⟨p, 1, none⟩ = some (.int .i64 (r.place : Int)) ∧ w'.cell? ⟨p, 2, none⟩ = some (.int .u64 (r.gen : Int))) ∧ (shutLoad 193 ⟨q, 0, none⟩).run Tryz.prog w' = .ok (.agg (shC y)) w' ∧ w'.cell? ⟨q, 4, none⟩ = some (.int .u16 (y.size : Int))) w' from fun w' hb => ⟨HCL.out w' (HB8.out.trans (hb.mono HB8.out.size)), run_loadS (bQ.below hb) hyo.l, ((bQ.below hb).cell 4).trans (shC_4 y)⟩)
        have u8 := HC8.out _ (Below.refl _ _).drew
        clear s1 s2 s3 hb7 bQ hbr hyo
        by_cases hE7 : E7 = 0
        case neg =>
          have e7 : (E7 != 0) = true := by simpa using hE7
          have HRN := Lib.hid (show R i = none by
            rw [HRI.out]
            unfold rdS rdX
            rw [if_neg (by rw [hdd]; decide)]
            refine if_neg fun h9 => ?_
            rcases hcase with h8 | h8
            · exact hE7 h8.1
            · exact h8.2 ⟨rfl, h9.1, h9.2.1⟩)
          have HWN := Lib.hid (wholeF_no HRN.out)
          clear hcase hE7
          go_wp2_with fail
          clear hst7 hW8
          refine wp_region_held_drew (S := fun w' => ((w'.cell? ⟨sb, 0, none⟩ = some (.pointer (some ⟨x, 0, none⟩)) ∧ w'.cell? ⟨sb, 1, none⟩ = some (.int .i64 (k : Int)) ∧ w'.cell? ⟨sb, 2, none⟩ = some (.int .i64 (m : Int))) ∧ w'.cell? ⟨p, 0, none⟩ = some (.int .u8 (r.kind : Int)) ∧ w'.cell? ⟨p, 1, none⟩ = some (.int .i64 (r.place : Int)) ∧ w'.cell? ⟨p, 2, none⟩ = some (.int .u64 (r.gen : Int))) ∧ (shutLoad 193 ⟨q, 0, none⟩).run Tryz.prog w' = .ok (.agg (shC y)) w' ∧ w'.cell? ⟨q, 4, none⟩ = some (.int .u16 (y.size : Int))) (by kernel_rfl) (by first | exact u8 | exact u9) (fun hHeld => ?_)
          refine tkH 0 rfl ?_
          refine tkH 1 rfl ?_
          refine tkH 2 rfl ?_
          refine tkH 3 rfl ?_
          refine tkH 4 rfl ?_
          refine tkH 5 rfl ?_
          refine tkH 6 rfl ?_
          refine skH 7 rfl ?_
          refine skH 8 rfl ?_
          refine skH 9 rfl ?_
          refine skH 10 rfl ?_
          refine skH 11 rfl ?_
          refine tkH 12 rfl ?_
          refine tkH 13 rfl ?_
          refine skH 14 rfl ?_
          refine skH 15 rfl ?_
          refine skH 16 rfl ?_
          refine skH 17 rfl ?_
          refine skH 18 rfl ?_
          refine skH 19 rfl ?_
          refine skH 20 rfl ?_
          refine skH 21 rfl ?_
          refine skH 22 rfl ?_
          refine tkH 23 rfl ?_
          refine wpAnyH_done (by kernel_rfl) ?_ _
          have HBn := Lib.hid (HB8.out.trans (((Below.refl W8.heap.size W8).drew) |>.mono HB8.out.size))
          have HOn := Lib.hid (show OutAt W8.drew g g N (rowsU (wholeF R (i + 1)).1 N (i + 1)) by
            rw [← rowsU_skip hlt HWN.out]
            exact ((HO.out.below HWR.out).below HW67.out).below ((Below.refl W8.heap.size W8).drew))
          go_wp2_with fail
          exact ⟨⟨i + 1, hlt, by go_num, by rw [HWN.out], HOn, HBn⟩, by simp [intOf]; omega⟩
        case pos =>
          subst hE7
          obtain ⟨_, _, hok7, hfr7, hyd⟩ : (0 : Int) = 0 ∧ 64 = 64 ∧ okSum (secN st r.place) ∧ frmB (secN st r.place) = true ∧ y = decS (secN st r.place) := by
            rcases hcase with h8 | h8
            · exact h8
            · exact absurd rfl h8.1
          have HYD := Lib.hid hyd
          have HOF := Lib.hid (And.intro hok7 hfr7)
          have HDD := Lib.hid hdd
          have z0 : (0 : Int) ≤ (y.size : Int) := Int.natCast_nonneg _
          have hcv : IntKind.i64.wrap (y.size : Int) = (y.size : Int) := by have := HYO.out.s; rw [IntKind.wrap_i64]; omega
          have hk44 : IntKind.i64.wrap ((k : Int) * 44) = (k : Int) * 44 := by rw [IntKind.wrap_i64]; omega
          clear hcase hyd hok7 hfr7 hdd
          cases hB : isB y r i with
          | false =>
            have HIS := Lib.hid hB
            have HRN := Lib.hid (show R i = none by
              rw [HRI.out]
              unfold rdS rdX
              rw [if_neg (by rw [HDD.out]; decide)]
              refine if_neg fun h9 => ?_
              rw [← HYD.out] at h9
              rw [hB] at h9
              exact absurd h9.2.2.1 (by decide))
            have HWN := Lib.hid (wholeF_no HRN.out)
            clear hB
            go_wp2_with fail
            clear hst7 hW8
            refine wp_region_held_drew (S := fun w' => ((w'.cell? ⟨sb, 0, none⟩ = some (.pointer (some ⟨x, 0, none⟩)) ∧ w'.cell? ⟨sb, 1, none⟩ = some (.int .i64 (k : Int)) ∧ w'.cell? ⟨sb, 2, none⟩ = some (.int .i64 (m : Int))) ∧ w'.cell? ⟨p, 0, none⟩ = some (.int .u8 (r.kind : Int)) ∧ w'.cell? ⟨p, 1, none⟩ = some (.int .i64 (r.place : Int)) ∧ w'.cell? ⟨p, 2, none⟩ = some (.int .u64 (r.gen : Int))) ∧ (shutLoad 193 ⟨q, 0, none⟩).run Tryz.prog w' = .ok (.agg (shC y)) w' ∧ w'.cell? ⟨q, 4, none⟩ = some (.int .u16 (y.size : Int))) (by kernel_rfl) (by first | exact u8 | exact u9) (fun hHeld => ?_)
            refine tkH 0 rfl ?_
            refine tkH 1 rfl ?_
            refine tkH 2 rfl ?_
            refine tkH 3 rfl ?_
            refine tkH 4 rfl ?_
            refine tkH 5 rfl ?_
            refine tkH 6 rfl ?_
            refine tkH 7 rfl ?_
            refine tkH 8 rfl ?_
            refine tkH 9 rfl ?_
            refine rdH 10 rfl fun K hK => ?_
            try simp (maxSteps := 2000000) only [zz1, zz2, zz3]
            go_simp
            go_at_call 159
            refine (rshis_any (r := r) (i := i) HYO.out).mono ?_
            rintro e w9 ⟨rfl, hb9⟩
            rw [HIS.out]
            have hb9' : Below W8.heap.size W8 w9 := (Below.refl W8.heap.size W8).drew.trans (show Below W8.heap.size W8.drew w9 from hb9)
            have u9 := HC8.out _ hb9'
            have HB9 := Lib.hid hb9'
            clear hb9' hb9
            try (go_wp2_with fail)
            refine hK.out _ _ (by first | exact u8 | exact u9) (fun hHeld => ?_)
            clear hK K
            try simp (maxSteps := 2000000) only [zz1, zz2, zz3, Act.put, zz4, zz5, zz6]
            refine tkH 11 rfl ?_
            refine tkH 12 rfl ?_
            refine tkH 13 rfl ?_
            refine skH 14 rfl ?_
            refine skH 15 rfl ?_
            refine skH 16 rfl ?_
            refine skH 17 rfl ?_
            refine skH 18 rfl ?_
            refine skH 19 rfl ?_
            refine skH 20 rfl ?_
            refine skH 21 rfl ?_
            refine skH 22 rfl ?_
            refine tkH 23 rfl ?_
            refine wpAnyH_done (by kernel_rfl) ?_ _
            have HBn := Lib.hid (HB8.out.trans (HB9.out |>.mono HB8.out.size))
            have HOn := Lib.hid (show OutAt w9 g g N (rowsU (wholeF R (i + 1)).1 N (i + 1)) by
              rw [← rowsU_skip hlt HWN.out]
              exact ((HO.out.below HWR.out).below HW67.out).below HB9.out)
            go_wp2_with fail
            exact ⟨⟨i + 1, hlt, by go_num, by rw [HWN.out], HOn, HBn⟩, by simp [intOf]; omega⟩
          | true =>
            have HIS := Lib.hid hB
            by_cases hsz : y.size ≤ k * 44
            case neg =>
              have e8 : (y.size : Int) > (k : Int) * 44 := by omega
              have e9 : decide ((y.size : Int) > (k : Int) * 44) = true := decide_eq_true e8
              have e10 : decide ((k : Int) * 44 < (y.size : Int)) = true := decide_eq_true e8
              have HRN := Lib.hid (show R i = none by
                rw [HRI.out]
                unfold rdS rdX
                rw [if_neg (by rw [HDD.out]; decide)]
                refine if_neg fun h9 => ?_
                rw [← HYD.out] at h9
                exact hsz h9.2.2.2)
              have HWN := Lib.hid (wholeF_no HRN.out)
              clear hB
              go_wp2_with fail
              clear hst7 hW8
              refine wp_region_held_drew (S := fun w' => ((w'.cell? ⟨sb, 0, none⟩ = some (.pointer (some ⟨x, 0, none⟩)) ∧ w'.cell? ⟨sb, 1, none⟩ = some (.int .i64 (k : Int)) ∧ w'.cell? ⟨sb, 2, none⟩ = some (.int .i64 (m : Int))) ∧ w'.cell? ⟨p, 0, none⟩ = some (.int .u8 (r.kind : Int)) ∧ w'.cell? ⟨p, 1, none⟩ = some (.int .i64 (r.place : Int)) ∧ w'.cell? ⟨p, 2, none⟩ = some (.int .u64 (r.gen : Int))) ∧ (shutLoad 193 ⟨q, 0, none⟩).run Tryz.prog w' = .ok (.agg (shC y)) w' ∧ w'.cell? ⟨q, 4, none⟩ = some (.int .u16 (y.size : Int))) (by kernel_rfl) (by first | exact u8 | exact u9) (fun hHeld => ?_)
              refine tkH 0 rfl ?_
              refine tkH 1 rfl ?_
              refine tkH 2 rfl ?_
              refine tkH 3 rfl ?_
              refine tkH 4 rfl ?_
              refine tkH 5 rfl ?_
              refine tkH 6 rfl ?_
              refine tkH 7 rfl ?_
              refine tkH 8 rfl ?_
              refine tkH 9 rfl ?_
              refine rdH 10 rfl fun K hK => ?_
              try simp (maxSteps := 2000000) only [zz1, zz2, zz3]
              go_simp
              go_at_call 159
              refine (rshis_any (r := r) (i := i) HYO.out).mono ?_
              rintro e w9 ⟨rfl, hb9⟩
              rw [HIS.out]
              have hb9' : Below W8.heap.size W8 w9 := (Below.refl W8.heap.size W8).drew.trans (show Below W8.heap.size W8.drew w9 from hb9)
              have u9 := HC8.out _ hb9'
              have HB9 := Lib.hid hb9'
              clear hb9' hb9
              try (go_wp2_with fail)
              refine hK.out _ _ (by first | exact u8 | exact u9) (fun hHeld => ?_)
              clear hK K
              try simp (maxSteps := 2000000) only [zz1, zz2, zz3, Act.put, zz4, zz5, zz6]
              refine tkH 11 rfl ?_
              refine tkH 12 rfl ?_
              refine tkH 13 rfl ?_
              refine tkH 14 rfl ?_
              refine tkH 15 rfl ?_
              refine tkH 16 rfl ?_
              refine tkH 17 rfl ?_
              refine tkH 18 rfl ?_
              refine tkH 19 rfl ?_
              refine tkH 20 rfl ?_
              refine tkH 21 rfl ?_
              refine tkH 22 rfl ?_
              refine tkH 23 rfl ?_
              refine wpAnyH_done (by kernel_rfl) ?_ _
              have HBn := Lib.hid (HB8.out.trans (HB9.out |>.mono HB8.out.size))
              have HOn := Lib.hid (show OutAt w9 g g N (rowsU (wholeF R (i + 1)).1 N (i + 1)) by
                rw [← rowsU_skip hlt HWN.out]
                exact ((HO.out.below HWR.out).below HW67.out).below HB9.out)
              go_wp2_with fail
              exact ⟨⟨i + 1, hlt, by go_num, by rw [HWN.out], HOn, HBn⟩, by simp [intOf]; omega⟩
            case pos =>
              have e8 : ¬ (y.size : Int) > (k : Int) * 44 := by omega
              have e9 : decide ((y.size : Int) > (k : Int) * 44) = false := decide_eq_false e8
              have e10 : decide ((k : Int) * 44 < (y.size : Int)) = false := decide_eq_false e8
              have HRN := Lib.hid (show R i = some y by
                rw [HRI.out]
                unfold rdS rdX
                rw [if_neg (by rw [HDD.out]; decide), if_pos ⟨HOF.out.1, HOF.out.2, by rw [← HYD.out]; exact hB, by rw [← HYD.out]; exact hsz⟩, HYD.out])
              have HSZ := Lib.hid hsz
              clear hB hsz
              go_wp2_with fail
              clear hst7 hW8
              refine wp_region_held_drew (S := fun w' => ((w'.cell? ⟨sb, 0, none⟩ = some (.pointer (some ⟨x, 0, none⟩)) ∧ w'.cell? ⟨sb, 1, none⟩ = some (.int .i64 (k : Int)) ∧ w'.cell? ⟨sb, 2, none⟩ = some (.int .i64 (m : Int))) ∧ w'.cell? ⟨p, 0, none⟩ = some (.int .u8 (r.kind : Int)) ∧ w'.cell? ⟨p, 1, none⟩ = some (.int .i64 (r.place : Int)) ∧ w'.cell? ⟨p, 2, none⟩ = some (.int .u64 (r.gen : Int))) ∧ (shutLoad 193 ⟨q, 0, none⟩).run Tryz.prog w' = .ok (.agg (shC y)) w' ∧ w'.cell? ⟨q, 4, none⟩ = some (.int .u16 (y.size : Int))) (by kernel_rfl) (by first | exact u8 | exact u9) (fun hHeld => ?_)
              refine tkH 0 rfl ?_
              refine tkH 1 rfl ?_
              refine tkH 2 rfl ?_
              refine tkH 3 rfl ?_
              refine tkH 4 rfl ?_
              refine tkH 5 rfl ?_
              refine tkH 6 rfl ?_
              refine tkH 7 rfl ?_
              refine tkH 8 rfl ?_
              refine tkH 9 rfl ?_
              refine rdH 10 rfl fun K hK => ?_
              try simp (maxSteps := 2000000) only [zz1, zz2, zz3]
              go_simp
              go_at_call 159
              refine (rshis_any (r := r) (i := i) HYO.out).mono ?_
              rintro e w9 ⟨rfl, hb9⟩
              rw [HIS.out]
              have hb9' : Below W8.heap.size W8 w9 := (Below.refl W8.heap.size W8).drew.trans (show Below W8.heap.size W8.drew w9 from hb9)
              have u9 := HC8.out _ hb9'
              have HB9 := Lib.hid hb9'
              clear hb9' hb9
              try (go_wp2_with fail)
              refine hK.out _ _ (by first | exact u8 | exact u9) (fun hHeld => ?_)
              clear hK K
              try simp (maxSteps := 2000000) only [zz1, zz2, zz3, Act.put, zz4, zz5, zz6]
              refine tkH 11 rfl ?_
              refine tkH 12 rfl ?_
              refine tkH 13 rfl ?_
              refine tkH 14 rfl ?_
              refine tkH 15 rfl ?_
              refine tkH 16 rfl ?_
              refine tkH 17 rfl ?_
              refine tkH 18 rfl ?_
              refine tkH 19 rfl ?_
              refine tkH 20 rfl ?_
              refine tkH 21 rfl ?_
              refine tkH 22 rfl ?_
              refine tkH 23 rfl ?_
              refine wpAnyH_done (by kernel_rfl) ?_ _
              have c4 := (HC8.out _ HB9.out).2.2
              have HW69 := Lib.hid (HW67.out.trans (HB9.out.mono HW67.out.size))
              have HO9 := Lib.hid ((HO.out.below HWR.out).below HW69.out)
              have hbd : y.body = ((secN st r.place).drop 16).take 44 := by rw [HYD.out]; rfl
              obtain ⟨A7, hA7⟩ : ∃ A, (if c6 = 16 then A6 else A6.map (fun x : Addr => x.add (16 * 1))) = A := ⟨_, rfl⟩
              have hc64 := HC6.out
              have hsl : ∀ w, (Instr.slice 68 (.slice A6 64 c6) (some (.int .i64 16)) (some (.int .i64 60)) none).run Tryz.prog w = .ok (.slice A7 44 (c6 - 16)) w := fun w => by
                have h := piece_mid2 sl_by (A := A6) (N := 64) (c := c6) (k := 16) (j := 60) (by omega) (by omega) w
                rw [hA7] at h
                exact h
              have hrw := piece_one2 (HR6.out.below ByR.stable HW69.out) hc64 (k := 16) (j := 60) (by omega) (by omega)
              rw [hA7] at hrw
              have hrw2 : RdL ByR 1 (fun _ => True) w9 A7 44 y.body := by rw [hbd]; exact hrw
              have HA := Lib.hid (hrw2.alloc ByR.stable (.cells #[] 5))
              have hgl := HO9.out.lt
              have e11 : ((y.size : Int) == (y.size : Int)) = true := by simp
              clear hA7 hbd hrw hrw2 hc64
              by_cases hz : (wholeF R i).1.length = 0
              case pos =>
                have hz6 : sizeZ (wholeF R i) = -1 := if_pos hz
                have hwy := wholeF_yes HRN.out (.inl hz)
                have HSY := Lib.hid (sizeZ_yes hwy)
                have HRT := Lib.hid (rowsU_take hlt (show (wholeF R (i + 1)).1 = _ by rw [hwy]))
                clear hz hwy
                go_wp2_with (at_builtin; refine wpList_appL ByR.stable ByR.one sl_by rfl (by exact rfl) (base := w9.heap.size) (S := fun _ => True) (n := 0) (xs := []) (by exact rfl) (OwnL.made #[] 0 (Nat.le_refl _) (by unfold maxLen; omega) rfl) (by exact rfl) HA.out (fun _ _ h => h) (by unfold maxLen; omega) (by omega) (by simp only [World.size_alloc]; omega) ?_; intro A1 c1 w1 hc1 own1 hg1 hat1; have hb1 : Below w9.heap.size w9 w1 := ((Below.refl _ _).alloc (Nat.le_refl _) _).grown hg1 (by simp only [World.size_alloc]; omega) (fun k hk => by simp only [Value.ownBlock, Option.some.injEq] at hk; omega); rw [Nat.zero_add, List.nil_append] at own1; rw [Nat.zero_add] at hc1; have ho10 := HO9.out.below hb1; obtain ⟨⟨u, hu⟩, f1⟩ := ho10.cellx hlt; obtain ⟨A1', c1', hAe, hcc, hr1⟩ := own1.rd (S' := fun j => g ≤ j ∧ j ≠ g) (fun j hj => ⟨by omega, by omega⟩) (fun cs x hx => hx); injection hAe with hA1 _ hA2; subst hA1 hA2; have ho11 := ho10.set (c := c1) hlt hcc hr1; rw [HRT.out] at ho11; have HOn := Lib.hid ho11; have HBn := Lib.hid (((HB8.out.trans (HB9.out.mono HB8.out.size)).trans (hb1.mono (HB8.out.trans (HB9.out.mono HB8.out.size)).size)).setCell (p := ⟨g, i, none⟩) (by rw [HGE.out]; exact Nat.le_refl _) (.slice A1 44 c1)); clear own1 hb1 hg1 hat1 ho10 ho11 hr1 hcc)
                exact ⟨⟨i + 1, hlt, by go_num, by first | (rw [HSY.out]; done) | (rw [HSY.out, HES.out]), HOn, HBn⟩, by simp [intOf]; omega⟩
                -- HSY.out
              case neg =>
                obtain ⟨s, hs⟩ : ∃ s, (wholeF R i).2 = s := ⟨_, rfl⟩
                have hz6 : sizeZ (wholeF R i) = (s : Int) := by rw [← hs]; exact if_neg hz
                have hz7 : (0 : Int) ≤ (s : Int) := Int.natCast_nonneg _
                have hz8 : ¬ (s : Int) < 0 := by omega
                by_cases he : y.size = s
                case pos =>
                  have hwy := wholeF_yes HRN.out (.inr (by rw [hs]; exact he))
                  have HSY := Lib.hid (sizeZ_yes hwy)
                  have HRT := Lib.hid (rowsU_take hlt (show (wholeF R (i + 1)).1 = _ by rw [hwy]))
                  have e12 : ((y.size : Int) == (s : Int)) = true := by rw [he]; simp
                  have HES := Lib.hid he
                  clear hz hwy hs he
                  go_wp2_with (at_builtin; refine wpList_appL ByR.stable ByR.one sl_by rfl (by exact rfl) (base := w9.heap.size) (S := fun _ => True) (n := 0) (xs := []) (by exact rfl) (OwnL.made #[] 0 (Nat.le_refl _) (by unfold maxLen; omega) rfl) (by exact rfl) HA.out (fun _ _ h => h) (by unfold maxLen; omega) (by omega) (by simp only [World.size_alloc]; omega) ?_; intro A1 c1 w1 hc1 own1 hg1 hat1; have hb1 : Below w9.heap.size w9 w1 := ((Below.refl _ _).alloc (Nat.le_refl _) _).grown hg1 (by simp only [World.size_alloc]; omega) (fun k hk => by simp only [Value.ownBlock, Option.some.injEq] at hk; omega); rw [Nat.zero_add, List.nil_append] at own1; rw [Nat.zero_add] at hc1; have ho10 := HO9.out.below hb1; obtain ⟨⟨u, hu⟩, f1⟩ := ho10.cellx hlt; obtain ⟨A1', c1', hAe, hcc, hr1⟩ := own1.rd (S' := fun j => g ≤ j ∧ j ≠ g) (fun j hj => ⟨by omega, by omega⟩) (fun cs x hx => hx); injection hAe with hA1 _ hA2; subst hA1 hA2; have ho11 := ho10.set (c := c1) hlt hcc hr1; rw [HRT.out] at ho11; have HOn := Lib.hid ho11; have HBn := Lib.hid (((HB8.out.trans (HB9.out.mono HB8.out.size)).trans (hb1.mono (HB8.out.trans (HB9.out.mono HB8.out.size)).size)).setCell (p := ⟨g, i, none⟩) (by rw [HGE.out]; exact Nat.le_refl _) (.slice A1 44 c1)); clear own1 hb1 hg1 hat1 ho10 ho11 hr1 hcc)
                  exact ⟨⟨i + 1, hlt, by go_num, by first | (rw [HSY.out]; done) | (rw [HSY.out, HES.out]), HOn, HBn⟩, by simp [intOf]; omega⟩
                  -- by rw [HSY.out, HES.out]
                case neg =>
                  have HWN := Lib.hid (wholeF_ne HRN.out hz (by rw [hs]; exact he))
                  have e12 : ((y.size : Int) == (s : Int)) = false := by simp; omega
                  have HZ6 := Lib.hid hz6
                  clear hz hs he hsl
                  have HBn := Lib.hid (HB8.out.trans (HB9.out |>.mono HB8.out.size))
                  have HOn := Lib.hid (show OutAt w9 g g N (rowsU (wholeF R (i + 1)).1 N (i + 1)) by
                    rw [← rowsU_skip hlt HWN.out]
                    exact HO9.out)
                  go_wp2_with fail
                  exact ⟨⟨i + 1, hlt, by go_num, by rw [HWN.out, HZ6.out], HOn, HBn⟩, by simp [intOf]; omega⟩
    · have i1 : ¬ (i : Int) < (N : Int) := by omega
      have i2 : decide ((i : Int) < (N : Int)) = false := decide_eq_false i1
      obtain rfl : i = N := by omega
      have hrd := HO.out.rd
      rw [show rowsU (wholeF R i).1 i i = rowsS (wholeF R i).1 i by unfold rowsU rowsS; rw [Nat.sub_self]; simp] at hrd
      have HRD2 := Lib.hid hrd
      clear hrd hlt
      go_wp2_with fail
      refine wp_region_held_drew (S := fun w' => (w'.cell? ⟨sb, 0, none⟩ = some (.pointer (some ⟨x, 0, none⟩)) ∧ w'.cell? ⟨sb, 1, none⟩ = some (.int .i64 (k : Int)) ∧ w'.cell? ⟨sb, 2, none⟩ = some (.int .i64 (m : Int))) ∧ w'.cell? ⟨p, 0, none⟩ = some (.int .u8 (r.kind : Int)) ∧ w'.cell? ⟨p, 1, none⟩ = some (.int .i64 (r.place : Int)) ∧ w'.cell? ⟨p, 2, none⟩ = some (.int .u64 (r.gen : Int))) (by kernel_rfl) (by exact s0) (fun hHeld => ?_)
      refine tkH 0 rfl ?_
      refine tkH 1 rfl ?_
      refine tkH 2 rfl ?_
      refine tkH 3 rfl ?_
      refine tkH 4 rfl ?_
      refine tkH 5 rfl ?_
      refine tkH 6 rfl ?_
      refine tkH 7 rfl ?_
      refine tkH 8 rfl ?_
      refine tkH 9 rfl ?_
      refine tkH 10 rfl ?_
      refine wpAnyH_done (by kernel_rfl) ?_ _
      go_wp2_with fail
      go_ret2
      exact ⟨g, rfl, (HRD2.out.below RowR.stable ((Below.refl wr.heap.size wr).drew)).weaken RowR.stable (fun j hj => Nat.le_trans HGW.out hj), HB0.out.trans (HB.out.drew.mono HB0.out.size)⟩
end
end
section
theorem bodyO_len {l : List (Nat × Shd)} (h : ∀ p ∈ l, p.2.ok) (i : Nat) : (bodyO (lookS l i)).length = if (lookS l i).isSome = true then 44 else 0 := by
  cases hl : lookS l i with
  | none => rfl
  | some x => exact (lookS_ok h hl).l
def hasL (l : List (Nat × Shd)) (i : Nat) : List Bool := (List.range i).map fun j => (lookS l j).isSome
theorem hasL_next (l : List (Nat × Shd)) (i : Nat) : hasL l (i + 1) = hasL l i ++ [(lookS l i).isSome] := by
  unfold hasL
  rw [List.range_succ, List.map_append]
  rfl
theorem whole_ok {sts : List DSt} {k N : Nat} {r : Ref} (h : RdOk sts r.place) : ∀ p ∈ (wholeF (stR sts k r) N).1, p.2.ok := by
  have gen : ∀ i, ∀ p ∈ (wholeF (stR sts k r) i).1, p.2.ok := by
    intro i
    induction i with
    | zero => intro p hp; simp [wholeF] at hp
    | succ i ih =>
      intro p hp
      unfold wholeF at hp
      split at hp
      · exact ih p hp
      · rename_i x hx
        split at hp
        · exact ih p hp
        · rcases List.mem_append.1 hp with h1 | h1
          · exact ih p h1
          · simp at h1
            subst h1
            exact (stR_ok h i x hx).1
  exact gen N
section
variable {V : Nat → Prop} {w : World} {x n k m N t tg sb : Nat} {sts : List DSt} {rl : List RSt} {r : Ref}
set_option maxRecDepth 100000 in
set_option maxHeartbeats 16000000 in
theorem rwhole_good (hS : BoxAt w sb #[.pointer (some ⟨x, 0, none⟩), .int .i64 (k : Int), .int .i64 (m : Int)]) (hA : RArrAt V w x n rl) (hT : TInv (k + m) n t sts rl) (ht : t < 900000) (hG : GdA tg sts) (hok : ∀ st ∈ sts, st.ok n) (hr : r.ok n) (hn : n ≤ 600) (k1 : 1 ≤ k) (km : k + m ≤ 255) :
    Calls Tryz.prog 68 #[.pointer (some ⟨sb, 0, none⟩), .agg (refC r)] w fun e w' => ∃ A c, e = .returned (.slice A (k + m) c) ∧ k + m ≤ c ∧ RdL BoolR 1 (fun j => w.heap.size ≤ j) w' A (k + m) (hasL (wholeF (stR sts k r) (k + m)).1 (k + m)) ∧ Below w.heap.size w w' := by
  have HRK := Lib.hid (hG.rd hok hr.p)
  have bR := BoxAt.new w #[.int .u8 (r.kind : Int), .int .i64 (r.place : Int), .int .u64 (r.gen : Int)] 38
  have hb0 : Below w.heap.size w (w.alloc (.cells #[.int .u8 (r.kind : Int), .int .i64 (r.place : Int), .int .u64 (r.gen : Int)] 38)) := (Below.refl _ _).alloc (Nat.le_refl _) _
  obtain ⟨WA, hWA⟩ : ∃ W, w.alloc (.cells #[.int .u8 (r.kind : Int), .int .i64 (r.place : Int), .int .u64 (r.gen : Int)] 38) = W := ⟨_, rfl⟩
  obtain ⟨p, hp⟩ : ∃ p, w.heap.size = p := ⟨_, rfl⟩
  rw [hWA] at bR hb0
  rw [hp] at bR
  have hrt : rrtB r.kind (r.place : Int) n = true := decide_eq_true ⟨hr.k1, hr.k4, by omega, by have := hr.p; omega⟩
  obtain ⟨v, Fs, ps, hB⟩ := hA
  have hri := rright_any (kd := r.kind) (gn := r.gen) (pl := (r.place : Int)) (hS.below hb0) (hB.below hb0) (by rw [hT.lr]; omega)
  rw [hrt] at hri
  have HRW := Lib.hid (fun (w' : World) (hb : Below w.heap.size w w') => rrows_any (hS.below hb) (RArrAt.below ⟨v, Fs, ps, hB⟩ hb) hT ht hG hok hr hn k1 km)
  have v0 := bR.cell 0
  have v1 := bR.cell 1
  have v2 := bR.cell 2
  have HBR := Lib.hid bR
  have HB0 := Lib.hid hb0
  have HRI := Lib.hid hri
  obtain ⟨N, hN⟩ : ∃ N, k + m = N := ⟨_, rfl⟩
  rw [hN] at HRW ⊢
  have hN2 : N ≤ 255 := by omega
  have hN3 : (N : Int) ≤ 255 := by omega
  obtain ⟨l, hl⟩ : ∃ l, (wholeF (stR sts k r) N).1 = l := ⟨_, rfl⟩
  have HOKL := Lib.hid (show ∀ p ∈ l, p.2.ok by rw [← hl]; exact whole_ok HRK.out)
  rw [hl] at HRW ⊢
  clear hS hB hT hG hok bR hb0 hN hl hri hrt
  unfold refC at HRW ⊢
  go_enter Tryz.func68, Tryz.ntmps68
  go_wp2_with fail
  clear hp
  refine HRI.out.mono ?_
  rintro e w1 ⟨rfl, hb1⟩
  have hx1 := HBR.out.below hb1
  have y0 := hx1.cell 0
  have y1 := hx1.cell 1
  have y2 := hx1.cell 2
  have HB1 := Lib.hid (HB0.out.trans (hb1.mono HB0.out.size))
  clear hx1 hb1 v0 v1 v2
  go_wp2_with fail
  refine (HRW.out _ HB1.out).mono ?_
  rintro e w2 ⟨g, rfl, hrd, hb2⟩
  have HB2 := Lib.hid (HB1.out.trans (hb2.mono HB1.out.size))
  have HRD := Lib.hid hrd
  clear hrd hb2 y0 y1 y2
  go_wp2_with fail
  go_loopw [7, 8] (fun vl vi wr => ∃ (i : Nat) (A : Option Addr) (c : Nat), i ≤ N ∧ vi = .int .i64 i ∧ vl = .slice A i c ∧ Hid (OwnL BoolR 4 1 w2.heap.size (fun _ => True) wr (.slice A i c) i (hasL l i)) ∧ Hid (Below w2.heap.size w2 wr)) (fun _ vi _ => N - (intOf vi).toNat)
  case atStart => exact ⟨0, none, 0, Nat.zero_le _, rfl, rfl, Lib.hid OwnL.nil_, Lib.hid (Below.refl _ _)⟩
  case round =>
    obtain ⟨i, A, c, hi, rfl, rfl, HO, HB⟩ := hrel
    have i0 : (0 : Int) ≤ (i : Int) := Int.natCast_nonneg _
    by_cases hlt : i < N
    · have i1 : (i : Int) < (N : Int) := by omega
      obtain ⟨A2, n2, c2, v2, _, r2⟩ := row_at (HRD.out.below RowR.stable HB.out) hlt
      rw [Nat.zero_add] at v2
      have hlen : n2 = if (lookS l i).isSome = true then 44 else 0 := by
        rw [← r2.1, ← bodyO_len HOKL.out i]
        unfold rowsS ra
        simp [hlt]
      have HN := Lib.hid (hasL_next l i)
      obtain ⟨y, hy⟩ : ∃ y, (lookS l i).isSome = y := ⟨_, rfl⟩
      rw [hy] at HN hlen
      have e1 : decide ((n2 : Int) > 0) = y := by rw [hlen]; cases y <;> rfl
      have e2 : decide (0 < (n2 : Int)) = y := e1
      have e3 : decide (0 < n2) = y := by rw [hlen]; cases y <;> rfl
      have hszr := HB.out.size
      clear hy hlen r2
      go_wp2_with (at_builtin; go_must (refine wpList_push1 BoolR.stable BoolR.one slBool (by rfl) (by rfl) (base := w2.heap.size) (S := fun _ => True) (cs := #[.bool y]) (y := y) (by rfl) (by rfl) HO.out (by rfl) rfl (by unfold maxLen; omega) (by omega) hszr ?_); intro A8 c8 ug hc8 own9 hlt8 hb8 hat8; rw [← HN.out] at own9; have HO9 := Lib.hid own9; have HB9 := Lib.hid (HB.out.trans hb8); clear own9 hb8 hlt8 hat8)
      exact ⟨⟨i + 1, A8, c8, by omega, by go_num, rfl, HO9, HB9⟩, by simp [intOf]; omega⟩
    · have i1 : ¬ (i : Int) < (N : Int) := by omega
      obtain rfl : i = N := by omega
      obtain ⟨A', c', e, hcc, hr⟩ := HO.out.rd (S' := fun j => w.heap.size ≤ j) (fun j hj => Nat.le_trans HB2.out.size hj) (fun cs x hx => hx)
      injection e with h1 _ h2
      subst h1 h2
      have HR9 := Lib.hid hr
      have HCC := Lib.hid hcc
      clear hr hcc hlt
      go_wp2_with fail
      go_ret
      exact ⟨A, c, rfl, HCC.out, HR9.out, HB2.out.trans (HB.out.mono HB2.out.size)⟩
set_option maxRecDepth 100000 in
set_option maxHeartbeats 4000000 in
theorem rwhole_no {kd gn : Nat} {pl : Int} (hS : BoxAt w sb #[.pointer (some ⟨x, 0, none⟩), .int .i64 (k : Int), .int .i64 (m : Int)]) (hA : RArrAt V w x n rl) (hk : 0 < rl.length) (hr : rrtB kd pl n = false) :
    Calls Tryz.prog 68 #[.pointer (some ⟨sb, 0, none⟩), .agg #[.int .u8 (kd : Int), .int .i64 pl, .int .u64 (gn : Int)]] w fun e w' => e = .returned (.slice none 0 0) ∧ Below w.heap.size w w' := by
  have hb0 : Below w.heap.size w (w.alloc (.cells #[.int .u8 (kd : Int), .int .i64 pl, .int .u64 (gn : Int)] 38)) := (Below.refl _ _).alloc (Nat.le_refl _) _
  obtain ⟨v, Fs, ps, hB⟩ := hA
  have hri := rright_any (kd := kd) (gn := gn) (pl := pl) (hS.below hb0) (hB.below hb0) hk
  rw [hr] at hri
  have HB0 := Lib.hid hb0
  have HRI := Lib.hid hri
  clear hS hB hb0 hri hr
  go_enter Tryz.func68, Tryz.ntmps68
  go_wp2_with fail
  refine HRI.out.mono ?_
  rintro e w1 ⟨rfl, hb1⟩
  have HB1 := Lib.hid (HB0.out.trans (hb1.mono HB0.out.size))
  clear hb1
  go_wp2_with fail
  go_ret
  exact ⟨rfl, HB1.out⟩
end
/-- The document's Whole, of this name, in any later world. -/
def RWh (w : World) (sb : Nat) (r : RfI) (g : Nat → Bool) (N : Nat) : Prop := ∀ W, Below w.heap.size w W → Calls Tryz.prog 68 #[.pointer (some ⟨sb, 0, none⟩), .agg r.C] W fun e w' => ∃ A L c ws, e = .returned (.slice A L c) ∧ L ≤ c ∧ RdL BoolR 1 (fun j => W.heap.size ≤ j) w' A L ws ∧ WhOk g N r.place ws ∧ Below W.heap.size W w'
theorem RWh.below {w w' : World} {sb : Nat} {r : RfI} {g : Nat → Bool} {N : Nat} (h : RWh w sb r g N) (hb : Below w.heap.size w w') : RWh w' sb r g N := fun W hW => h W (hb.trans (hW.mono hb.size))
theorem rwh_any {V : Nat → Prop} {w : World} {x n k m t tg sb : Nat} {sts : List DSt} {rl : List RSt} (hS : BoxAt w sb #[.pointer (some ⟨x, 0, none⟩), .int .i64 (k : Int), .int .i64 (m : Int)]) (hA : RArrAt V w x n rl) (hT : TInv (k + m) n t sts rl) (ht : t < 900000) (hG : GdA tg sts) (hok : ∀ st ∈ sts, st.ok n) (hn : n ≤ 600) (k1 : 1 ≤ k) (km : k + m ≤ 255) (kd gn : Nat) (pl : Int) :
    RWh w sb ⟨(kd : Int), pl, (gn : Int)⟩ (viewX sts n k (k + m) kd pl gn) (k + m) := by
  intro W hb
  by_cases hr : rrtB kd pl n = true
  · obtain ⟨p, rfl, hok1⟩ := goodP_ok (k := 0) (len := 0) hr
    have hok2 : (⟨kd, p, gn⟩ : Ref).ok n := ⟨hok1.k1, hok1.k4, hok1.p⟩
    refine (rwhole_good (r := ⟨kd, p, gn⟩) (hS.below hb) (hA.below hb) hT ht hG hok hok2 hn k1 km).mono ?_
    rintro e w1 ⟨A, c, rfl, hc, hrd, hb1⟩
    refine ⟨A, _, c, _, rfl, hc, hrd, .inr ⟨p, rfl, ?_⟩, hb1⟩
    unfold hasL
    refine List.map_congr_left fun i hi => ?_
    rw [view_home hr (by omega) (List.mem_range.1 hi)]
  · have hr' : rrtB kd pl n = false := by simpa using hr
    refine (rwhole_no (hS.below hb) (hA.below hb) (by rw [hT.lr]; omega) hr').mono ?_
    rintro e w1 ⟨rfl, hb1⟩
    exact ⟨none, 0, 0, [], rfl, Nat.le_refl _, RdL.nil, .inl ⟨rfl, fun d _ => view_bad hr' _ d⟩, hb1⟩
end
end Go.Proofs.YtihnlhfngmbglaaGreat
