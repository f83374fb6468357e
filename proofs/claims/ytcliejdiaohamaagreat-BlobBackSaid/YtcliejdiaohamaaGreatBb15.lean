/-
  Law 15's page's example.
-/
import Derived.Test.YtcliejdiaohamaaGreatBb14
set_option linter.unusedSimpArgs false
set_option linter.unusedVariables false
namespace Go.Proofs.YtcliejdiaohamaaGreat
open Go.RowKit Go.Cib
attribute [local go_sem] cell_set Later.cell Later.frozen Grw.cell Grw.frozen
def xK : List Nat := (List.replicate 100 0).set 99 7
theorem xK_len : xK.length = 100 := by unfold xK; simp
theorem ref_at1 {S : Nat → Prop} {w : World} {b o n : Nat} {xs : List (Int × Int)} (h : RdL RefR 3 S w (some ⟨b, o, none⟩) n xs) {i : Nat} (hi : i < n) :
    ∃ x, xs[i]? = some x ∧ w.cell? ⟨b, o + i * 3, none⟩ = some (.int .u8 3) ∧ w.cell? ⟨b, o + i * 3 + 1, none⟩ = some (.int .i64 x.1) ∧ w.cell? ⟨b, o + i * 3 + 2, none⟩ = some (.int .u64 x.2) := by
  obtain ⟨hl, cs, _, h2, h3⟩ := h.at hi
  unfold RefR at h2
  subst h2
  exact ⟨xs[i], List.getElem?_eq_getElem hl, h3 0 _ rfl, h3 1 _ rfl, h3 2 _ rfl⟩
set_option maxRecDepth 100000 in
set_option maxHeartbeats 16000000 in
theorem bkeeps_any {w : World} : Calls Tryz.prog 32 #[] w fun e w' => e = .returned (.bool true) ∧ Below w.heap.size w w' := by
  have hmd := bmade_any (w0 := w) (w := w) (k := 1) (m := 1) (f := 2) (c := 5) (Below.refl _ _) (by omega) (by omega) (by omega) (by omega) (by omega) (by omega)
  have e0 : baseC ((1 : Nat) : Int) ((1 : Nat) : Int) ((2 : Nat) : Int) ((5 : Nat) : Int) = #[.int .i64 1, .int .i64 1, .int .i64 2, .int .i64 5] := rfl
  rw [e0] at hmd
  clear e0
  go_enter Tryz.func32, Tryz.ntmps32
  go_wp2_with fail
  refine hmd.mono ?_
  clear hmd
  rintro e w1 ⟨a, cb, bf, p, o, l, go, gl, rfl, hM, hP, hb1⟩
  have hM1 : MidP (PoolB p o l go gl) (fun j => j < w.heap.size) w w1 a cb bf 1 1 7 (newS 7 2) := hM
  have hP1 : PoolT w1 p o l go gl 0 2 5 0 := PoolT.new hP
  have hmk := makeBy 100 (by omega) w1
  rw [show ((100 : Nat) : Int) = 100 from rfl] at hmk
  have hr1 := (RowIn.made w1 100 5).set (i := 99) (x := 7) (by simp) (by omega)
  have hbx : Below w1.heap.size w1 (w1.alloc (.cells (Array.replicate 100 (.int .u8 0)) 5)) := (Below.refl _ _).alloc (Nat.le_refl _) _
  have hM2 := hM1.below hbx
  have hP2 := hP1.below hbx
  have bx := BoxAt.new w1 (Array.replicate 100 (.int .u8 0)) 5
  obtain ⟨wx, hwx⟩ : ∃ wx, w1.alloc (.cells (Array.replicate 100 (.int .u8 0)) 5) = wx := ⟨_, rfl⟩
  obtain ⟨qx, hqx⟩ : ∃ qx, w1.heap.size = qx := ⟨_, rfl⟩
  have hsx : wx.heap.size = qx + 1 := by rw [← hwx, ← hqx, World.size_alloc]
  have hs1 := hb1.size
  rw [hwx] at hr1 hM2 hP2 bx
  rw [hqx] at hr1 bx hM2
  have kx := bx.cell 99
  rw [show (Array.replicate 100 (Value.int .u8 0))[99]? = some (Value.int .u8 0) by simp] at kx
  have zx := bx.frozen 99
  have hKx : Keep (fun j => j = qx) wx (wx.setCell ⟨qx, 99, none⟩ (.int .u8 7)) := (Keep.refl (fun j => j = qx) wx).setCell (p := ⟨qx, 99, none⟩) (fun _ => rfl) _
  have hPB1 : ∀ j, PoolB p o l go gl j → j < w1.heap.size := fun j hj => hM1.ltP hj
  have hM3 := hM2.own hKx (fun j hj => by subst hj; exact ⟨.inr (by omega), by omega⟩)
  have hP3 := hP2.keep hKx (fun j hj e => by have := hPB1 j hj; omega)
  obtain ⟨w2, hw2⟩ : ∃ w2, wx.setCell ⟨qx, 99, none⟩ (.int .u8 7) = w2 := ⟨_, rfl⟩
  have hr2 : RdL ByR 1 (fun j => j = qx) w2 (some ⟨qx, 0, none⟩) 100 xK := by
    rw [← hw2]
    have h := hr1.rd (S := fun j => j = qx) rfl
    rw [show ((List.replicate 100 0).set 99 7).length = 100 by simp] at h
    exact h
  rw [hw2] at hM3 hP3
  have hc3 : cntN 1 100 = 3 := by decide
  have hpu := bput_at hM3 hP3 (fun j hj => hj) hr2 (fun j hj => .inr (by omega)) (Nat.le_refl _) (by omega) (by rw [hc3]; omega) (by rw [hc3]; omega) (by omega) (fun st hst => by
    obtain ⟨d, hd, rfl⟩ := List.mem_iff_getElem.1 hst
    rw [(newS_at (List.getElem?_eq_getElem hd)).1]; decide)
  rw [hc3, show ((0 : Nat) : Int) = 0 from rfl, show ((100 : Nat) : Int) = 100 from rfl] at hpu
  have HR2 := Lib.hid hr2
  have HX2 := Lib.hid (show ∀ j, j = qx → j < w.heap.size ∨ qx ≤ j ∧ j < wx.heap.size from fun j hj => .inr (by omega))
  have HPU := Lib.hid hpu
  have HB1 := Lib.hid hb1
  have HM1 := Lib.hid hM1
  clear hM hP hM1 hP1 hbx hM2 hP2 bx hM3 hP3 hr1 hb1 hKx hc3 hpu hr2
  go_wp2_with fail
  refine HPU.out.mono ?_
  clear HPU hwx hqx hw2 kx zx hsx hs1 hPB1 hmk
  rintro e w3 ⟨A3, c3, S3, rfl, hc3, hr3, hS3, hP3, hM3, hK3⟩
  have hA := HdB.new (k := 1) (N := 1 + 1) (a := 2 + 0) (G := 0) (M := 3) (Alv.new 7 2) (by_byt HR2.out) (by omega)
  have HA := Lib.hid hA
  have hXb := BoxAt.new w3 (blobC A3 3 c3 0 100) 61
  have hb4 : Below w3.heap.size w3 (w3.alloc (.cells (blobC A3 3 c3 0 100) 61)) := (Below.refl _ _).alloc (Nat.le_refl _) _
  have hM4 := hM3.below hb4
  obtain ⟨w4, hw4⟩ : ∃ w4, w3.alloc (.cells (blobC A3 3 c3 0 100) 61) = w4 := ⟨_, rfl⟩
  obtain ⟨q, hq⟩ : ∃ q, w3.heap.size = q := ⟨_, rfl⟩
  rw [hw4] at hXb hb4 hM4
  rw [hq] at hXb
  have hr34 := hr3.below IntR.stable hb4
  have hr24 := (hK3.rd ByR.stable HR2.out HX2.out).below ByR.stable hb4
  have HP4 := Lib.hid (hP3.below hb4)
  have hgt := bget_any (c := c3) (G := 0) (size := 100) (xs := xK) (g := fun _ => true) hM4.x.mid hr34 (by decide) (by omega) (fun x hx => by obtain ⟨i, hi, rfl⟩ := plL_mem hx; omega) (Lib.hid (by decide)) (by_byt HR2.out) xK_len hA.refs (by decide)
  rw [show ((0 : Nat) : Int) = 0 from rfl, show ((100 : Nat) : Int) = 100 from rfl] at hgt
  have HGT := Lib.hid hgt
  have HR3 := Lib.hid hr34
  have HR2' := Lib.hid hr24
  have HM4 := Lib.hid hM4
  have HC3 := Lib.hid hc3
  have BB4 := Lib.hid hXb
  have c4 : w4.cell? ⟨q, 0, none⟩ = some (.slice A3 3 c3) ∧ w4.cell? ⟨q, 1, none⟩ = some (.int .u64 0) ∧ w4.cell? ⟨q, 2, none⟩ = some (.int .i64 100) := ⟨hXb.cell 0, hXb.cell 1, hXb.cell 2⟩
  clear hc3 hr3 hS3 hP3 hM3 hK3 hA hXb hb4 hM4 hr34 hr24 hgt HR2 HX2
  unfold blobC at hw4 HGT ⊢
  go_wp2_with fail
  refine HGT.out.mono ?_
  clear HGT hw4 hq
  rintro e w5 ⟨A5, c5, rfl, hc5, hr5, hb5⟩
  have BB5 := Lib.hid (BB4.out.below hb5)
  have HR35 := Lib.hid (HR3.out.below IntR.stable hb5)
  have HR25 := Lib.hid (HR2'.out.below ByR.stable hb5)
  have HR5 := Lib.hid hr5
  have HP5 := Lib.hid (HP4.out.below hb5)
  have HM5 := Lib.hid (HM4.out.below' hb5)
  have hrf := refs_any (c := c3) (gen := 0) (size := 100) HR35.out (by omega) HC3.out
  have c5 : w5.cell? ⟨q, 0, none⟩ = some (.slice A3 3 c3) ∧ w5.cell? ⟨q, 1, none⟩ = some (.int .u64 0) ∧ w5.cell? ⟨q, 2, none⟩ = some (.int .i64 100) := ⟨BB5.out.cell 0, BB5.out.cell 1, BB5.out.cell 2⟩
  clear hc5 hr5 hb5 HM4 HP4 HR3 HR2' BB4 c4
  unfold blobC at hrf
  go_wp2_with fail
  refine hrf.mono ?_
  clear hrf c5
  rintro e w6 ⟨A6, c6, rfl, hc6, hr6, hb6⟩
  have BB6 := Lib.hid (BB5.out.below hb6)
  have HR36 := Lib.hid (HR35.out.below IntR.stable hb6)
  have HR26 := Lib.hid (HR25.out.below ByR.stable hb6)
  have HR56 := Lib.hid (HR5.out.below ByR.stable hb6)
  have HP6 := Lib.hid (HP5.out.below hb6)
  have HB6 := Lib.hid (HM5.out.below' hb6).bel
  obtain ⟨pb, po, rfl, _, hpb⟩ := HR36.out.addr (k := 2) (by omega)
  obtain ⟨x2, hx2, v2⟩ := int_at1 HR36.out (k := 2) (by omega)
  obtain ⟨rb, ro, rfl, _, hrb⟩ := hr6.addr (k := 2) (by omega)
  obtain ⟨y2, hy2, u0, u1, u2⟩ := ref_at1 hr6 (i := 2) (by omega)
  obtain rfl : x2 = 4 := by
    have h : (plL (2 + 0) 3)[2]? = some 4 := by decide
    rw [h] at hx2; exact (Option.some.inj hx2).symm
  obtain rfl : y2 = (4, 2) := by
    have h : (refL 0 (plL (2 + 0) 3))[2]? = some (4, 2) := by decide
    rw [h] at hy2; exact (Option.some.inj hy2).symm
  obtain ⟨T, hT⟩ : ∃ T, textB xK = T := ⟨_, rfl⟩
  have HSF : Hid (∀ w', Below w6.heap.size w6 w' → (w'.cell? ⟨q, 0, none⟩ = some (.slice (some ⟨pb, po, none⟩) 3 c3) ∧ w'.cell? ⟨q, 1, none⟩ = some (.int .u64 0) ∧ w'.cell? ⟨q, 2, none⟩ = some (.int .i64 100) ∧ w'.cell? ⟨pb, po + 2, none⟩ = some (.int .i64 4) ∧ w'.cell? ⟨rb, ro + 6, none⟩ = some (.int .u8 3) ∧ w'.cell? ⟨rb, ro + 7, none⟩ = some (.int .i64 4) ∧ w'.cell? ⟨rb, ro + 8, none⟩ = some (.int .u64 2) ∧ (convert 80 9 (.slice A5 100 c5)).run Tryz.prog w' = .ok (.string T) w' ∧ (convert 80 9 (.slice (some ⟨qx, 0, none⟩) 100 100)).run Tryz.prog w' = .ok (.string T) w')) := Lib.hid fun w' hb => by
    have bB := BB6.out.below hb
    rw [← hT]
    exact ⟨bB.cell 0, bB.cell 1, bB.cell 2, (hb.cell (p := ⟨pb, po + 2, none⟩) hpb).trans v2, (hb.cell (p := ⟨rb, ro + 6, none⟩) hrb).trans u0, (hb.cell (p := ⟨rb, ro + 7, none⟩) hrb).trans u1, (hb.cell (p := ⟨rb, ro + 8, none⟩) hrb).trans u2, text_run (HR56.out.below ByR.stable hb), text_run (HR26.out.below ByR.stable hb)⟩
  have hfr := fun w' (hb : Below w6.heap.size w6 w') => (HP6.out.below hb).free
  have HFR := Lib.hid hfr
  clear hr6 hb6 HM5 HR35 HR25 HR5 HP5 BB5 hx2 v2 hy2 u0 u1 u2 hT hfr hpb hrb HR36 HR26 HR56 BB6 HA
  go_wp2_with fail
  have fw : IntKind.u64.wrap 2 = 2 := by rw [IntKind.wrap_u64]; rfl
  have hd6 : Below w6.heap.size w6 w6.drew := (Below.refl _ _).drew
  refine wp_region_held_drew (S := fun w' => w'.cell? ⟨q, 0, none⟩ = some (.slice (some ⟨pb, po, none⟩) 3 c3) ∧ w'.cell? ⟨q, 1, none⟩ = some (.int .u64 0) ∧ w'.cell? ⟨q, 2, none⟩ = some (.int .i64 100) ∧ w'.cell? ⟨pb, po + 2, none⟩ = some (.int .i64 4) ∧ w'.cell? ⟨rb, ro + 6, none⟩ = some (.int .u8 3) ∧ w'.cell? ⟨rb, ro + 7, none⟩ = some (.int .i64 4) ∧ w'.cell? ⟨rb, ro + 8, none⟩ = some (.int .u64 2) ∧ (convert 80 9 (.slice A5 100 c5)).run Tryz.prog w' = .ok (.string T) w' ∧ (convert 80 9 (.slice (some ⟨qx, 0, none⟩) 100 100)).run Tryz.prog w' = .ok (.string T) w') (by kernel_rfl) (by first | exact HSF.out _ hd6 | exact HSF.out _ hb7 | exact HSF.out _ (hb7.alloc hb7.size _) | exact HSF.out _ hb9) (fun hHeld => ?_)
  refine wpAnyH_take (i := 0) (v := ?_) rfl (by kernel_rfl) (by kernel_rfl) (by kernel_rfl) (fun _ _ _ h => h) (Or.inl ⟨by first | kernel_rfl | rfl, ?_⟩) (by assumption) ?_
  rotate_left
  · (intro wq hSw; (try dsimp only at hSw); (try simp (maxSteps := 2000000) only [zz1, zz2, zz3]); go_simp); try with_reducible rfl
  try simp (maxSteps := 2000000) only [zz1, zz2, zz3, Act.put, zz4, zz5, zz6]
  refine wpAnyH_take (i := 1) (v := ?_) rfl (by kernel_rfl) (by kernel_rfl) (by kernel_rfl) (fun _ _ _ h => h) (Or.inl ⟨by first | kernel_rfl | rfl, ?_⟩) (by assumption) ?_
  rotate_left
  · (intro wq hSw; (try dsimp only at hSw); (try simp (maxSteps := 2000000) only [zz1, zz2, zz3]); go_simp); try with_reducible rfl
  try simp (maxSteps := 2000000) only [zz1, zz2, zz3, Act.put, zz4, zz5, zz6]
  refine wpAnyH_take (i := 2) (v := ?_) rfl (by kernel_rfl) (by kernel_rfl) (by kernel_rfl) (fun _ _ _ h => h) (Or.inl ⟨by first | kernel_rfl | rfl, ?_⟩) (by assumption) ?_
  rotate_left
  · (intro wq hSw; (try dsimp only at hSw); (try simp (maxSteps := 2000000) only [zz1, zz2, zz3]); go_simp); try with_reducible rfl
  try simp (maxSteps := 2000000) only [zz1, zz2, zz3, Act.put, zz4, zz5, zz6]
  refine wpAnyH_take (i := 3) (v := ?_) rfl (by kernel_rfl) (by kernel_rfl) (by kernel_rfl) (fun _ _ _ h => h) (Or.inl ⟨by first | kernel_rfl | rfl, ?_⟩) (by assumption) ?_
  rotate_left
  · (intro wq hSw; (try dsimp only at hSw); (try simp (maxSteps := 2000000) only [zz1, zz2, zz3]); go_simp); try with_reducible rfl
  try simp (maxSteps := 2000000) only [zz1, zz2, zz3, Act.put, zz4, zz5, zz6]
  refine wpAnyH_take (i := 4) (v := ?_) rfl (by kernel_rfl) (by kernel_rfl) (by kernel_rfl) (fun _ _ _ h => h) (Or.inl ⟨by first | kernel_rfl | rfl, ?_⟩) (by assumption) ?_
  rotate_left
  · (intro wq hSw; (try dsimp only at hSw); (try simp (maxSteps := 2000000) only [zz1, zz2, zz3]); go_simp); try with_reducible rfl
  try simp (maxSteps := 2000000) only [zz1, zz2, zz3, Act.put, zz4, zz5, zz6]
  refine wpAnyH_take (i := 5) (v := ?_) rfl (by kernel_rfl) (by kernel_rfl) (by kernel_rfl) (fun _ _ _ h => h) (Or.inl ⟨by first | kernel_rfl | rfl, ?_⟩) (by assumption) ?_
  rotate_left
  · (intro wq hSw; (try dsimp only at hSw); (try simp (maxSteps := 2000000) only [zz1, zz2, zz3]); go_simp); try with_reducible rfl
  try simp (maxSteps := 2000000) only [zz1, zz2, zz3, Act.put, zz4, zz5, zz6]
  refine wpAnyH_take (i := 6) (v := ?_) rfl (by kernel_rfl) (by kernel_rfl) (by kernel_rfl) (fun _ _ _ h => h) (Or.inl ⟨by first | kernel_rfl | rfl, ?_⟩) (by assumption) ?_
  rotate_left
  · (intro wq hSw; (try dsimp only at hSw); (try simp (maxSteps := 2000000) only [zz1, zz2, zz3]); go_simp); try with_reducible rfl
  try simp (maxSteps := 2000000) only [zz1, zz2, zz3, Act.put, zz4, zz5, zz6]
  refine wpAnyH_take (i := 7) (v := ?_) rfl (by kernel_rfl) (by kernel_rfl) (by kernel_rfl) (fun _ _ _ h => h) (Or.inl ⟨by first | kernel_rfl | rfl, ?_⟩) (by assumption) ?_
  rotate_left
  · (intro wq hSw; (try dsimp only at hSw); (try simp (maxSteps := 2000000) only [zz1, zz2, zz3]); go_simp); try with_reducible rfl
  try simp (maxSteps := 2000000) only [zz1, zz2, zz3, Act.put, zz4, zz5, zz6]
  refine wpAnyH_take (i := 8) (v := ?_) rfl (by kernel_rfl) (by kernel_rfl) (by kernel_rfl) (fun _ _ _ h => h) (Or.inl ⟨by first | kernel_rfl | rfl, ?_⟩) (by assumption) ?_
  rotate_left
  · (intro wq hSw; (try dsimp only at hSw); (try simp (maxSteps := 2000000) only [zz1, zz2, zz3]); go_simp); try with_reducible rfl
  try simp (maxSteps := 2000000) only [zz1, zz2, zz3, Act.put, zz4, zz5, zz6]
  refine wpAnyH_take (i := 9) (v := ?_) rfl (by kernel_rfl) (by kernel_rfl) (by kernel_rfl) (fun _ _ _ h => h) (Or.inl ⟨by first | kernel_rfl | rfl, ?_⟩) (by assumption) ?_
  rotate_left
  · (intro wq hSw; (try dsimp only at hSw); (try simp (maxSteps := 2000000) only [zz1, zz2, zz3]); go_simp); try with_reducible rfl
  try simp (maxSteps := 2000000) only [zz1, zz2, zz3, Act.put, zz4, zz5, zz6]
  refine wpAnyH_take (i := 10) (v := ?_) rfl (by kernel_rfl) (by kernel_rfl) (by kernel_rfl) (fun _ _ _ h => h) (Or.inl ⟨by first | kernel_rfl | rfl, ?_⟩) (by assumption) ?_
  rotate_left
  · (intro wq hSw; (try dsimp only at hSw); (try simp (maxSteps := 2000000) only [zz1, zz2, zz3]); go_simp); try with_reducible rfl
  try simp (maxSteps := 2000000) only [zz1, zz2, zz3, Act.put, zz4, zz5, zz6]
  refine wpAnyH_take (i := 11) (v := ?_) rfl (by kernel_rfl) (by kernel_rfl) (by kernel_rfl) (fun _ _ _ h => h) (Or.inl ⟨by first | kernel_rfl | rfl, ?_⟩) (by assumption) ?_
  rotate_left
  · (intro wq hSw; (try dsimp only at hSw); (try simp (maxSteps := 2000000) only [zz1, zz2, zz3]); go_simp); try with_reducible rfl
  try simp (maxSteps := 2000000) only [zz1, zz2, zz3, Act.put, zz4, zz5, zz6]
  refine wpAnyH_take (i := 12) (v := ?_) rfl (by kernel_rfl) (by kernel_rfl) (by kernel_rfl) (fun _ _ _ h => h) (Or.inl ⟨by first | kernel_rfl | rfl, ?_⟩) (by assumption) ?_
  rotate_left
  · (intro wq hSw; (try dsimp only at hSw); (try simp (maxSteps := 2000000) only [zz1, zz2, zz3]); go_simp); try with_reducible rfl
  try simp (maxSteps := 2000000) only [zz1, zz2, zz3, Act.put, zz4, zz5, zz6]
  refine wpAnyH_take (i := 13) (v := ?_) rfl (by kernel_rfl) (by kernel_rfl) (by kernel_rfl) (fun _ _ _ h => h) (Or.inl ⟨by first | kernel_rfl | rfl, ?_⟩) (by assumption) ?_
  rotate_left
  · (intro wq hSw; (try dsimp only at hSw); (try simp (maxSteps := 2000000) only [zz1, zz2, zz3]); go_simp); try with_reducible rfl
  try simp (maxSteps := 2000000) only [zz1, zz2, zz3, Act.put, zz4, zz5, zz6]
  refine wpAnyH_take (i := 14) (v := ?_) rfl (by kernel_rfl) (by kernel_rfl) (by kernel_rfl) (fun _ _ _ h => h) (Or.inl ⟨by first | kernel_rfl | rfl, ?_⟩) (by assumption) ?_
  rotate_left
  · (intro wq hSw; (try dsimp only at hSw); (try simp (maxSteps := 2000000) only [zz1, zz2, zz3]); go_simp); try with_reducible rfl
  try simp (maxSteps := 2000000) only [zz1, zz2, zz3, Act.put, zz4, zz5, zz6]
  refine wpAnyH_take (i := 15) (v := ?_) rfl (by kernel_rfl) (by kernel_rfl) (by kernel_rfl) (fun _ _ _ h => h) (Or.inl ⟨by first | kernel_rfl | rfl, ?_⟩) (by assumption) ?_
  rotate_left
  · (intro wq hSw; (try dsimp only at hSw); (try simp (maxSteps := 2000000) only [zz1, zz2, zz3]); go_simp); try with_reducible rfl
  try simp (maxSteps := 2000000) only [zz1, zz2, zz3, Act.put, zz4, zz5, zz6]
  refine wpAnyH_take (i := 16) (v := ?_) rfl (by kernel_rfl) (by kernel_rfl) (by kernel_rfl) (fun _ _ _ h => h) (Or.inl ⟨by first | kernel_rfl | rfl, ?_⟩) (by assumption) ?_
  rotate_left
  · (intro wq hSw; (try dsimp only at hSw); (try simp (maxSteps := 2000000) only [zz1, zz2, zz3]); go_simp); try with_reducible rfl
  try simp (maxSteps := 2000000) only [zz1, zz2, zz3, Act.put, zz4, zz5, zz6]
  refine wpAnyH_take (i := 17) (v := ?_) rfl (by kernel_rfl) (by kernel_rfl) (by kernel_rfl) (fun _ _ _ h => h) (Or.inl ⟨by first | kernel_rfl | rfl, ?_⟩) (by assumption) ?_
  rotate_left
  · (intro wq hSw; (try dsimp only at hSw); (try simp (maxSteps := 2000000) only [zz1, zz2, zz3]); go_simp); try with_reducible rfl
  try simp (maxSteps := 2000000) only [zz1, zz2, zz3, Act.put, zz4, zz5, zz6]
  refine wpAnyH_take (i := 18) (v := ?_) rfl (by kernel_rfl) (by kernel_rfl) (by kernel_rfl) (fun _ _ _ h => h) (Or.inl ⟨by first | kernel_rfl | rfl, ?_⟩) (by assumption) ?_
  rotate_left
  · (intro wq hSw; (try dsimp only at hSw); (try simp (maxSteps := 2000000) only [zz1, zz2, zz3]); go_simp); try with_reducible rfl
  try simp (maxSteps := 2000000) only [zz1, zz2, zz3, Act.put, zz4, zz5, zz6]
  refine wpAnyH_take (i := 19) (v := ?_) rfl (by kernel_rfl) (by kernel_rfl) (by kernel_rfl) (fun _ _ _ h => h) (Or.inl ⟨by first | kernel_rfl | rfl, ?_⟩) (by assumption) ?_
  rotate_left
  · (intro wq hSw; (try dsimp only at hSw); (try simp (maxSteps := 2000000) only [zz1, zz2, zz3]); go_simp); try with_reducible rfl
  try simp (maxSteps := 2000000) only [zz1, zz2, zz3, Act.put, zz4, zz5, zz6]
  refine wpAnyH_take (i := 20) (v := ?_) rfl (by kernel_rfl) (by kernel_rfl) (by kernel_rfl) (fun _ _ _ h => h) (Or.inl ⟨by first | kernel_rfl | rfl, ?_⟩) (by assumption) ?_
  rotate_left
  · (intro wq hSw; (try dsimp only at hSw); (try simp (maxSteps := 2000000) only [zz1, zz2, zz3]); go_simp); try with_reducible rfl
  try simp (maxSteps := 2000000) only [zz1, zz2, zz3, Act.put, zz4, zz5, zz6]
  refine wpAnyH_take (i := 21) (v := ?_) rfl (by kernel_rfl) (by kernel_rfl) (by kernel_rfl) (fun _ _ _ h => h) (Or.inl ⟨by first | kernel_rfl | rfl, ?_⟩) (by assumption) ?_
  rotate_left
  · (intro wq hSw; (try dsimp only at hSw); (try simp (maxSteps := 2000000) only [zz1, zz2, zz3]); go_simp); try with_reducible rfl
  try simp (maxSteps := 2000000) only [zz1, zz2, zz3, Act.put, zz4, zz5, zz6]
  refine wpAnyH_ready (rs := [22]) (by kernel_rfl) (by simp) ?_
  refine AllReadyH.cons rfl (fun K hK => ?_) AllReadyH.nil
  try simp (maxSteps := 2000000) only [zz1, zz2, zz3]
  go_simp
  go_at_call 42
  refine (HFR.out _ hd6).mono ?_
  rintro e w7 ⟨rfl, hb⟩
  have hb7 : Below w6.heap.size w6 w7 := hd6.trans (hb.mono hd6.size)
  clear hb
  try (go_wp2_with fail)
  refine hK.out _ _ (by first | exact HSF.out _ hd6 | exact HSF.out _ hb7 | exact HSF.out _ (hb7.alloc hb7.size _) | exact HSF.out _ hb9) (fun hHeld => ?_)
  clear hK K
  try simp (maxSteps := 2000000) only [zz1, zz2, zz3, Act.put, zz4, zz5, zz6]
  refine wpAnyH_take (i := 23) (v := ?_) rfl (by kernel_rfl) (by kernel_rfl) (by kernel_rfl) (fun _ _ _ h => h) (Or.inl ⟨by first | kernel_rfl | rfl, ?_⟩) (by assumption) ?_
  rotate_left
  · (intro wq hSw; (try dsimp only at hSw); (try simp (maxSteps := 2000000) only [zz1, zz2, zz3]); go_simp); try with_reducible rfl
  try simp (maxSteps := 2000000) only [zz1, zz2, zz3, Act.put, zz4, zz5, zz6]
  refine wpAnyH_take (i := 24) (v := ?_) rfl (by kernel_rfl) (by kernel_rfl) (by kernel_rfl) (fun _ _ _ h => h) (Or.inl ⟨by first | kernel_rfl | rfl, ?_⟩) (by assumption) ?_
  rotate_left
  · (intro wq hSw; (try dsimp only at hSw); (try simp (maxSteps := 2000000) only [zz1, zz2, zz3]); go_simp); try with_reducible rfl
  try simp (maxSteps := 2000000) only [zz1, zz2, zz3, Act.put, zz4, zz5, zz6]
  refine wpAnyH_take (i := 25) (v := ?_) rfl (by kernel_rfl) (by kernel_rfl) (by kernel_rfl) (fun _ _ _ h => h) (Or.inl ⟨by first | kernel_rfl | rfl, ?_⟩) (by assumption) ?_
  rotate_left
  · (intro wq hSw; (try dsimp only at hSw); (try simp (maxSteps := 2000000) only [zz1, zz2, zz3]); go_simp); try with_reducible rfl
  try simp (maxSteps := 2000000) only [zz1, zz2, zz3, Act.put, zz4, zz5, zz6]
  refine wpAnyH_take (i := 26) (v := ?_) rfl (by kernel_rfl) (by kernel_rfl) (by kernel_rfl) (fun _ _ _ h => h) (Or.inl ⟨by first | kernel_rfl | rfl, ?_⟩) (by assumption) ?_
  rotate_left
  · (intro wq hSw; (try dsimp only at hSw); (try simp (maxSteps := 2000000) only [zz1, zz2, zz3]); go_simp); try with_reducible rfl
  try simp (maxSteps := 2000000) only [zz1, zz2, zz3, Act.put, zz4, zz5, zz6]
  refine wpAnyH_take (i := 27) (v := ?_) rfl (by kernel_rfl) (by kernel_rfl) (by kernel_rfl) (fun _ _ _ h => h) (Or.inl ⟨by first | kernel_rfl | rfl, ?_⟩) (by assumption) ?_
  rotate_left
  · (intro wq hSw; (try dsimp only at hSw); (try simp (maxSteps := 2000000) only [zz1, zz2, zz3]); go_simp); try with_reducible rfl
  try simp (maxSteps := 2000000) only [zz1, zz2, zz3, Act.put, zz4, zz5, zz6]
  refine wpAnyH_take (i := 28) (v := ?_) rfl (by kernel_rfl) (by kernel_rfl) (by kernel_rfl) (fun _ _ _ h => h) (Or.inl ⟨by first | kernel_rfl | rfl, ?_⟩) (by assumption) ?_
  rotate_left
  · (intro wq hSw; (try dsimp only at hSw); (try simp (maxSteps := 2000000) only [zz1, zz2, zz3]); go_simp); try with_reducible rfl
  try simp (maxSteps := 2000000) only [zz1, zz2, zz3, Act.put, zz4, zz5, zz6]
  refine wpAnyH_take (i := 29) (v := ?_) rfl (by kernel_rfl) (by kernel_rfl) (by kernel_rfl) (fun _ _ _ h => h) (Or.inl ⟨by first | kernel_rfl | rfl, ?_⟩) (by assumption) ?_
  rotate_left
  · (intro wq hSw; (try dsimp only at hSw); (try simp (maxSteps := 2000000) only [zz1, zz2, zz3]); go_simp); try with_reducible rfl
  try simp (maxSteps := 2000000) only [zz1, zz2, zz3, Act.put, zz4, zz5, zz6]
  refine wpAnyH_take (i := 30) (v := ?_) rfl (by kernel_rfl) (by kernel_rfl) (by kernel_rfl) (fun _ _ _ h => h) (Or.inl ⟨by first | kernel_rfl | rfl, ?_⟩) (by assumption) ?_
  rotate_left
  · (intro wq hSw; (try dsimp only at hSw); (try simp (maxSteps := 2000000) only [zz1, zz2, zz3]); go_simp); try with_reducible rfl
  try simp (maxSteps := 2000000) only [zz1, zz2, zz3, Act.put, zz4, zz5, zz6]
  refine wpAnyH_take (i := 31) (v := ?_) rfl (by kernel_rfl) (by kernel_rfl) (by kernel_rfl) (fun _ _ _ h => h) (Or.inl ⟨by first | kernel_rfl | rfl, ?_⟩) (by assumption) ?_
  rotate_left
  · (intro wq hSw; (try dsimp only at hSw); (try simp (maxSteps := 2000000) only [zz1, zz2, zz3]); go_simp); try with_reducible rfl
  try simp (maxSteps := 2000000) only [zz1, zz2, zz3, Act.put, zz4, zz5, zz6]
  refine wpAnyH_take (i := 32) (v := ?_) rfl (by kernel_rfl) (by kernel_rfl) (by kernel_rfl) (fun _ _ _ h => h) (Or.inl ⟨by first | kernel_rfl | rfl, ?_⟩) (by assumption) ?_
  rotate_left
  · (intro wq hSw; (try dsimp only at hSw); (try simp (maxSteps := 2000000) only [zz1, zz2, zz3]); go_simp); try with_reducible rfl
  try simp (maxSteps := 2000000) only [zz1, zz2, zz3, Act.put, zz4, zz5, zz6]
  refine wpAnyH_take (i := 33) (v := ?_) rfl (by kernel_rfl) (by kernel_rfl) (by kernel_rfl) (fun _ _ _ h => h) (Or.inl ⟨by first | kernel_rfl | rfl, ?_⟩) (by assumption) ?_
  rotate_left
  · (intro wq hSw; (try dsimp only at hSw); (try simp (maxSteps := 2000000) only [zz1, zz2, zz3]); go_simp); try with_reducible rfl
  try simp (maxSteps := 2000000) only [zz1, zz2, zz3, Act.put, zz4, zz5, zz6]
  refine wpAnyH_take (i := 34) (v := ?_) rfl (by kernel_rfl) (by kernel_rfl) (by kernel_rfl) (fun _ _ _ h => h) (Or.inl ⟨by first | kernel_rfl | rfl, ?_⟩) (by assumption) ?_
  rotate_left
  · (intro wq hSw; (try dsimp only at hSw); (try simp (maxSteps := 2000000) only [zz1, zz2, zz3]); go_simp); try with_reducible rfl
  try simp (maxSteps := 2000000) only [zz1, zz2, zz3, Act.put, zz4, zz5, zz6]
  refine wpAnyH_take (i := 35) (v := ?_) rfl (by kernel_rfl) (by kernel_rfl) (by kernel_rfl) (fun _ _ _ h => h) (Or.inl ⟨by first | kernel_rfl | rfl, ?_⟩) (by assumption) ?_
  rotate_left
  · (intro wq hSw; (try dsimp only at hSw); (try simp (maxSteps := 2000000) only [zz1, zz2, zz3]); go_simp); try with_reducible rfl
  try simp (maxSteps := 2000000) only [zz1, zz2, zz3, Act.put, zz4, zz5, zz6]
  refine wpAnyH_take (i := 36) (v := ?_) rfl (by kernel_rfl) (by kernel_rfl) (by kernel_rfl) (fun _ _ _ h => h) (Or.inl ⟨by first | kernel_rfl | rfl, ?_⟩) (by assumption) ?_
  rotate_left
  · (intro wq hSw; (try dsimp only at hSw); (try simp (maxSteps := 2000000) only [zz1, zz2, zz3]); go_simp); try with_reducible rfl
  try simp (maxSteps := 2000000) only [zz1, zz2, zz3, Act.put, zz4, zz5, zz6]
  refine wpAnyH_take (i := 37) (v := ?_) rfl (by kernel_rfl) (by kernel_rfl) (by kernel_rfl) (fun _ _ _ h => h) (Or.inl ⟨by first | kernel_rfl | rfl, ?_⟩) (by assumption) ?_
  rotate_left
  · (intro wq hSw; (try dsimp only at hSw); (try simp (maxSteps := 2000000) only [zz1, zz2, zz3]); go_simp); try with_reducible rfl
  try simp (maxSteps := 2000000) only [zz1, zz2, zz3, Act.put, zz4, zz5, zz6]
  refine wpAnyH_take (i := 38) (v := ?_) rfl (by kernel_rfl) (by kernel_rfl) (by kernel_rfl) (fun _ _ _ h => h) (Or.inl ⟨by first | kernel_rfl | rfl, ?_⟩) (by assumption) ?_
  rotate_left
  · (intro wq hSw; (try dsimp only at hSw); (try simp (maxSteps := 2000000) only [zz1, zz2, zz3]); go_simp); try with_reducible rfl
  try simp (maxSteps := 2000000) only [zz1, zz2, zz3, Act.put, zz4, zz5, zz6]
  refine wpAnyH_take (i := 39) (v := ?_) rfl (by kernel_rfl) (by kernel_rfl) (by kernel_rfl) (fun _ _ _ h => h) (Or.inl ⟨by first | kernel_rfl | rfl, ?_⟩) (by assumption) ?_
  rotate_left
  · (intro wq hSw; (try dsimp only at hSw); (try simp (maxSteps := 2000000) only [zz1, zz2, zz3]); go_simp); try with_reducible rfl
  try simp (maxSteps := 2000000) only [zz1, zz2, zz3, Act.put, zz4, zz5, zz6]
  refine wpAnyH_take (i := 40) (v := ?_) rfl (by kernel_rfl) (by kernel_rfl) (by kernel_rfl) (fun _ _ _ h => h) (Or.inl ⟨by first | kernel_rfl | rfl, ?_⟩) (by assumption) ?_
  rotate_left
  · (intro wq hSw; (try dsimp only at hSw); (try simp (maxSteps := 2000000) only [zz1, zz2, zz3]); go_simp); try with_reducible rfl
  try simp (maxSteps := 2000000) only [zz1, zz2, zz3, Act.put, zz4, zz5, zz6]
  refine wpAnyH_take (i := 41) (v := ?_) rfl (by kernel_rfl) (by kernel_rfl) (by kernel_rfl) (fun _ _ _ h => h) (Or.inl ⟨by first | kernel_rfl | rfl, ?_⟩) (by assumption) ?_
  rotate_left
  · (intro wq hSw; (try dsimp only at hSw); (try simp (maxSteps := 2000000) only [zz1, zz2, zz3]); go_simp); try with_reducible rfl
  try simp (maxSteps := 2000000) only [zz1, zz2, zz3, Act.put, zz4, zz5, zz6]
  refine wpAnyH_take (i := 42) (v := ?_) rfl (by kernel_rfl) (by kernel_rfl) (by kernel_rfl) (fun _ _ _ h => h) (Or.inl ⟨by first | kernel_rfl | rfl, ?_⟩) (by assumption) ?_
  rotate_left
  · (intro wq hSw; (try dsimp only at hSw); (try simp (maxSteps := 2000000) only [zz1, zz2, zz3]); go_simp); try with_reducible rfl
  try simp (maxSteps := 2000000) only [zz1, zz2, zz3, Act.put, zz4, zz5, zz6]
  refine wpAnyH_take (i := 43) (v := ?_) rfl (by kernel_rfl) (by kernel_rfl) (by kernel_rfl) (fun _ _ _ h => h) (Or.inl ⟨by first | kernel_rfl | rfl, ?_⟩) (by assumption) ?_
  rotate_left
  · (intro wq hSw; (try dsimp only at hSw); (try simp (maxSteps := 2000000) only [zz1, zz2, zz3]); go_simp); try with_reducible rfl
  try simp (maxSteps := 2000000) only [zz1, zz2, zz3, Act.put, zz4, zz5, zz6]
  refine wpAnyH_take (i := 44) (v := ?_) rfl (by kernel_rfl) (by kernel_rfl) (by kernel_rfl) (fun _ _ _ h => h) (Or.inl ⟨by first | kernel_rfl | rfl, ?_⟩) (by assumption) ?_
  rotate_left
  · (intro wq hSw; (try dsimp only at hSw); (try simp (maxSteps := 2000000) only [zz1, zz2, zz3]); go_simp); try with_reducible rfl
  try simp (maxSteps := 2000000) only [zz1, zz2, zz3, Act.put, zz4, zz5, zz6]
  refine wpAnyH_take (i := 45) (v := ?_) rfl (by kernel_rfl) (by kernel_rfl) (by kernel_rfl) (fun _ _ _ h => h) (Or.inl ⟨by first | kernel_rfl | rfl, ?_⟩) (by assumption) ?_
  rotate_left
  · (intro wq hSw; (try dsimp only at hSw); (try simp (maxSteps := 2000000) only [zz1, zz2, zz3]); go_simp); try with_reducible rfl
  try simp (maxSteps := 2000000) only [zz1, zz2, zz3, Act.put, zz4, zz5, zz6]
  refine wpAnyH_take (i := 46) (v := ?_) rfl (by kernel_rfl) (by kernel_rfl) (by kernel_rfl) (fun _ _ _ h => h) (Or.inl ⟨by first | kernel_rfl | rfl, ?_⟩) (by assumption) ?_
  rotate_left
  · (intro wq hSw; (try dsimp only at hSw); (try simp (maxSteps := 2000000) only [zz1, zz2, zz3]); go_simp); try with_reducible rfl
  try simp (maxSteps := 2000000) only [zz1, zz2, zz3, Act.put, zz4, zz5, zz6]
  refine wpAnyH_take (i := 47) (v := ?_) rfl (by kernel_rfl) (by kernel_rfl) (by kernel_rfl) (fun _ _ _ h => h) (Or.inl ⟨by first | kernel_rfl | rfl, ?_⟩) (by assumption) ?_
  rotate_left
  · (intro wq hSw; (try dsimp only at hSw); (try simp (maxSteps := 2000000) only [zz1, zz2, zz3]); go_simp); try with_reducible rfl
  try simp (maxSteps := 2000000) only [zz1, zz2, zz3, Act.put, zz4, zz5, zz6]
  refine wpAnyH_take (i := 48) (v := ?_) rfl (by kernel_rfl) (by kernel_rfl) (by kernel_rfl) (fun _ _ _ h => h) (Or.inl ⟨by first | kernel_rfl | rfl, ?_⟩) (by assumption) ?_
  rotate_left
  · (intro wq hSw; (try dsimp only at hSw); (try simp (maxSteps := 2000000) only [zz1, zz2, zz3]); go_simp); try with_reducible rfl
  try simp (maxSteps := 2000000) only [zz1, zz2, zz3, Act.put, zz4, zz5, zz6]
  refine wpAnyH_take (i := 49) (v := ?_) rfl (by kernel_rfl) (by kernel_rfl) (by kernel_rfl) (fun _ _ _ h => h) (Or.inl ⟨by first | kernel_rfl | rfl, ?_⟩) (by assumption) ?_
  rotate_left
  · (intro wq hSw; (try dsimp only at hSw); (try simp (maxSteps := 2000000) only [zz1, zz2, zz3]); go_simp); try with_reducible rfl
  try simp (maxSteps := 2000000) only [zz1, zz2, zz3, Act.put, zz4, zz5, zz6]
  refine wpAnyH_take (i := 50) (v := ?_) rfl (by kernel_rfl) (by kernel_rfl) (by kernel_rfl) (fun _ _ _ h => h) (Or.inl ⟨by first | kernel_rfl | rfl, ?_⟩) (by assumption) ?_
  rotate_left
  · (intro wq hSw; (try dsimp only at hSw); (try simp (maxSteps := 2000000) only [zz1, zz2, zz3]); go_simp); try with_reducible rfl
  try simp (maxSteps := 2000000) only [zz1, zz2, zz3, Act.put, zz4, zz5, zz6]
  refine wpAnyH_take (i := 51) (v := ?_) rfl (by kernel_rfl) (by kernel_rfl) (by kernel_rfl) (fun _ _ _ h => h) (Or.inl ⟨by first | kernel_rfl | rfl, ?_⟩) (by assumption) ?_
  rotate_left
  · (intro wq hSw; (try dsimp only at hSw); (try simp (maxSteps := 2000000) only [zz1, zz2, zz3]); go_simp); try with_reducible rfl
  try simp (maxSteps := 2000000) only [zz1, zz2, zz3, Act.put, zz4, zz5, zz6]
  refine wpAnyH_ready (rs := [52]) (by kernel_rfl) (by simp) ?_
  refine AllReadyH.cons rfl (fun K hK => ?_) AllReadyH.nil
  try simp (maxSteps := 2000000) only [zz1, zz2, zz3]
  go_simp
  refine hK.out _ _ (by first | exact HSF.out _ hd6 | exact HSF.out _ hb7 | exact HSF.out _ (hb7.alloc hb7.size _) | exact HSF.out _ hb9) (fun hHeld => ?_)
  clear hK K
  try simp (maxSteps := 2000000) only [zz1, zz2, zz3, Act.put, zz4, zz5, zz6]
  refine wpAnyH_take (i := 53) (v := ?_) rfl (by kernel_rfl) (by kernel_rfl) (by kernel_rfl) (fun _ _ _ h => h) (Or.inl ⟨by first | kernel_rfl | rfl, ?_⟩) (by assumption) ?_
  rotate_left
  · (intro wq hSw; (try dsimp only at hSw); (try simp (maxSteps := 2000000) only [zz1, zz2, zz3]); go_simp); try with_reducible rfl
  try simp (maxSteps := 2000000) only [zz1, zz2, zz3, Act.put, zz4, zz5, zz6]
  refine wpAnyH_ready (rs := [54]) (by kernel_rfl) (by simp) ?_
  refine AllReadyH.cons rfl (fun K hK => ?_) AllReadyH.nil
  try simp (maxSteps := 2000000) only [zz1, zz2, zz3]
  go_simp
  go_at_call 103
  have h8 : Below w6.heap.size w6 (w7.alloc (.cells #[.int .i64 7] 3)) := hb7.alloc hb7.size _
  have hr8 := RdL.one (R := IntR) IntR.stable (E := 3) (s := 1) (S := fun _ => True) (W := w7) (cs := #[.int .i64 7]) (y := (7 : Int)) rfl rfl
  have hpb8 := bpb_any (c0 := 0) (c := 1) (gen := 300) (size := 5) (xs := []) (ps := [7]) (RdL.nil (A := none) (S := fun _ => True) (w := w7.alloc (.cells #[.int .i64 7] 3))) hr8 (by omega) (by omega) (by omega) (by omega) (fun x hx => by simp at hx; omega)
  rw [show ([] : List Nat) ++ varL 5 ++ varL 300 ++ varL 1 ++ placesL [7] = [5, 172, 2, 1, 7] by decide +kernel] at hpb8
  unfold blobC at hpb8
  refine hpb8.mono ?_
  clear hpb8 hr8
  rintro e w9 ⟨A9, c9, m9, rfl, hr9, hb⟩
  have hb9 : Below w6.heap.size w6 w9 := h8.trans (hb.mono h8.size)
  have hcv : ∀ wq, Below w9.heap.size w9 wq → (convert 80 9 (.slice A9 m9 c9)).run Tryz.prog wq = .ok (.string ⟨#[5, 172, 2, 1, 7]⟩) wq := fun wq h => by
    have t := text_run (c := c9) (hr9.below ByR.stable h)
    rw [show textB [5, 172, 2, 1, 7] = ⟨#[5, 172, 2, 1, 7]⟩ by decide +kernel] at t
    exact t
  have hbb : Below w9.heap.size w9 w9 := Below.refl _ _
  have HB9 := Lib.hid (HB6.out.trans (hb9.mono HB6.out.size))
  clear hb hr9 h8
  try (go_wp2_with fail)
  refine hK.out _ _ (by first | exact HSF.out _ hd6 | exact HSF.out _ hb7 | exact HSF.out _ (hb7.alloc hb7.size _) | exact HSF.out _ hb9) (fun hHeld => ?_)
  clear hK K
  try simp (maxSteps := 2000000) only [zz1, zz2, zz3, Act.put, zz4, zz5, zz6]
  refine wpAnyH_nar (S' := fun w' => Below w9.heap.size w9 w') (fun w' h => HSF.out _ (hb9.trans (h.mono hb9.size))) _ _ _ _ ?_
  refine wpAnyH_take (i := 55) (v := ?_) rfl (by kernel_rfl) (by kernel_rfl) (by kernel_rfl) (fun _ _ _ h => h) (Or.inl ⟨by first | kernel_rfl | rfl, ?_⟩) (by assumption) ?_
  rotate_left
  · (intro wq hSw; (try dsimp only at hSw); (try simp (maxSteps := 2000000) only [zz1, zz2, zz3]); go_simp); try with_reducible rfl
  try simp (maxSteps := 2000000) only [zz1, zz2, zz3, Act.put, zz4, zz5, zz6]
  refine wpAnyH_take (i := 56) (v := ?_) rfl (by kernel_rfl) (by kernel_rfl) (by kernel_rfl) (fun _ _ _ h => h) (Or.inl ⟨by first | kernel_rfl | rfl, ?_⟩) (by assumption) ?_
  rotate_left
  · (intro wq hSw; (try dsimp only at hSw); (try simp (maxSteps := 2000000) only [zz1, zz2, zz3]); go_simp); try with_reducible rfl
  try simp (maxSteps := 2000000) only [zz1, zz2, zz3, Act.put, zz4, zz5, zz6]
  refine wpAnyH_take (i := 57) (v := ?_) rfl (by kernel_rfl) (by kernel_rfl) (by kernel_rfl) (fun _ _ _ h => h) (Or.inl ⟨by first | kernel_rfl | rfl, ?_⟩) (by assumption) ?_
  rotate_left
  · (intro wq hSw; (try dsimp only at hSw); (try simp (maxSteps := 2000000) only [zz1, zz2, zz3]); go_simp); try with_reducible rfl
  try simp (maxSteps := 2000000) only [zz1, zz2, zz3, Act.put, zz4, zz5, zz6]
  refine wpAnyH_take (i := 58) (v := ?_) rfl (by kernel_rfl) (by kernel_rfl) (by kernel_rfl) (fun _ _ _ h => h) (Or.inl ⟨by first | kernel_rfl | rfl, ?_⟩) (by assumption) ?_
  rotate_left
  · (intro wq hSw; (try dsimp only at hSw); (try simp (maxSteps := 2000000) only [zz1, zz2, zz3]); go_simp); try with_reducible rfl
  try simp (maxSteps := 2000000) only [zz1, zz2, zz3, Act.put, zz4, zz5, zz6]
  refine wpAnyH_done (by kernel_rfl) ?_ _
  clear hHeld
  go_wp2_with fail
  go_ret
  exact ⟨rfl, HB9.out⟩
end Go.Proofs.YtcliejdiaohamaaGreat
