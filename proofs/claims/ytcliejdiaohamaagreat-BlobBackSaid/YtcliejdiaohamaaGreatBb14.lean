/-
  A value is got.
  A law's base: rows, and places of a pool: is it small?
  A law's base: drives, a coder and a pool are made.
  A value is put: no room, too long.
  What is taken of a pool is free no more; a value's stripes lie on the drives as they were put, and stay.
  blob.Put while nothing came back to the pool: the places follow each other.
  Values that were put, and what they were: two slices that grow side by side, while drives and a pool go on.
  What a region's operations keep may be sharpened on the way.
  A value's stripes, by name.
  The document's count of a value's stripes.
  A value's stripes as the document names them.
  May a blob be, as the document says?
  A number put as few bytes.
  A value's name as bytes.
-/
import Derived.Test.YtcliejdiaohamaaGreatBb13
import Derived.Test.YtcliejdiaohamaaGreatBb12
import Derived.Test.YtcliejdiaohamaaGreatBb4
import Derived.Test.YtcliejdiaohamaaGreatBb9
set_option linter.unusedSimpArgs false
set_option linter.unusedVariables false
namespace Go.Proofs.YtcliejdiaohamaaGreat
open Go.RowKit Go.Cib
attribute [local go_sem] cell_set Later.cell Later.frozen Grw.cell Grw.frozen
theorem bPc_next (k : Nat) (xs : List Nat) (i : Nat) : xs.take ((i + 1) * (k * 44)) = xs.take (i * (k * 44)) ++ bPc k xs i := by
  unfold bPc
  rw [Nat.add_mul, Nat.one_mul, List.take_add]
theorem bPc_len (k : Nat) (xs : List Nat) (i : Nat) : (bPc k xs i).length = min (k * 44) (xs.length - i * (k * 44)) := by
  unfold bPc
  rw [List.length_take, List.length_drop]
theorem bPc_all {k size : Nat} (hk : 1 ≤ k) {xs : List Nat} (hl : xs.length = size) : xs.take (cntN k size * (k * 44)) = xs := by
  refine List.take_of_length_le ?_
  rw [hl]
  unfold cntN
  have hr : 0 < k * 44 := by omega
  obtain ⟨r, hre⟩ : ∃ r, k * 44 = r := ⟨_, rfl⟩
  rw [hre] at hr ⊢
  have h1 := Nat.div_add_mod (size + r - 1) r
  have h2 := Nat.mod_lt (size + r - 1) hr
  rw [Nat.mul_comm] at h1
  omega
section
variable {w0 w w' : World} {a n cb bf k m : Nat} {sts : List DSt} {S : Nat → Prop}
theorem room_b (h : CodAt w cb bf k m) : Calls Tryz.prog 105 #[.pointer (some ⟨cb, 0, none⟩)] w fun e w' => e = .returned (.int .i64 ((k * 44 : Nat) : Int)) ∧ Below w.heap.size w w' := (room_any h).mono fun e w' ⟨h1, h2⟩ => ⟨h1, by rw [h2]; exact Below.refl _ _⟩
theorem an_s (h : SMid w0 w a cb bf k m n sts) : Calls Tryz.prog 86 #[.pointer (some ⟨a, 0, none⟩)] w fun e w' => e = .returned (.int .i64 ((k + m : Nat) : Int)) ∧ Below w.heap.size w w' := by
  have hk := h.k1
  have hl := h.len
  obtain ⟨U, C, ⟨v, Fs, ps, hA⟩, hC, hU, hd⟩ := h.ex
  have := an_any (Lib.hid hA) (by omega)
  rw [hl] at this
  exact this
set_option maxRecDepth 100000 in
set_option maxHeartbeats 16000000 in
theorem bget_any (h : SMid w0 w a cb bf k m n sts) {A : Option Addr} {M c G size : Nat} {ps : List Int} {xs : List Nat} {g : Nat → Bool} (R : RdL IntR 1 S w A M ps) (hM : M = cntN k size) (hs : size ≤ 400) (hpb : ∀ x ∈ ps, 0 ≤ x ∧ x < (n : Int)) (hG : Hid (G + M < 2 ^ 64)) (hx : Byt xs) (hl : xs.length = size)
    (hv : ∀ i, i < M → Hds g k (k + m) (bRef ps G i) (bPc k xs i) sts) (hg : k ≤ cntP g (k + m)) :
    Calls Tryz.prog 41 #[.pointer (some ⟨a, 0, none⟩), .pointer (some ⟨cb, 0, none⟩), .agg (blobC A M c (G : Int) (size : Int))] w fun e w' => ∃ A' c', e = .returned (.tuple #[.slice A' size c', .int .i64 0]) ∧ size ≤ c' ∧ RdL ByR 1 (fun j => w.heap.size ≤ j) w' A' size xs ∧ Below w.heap.size w w' := by
  have hk1 := h.k1
  have hM4 := cntN_le hk1 size
  rw [← hM] at hM4
  have bB := BoxAt.new w (blobC A M c (G : Int) (size : Int)) 61
  have hb1 : Below w.heap.size w (w.alloc (.cells (blobC A M c (G : Int) (size : Int)) 61)) := (Below.refl _ _).alloc (Nat.le_refl _) _
  obtain ⟨w1, hw1⟩ : ∃ w1, w.alloc (.cells (blobC A M c (G : Int) (size : Int)) 61) = w1 := ⟨_, rfl⟩
  obtain ⟨q, hq⟩ : ∃ q, w.heap.size = q := ⟨_, rfl⟩
  rw [hw1] at bB hb1
  rw [hq] at bB
  have hm1 := h.below hb1
  have HM1 := Lib.hid hm1
  have HR1 := Lib.hid (R.below IntR.stable hb1)
  have hpl := R.1
  have han := an_s hm1
  have hcn := fun (w2 : World) (hb : Below w1.heap.size w1 w2) => cn_any (hm1.cod.below hb)
  obtain ⟨N, hN⟩ : ∃ N, k + m = N := ⟨_, rfl⟩
  rw [hN] at han hcn
  have e0 : ((N : Int) == 0) = false := by simp; omega
  have hrb : rightB k ps (size : Int) = true := by
    unfold rightB nonB
    rw [List.all_eq_true.2 (fun x hx => decide_eq_true (hpb x hx).1), cntI_nat hk1, ← hM, hpl, decide_eq_true (by omega : (0 : Int) ≤ (size : Int)), decide_eq_true (by omega : (size : Int) ≤ 400), decide_eq_true rfl]; rfl
  have hri := fun (w2 : World) (hb : Below w1.heap.size w1 w2) => right_any (gen := (G : Int)) (size := (size : Int)) (c := c) (hm1.cod.below hb) (HR1.out.below IntR.stable hb) (by omega)
  rw [hrb] at hri
  have HB1 := Lib.hid hb1
  have BB := Lib.hid bB
  have HCN := Lib.hid hcn
  have HRI := Lib.hid hri
  have HPL := Lib.hid hpl
  have HPB := Lib.hid hpb
  have HV := Lib.hid hv
  have HXB := Lib.hid hx
  have HL := Lib.hid hl
  have HALL := Lib.hid (show xs.take (M * (k * 44)) = xs by rw [hM]; exact bPc_all hk1 hl)
  have HMU := Lib.hid (fun i (hi : i < M) => cntN_mul (size := size) hk1 (by rw [← hM]; exact hi))
  have HKG := Lib.hid hg
  have hkm := h.km
  clear h R hm1 hb1 bB hcn hri hrb hpl hpb hv hx hl hN hM hg
  unfold blobC at hw1 ⊢
  go_enter Tryz.func41, Tryz.ntmps41
  go_wp2_with fail
  refine han.mono ?_
  clear han hw1
  rintro e w2 ⟨rfl, hb2⟩
  have hcn2 := HCN.out w2 hb2
  have HB2 := Lib.hid hb2
  clear hb2
  go_wp2_with fail
  refine hcn2.mono ?_
  clear hcn2
  rintro e w3 ⟨rfl, hb3⟩
  have HB3 := Lib.hid (HB2.out.trans (hb3.mono HB2.out.size))
  have hri3 := HRI.out w3 HB3.out
  have bB3 := BB.out.below HB3.out
  have c3 : w3.cell? ⟨q, 0, none⟩ = some (.slice A M c) ∧ w3.cell? ⟨q, 1, none⟩ = some (.int .u64 (G : Int)) ∧ w3.cell? ⟨q, 2, none⟩ = some (.int .i64 (size : Int)) := ⟨bB3.cell 0, bB3.cell 1, bB3.cell 2⟩
  unfold blobC at hri3
  clear hb3 HB2 bB3
  go_wp2_with fail
  refine hri3.mono ?_
  clear hri3 c3
  rintro e w4 ⟨rfl, hb4⟩
  have HB4 := Lib.hid (HB3.out.trans (hb4.mono HB3.out.size))
  have bB4 := BB.out.below HB4.out
  have c4 : w4.cell? ⟨q, 0, none⟩ = some (.slice A M c) := bB4.cell 0
  have HW4 := Lib.hid (HB1.out.trans (HB4.out.mono HB1.out.size))
  clear hb4 HB3 bB4 HCN HRI
  go_wp2_with fail
  clear c4
  go_loopw [8, 9, 30] (fun vo ve vi wr => ∃ (i ol co : Nat) (Ao : Option Addr), i ≤ M ∧ vi = .int .i64 (i : Int) ∧ ve = .int .i64 0 ∧ vo = .slice Ao ol co ∧ ol ≤ co ∧ Hid (ol = (xs.take (i * (k * 44))).length) ∧ ol ≤ 400 ∧ Hid (OwnL ByR 5 1 w1.heap.size (fun _ => False) wr (.slice Ao ol co) ol (xs.take (i * (k * 44)))) ∧ Hid (Below w1.heap.size w1 wr)) (fun _ _ vi _ => M - (intOf vi).toNat)
  case atStart => exact ⟨0, 0, 0, none, Nat.zero_le _, rfl, rfl, rfl, Nat.le_refl _, Lib.hid (by simp), by omega, Lib.hid (by rw [Nat.zero_mul]; exact OwnL.nil_), HB4⟩
  case round =>
    obtain ⟨i, ol, co, Ao, hi, rfl, rfl, rfl, hco, HOL, hol, HO, HB⟩ := hrel
    have p0 : (0 : Int) ≤ (i : Int) := Int.natCast_nonneg _
    by_cases hlt : i < M
    · have p1 : (i : Int) < (M : Int) := by omega
      have hRr := HR1.out.below IntR.stable HB.out
      have bBr := BB.out.below HB.out
      have cr : wr.cell? ⟨q, 0, none⟩ = some (.slice A M c) ∧ wr.cell? ⟨q, 1, none⟩ = some (.int .u64 (G : Int)) ∧ wr.cell? ⟨q, 2, none⟩ = some (.int .i64 (size : Int)) := ⟨bBr.cell 0, bBr.cell 1, bBr.cell 2⟩
      obtain ⟨x, hx⟩ : ∃ x, ps[i]? = some x := ⟨_, List.getElem?_eq_getElem (by rw [HPL.out]; exact hlt)⟩
      have hxb := HPB.out x (List.mem_of_getElem? hx)
      have hnm := name_any (c := c) (gen := (G : Int)) (size := (size : Int)) hRr hlt (by omega) hx
      have hG2 : u64w ((G : Int) + (i : Int)) = (G : Int) + (i : Int) := by unfold u64w; have := hG.out; omega
      rw [hG2] at hnm
      have hbr : bRef ps G i = ⟨3, x.toNat, G + i⟩ := by unfold bRef; rw [List.getD_eq_getElem?_getD, hx]; rfl
      have hrefC : refC (bRef ps G i) = #[.int .u8 3, .int .i64 x, .int .u64 ((G : Int) + (i : Int))] := by rw [hbr]; unfold refC; rw [show ((x.toNat : Nat) : Int) = x by omega]; push_cast; rfl
      have hrok : (bRef ps G i).ok n := by rw [hbr]; exact ⟨(by decide : 1 ≤ 3), (by decide : 3 ≤ 4), (by show x.toNat < n; omega)⟩
      have hrg : Hid ((bRef ps G i).gen < 2 ^ 64) := Lib.hid (by rw [hbr]; show G + i < _; have := hG.out; omega)
      have HRC := Lib.hid hrefC
      have HROK := Lib.hid hrok
      have hmu := HMU.out i hlt
      have hbl := bPc_len k xs i
      rw [HL.out] at hbl
      have hbb : Byt (bPc k xs i) := fun y hy => HXB.out y (List.mem_of_mem_drop (List.mem_of_mem_take hy))
      have hnx := bPc_next k xs i
      have HNX := Lib.hid hnx
      have HBB := Lib.hid hbb
      unfold blobC at hnm
      clear hx hbr hrefC hrok hG2 hRr bBr hnx hbb
      obtain ⟨pl, hple⟩ : ∃ pl, (bPc k xs i).length = pl := ⟨_, rfl⟩
      rw [hple] at hbl
      have HPLE := Lib.hid hple
      have hpl4 : pl ≤ 400 := by omega
      have HPK := Lib.hid (show pl ≤ k * 44 by omega)
      have hplI : (pl : Int) = min (((k * 44 : Nat) : Int)) ((size : Int) - ((i * (k * 44) : Nat) : Int)) := by omega
      have HPLI := Lib.hid hplI
      have hol2 : ol + pl ≤ 400 := by
        have h1 := HOL.out
        rw [List.length_take, HL.out] at h1
        omega
      clear hple hbl hplI
      go_wp2_with fail
      refine hnm.mono ?_
      clear hnm cr
      rintro e w7 ⟨rfl, hb7⟩
      have HB7 := Lib.hid (HB.out.trans (hb7.mono HB.out.size))
      have HO7 := Lib.hid (HO.out.keep ByR.stable hb7)
      have hgt := get_view (g := g) (r := bRef ps G i) (xs := bPc k xs i) (HM1.out.below HB7.out) HROK.out hrg HBB.out (by rw [HPLE.out]; exact HPK.out) (HV.out i hlt)
      rw [HRC.out, HPLE.out] at hgt
      clear hb7 HB HO
      go_wp2_with fail
      refine hgt.mono ?_
      clear hgt
      rintro e w8 ⟨hb8, ⟨hlk, _⟩ | ⟨_, A8, c8, rfl, hc8, hr8⟩⟩
      · exact absurd hlk (by have := HKG.out; omega)
      have HB8 := Lib.hid (HB7.out.trans (hb8.mono HB7.out.size))
      have HO8 := Lib.hid (HO7.out.keep ByR.stable hb8)
      have HR8 := Lib.hid hr8
      have bB8 := BB.out.below HB8.out
      have hrm := fun (y : Later w8.heap.size w8) => room_b (HM1.out.cod.below (HB8.out.trans (y.ok.mono HB8.out.size)))
      have hlo := fun (y : Later w8.heap.size w8) => long_any (w := y.to) (A := A) (n := M) (c := c) (gen := (G : Int)) (size := (size : Int)) (rm := k * 44) (i := i) (by omega) (by omega) (by omega)
      rw [← HPLI.out] at hlo
      have c8q : w8.cell? ⟨q, 0, none⟩ = some (.slice A M c) ∧ w8.cell? ⟨q, 1, none⟩ = some (.int .u64 (G : Int)) ∧ w8.cell? ⟨q, 2, none⟩ = some (.int .i64 (size : Int)) := ⟨bB8.cell 0, bB8.cell 1, bB8.cell 2⟩
      have hq8 := bB8.lt
      unfold blobC at hlo
      clear hb8 HB7 HO7 hr8 bB8
      push_cast at hrm hlo
      go_wp2_with fail
      refine wp_region_later (by kernel_rfl) (by kernel_rfl) ?_
      repeat (go_big_quiet_step (first | (go_at_call 105; exact Later.call _ (hrm _) (Nat.le_refl _)) | (go_at_call 112; exact Later.call _ (hlo _) (Nat.le_refl _))))
      refine wpQuiet_nil ?_
      rintro _ ⟨z, rfl⟩
      clear hrm hlo c8q
      have HO9 := Lib.hid (HO8.out.keep ByR.stable z.ok)
      have HR9 := Lib.hid (HR8.out.below ByR.stable z.ok)
      have HB9 := Lib.hid (HB8.out.trans (z.ok.mono HB8.out.size))
      have hsz9 := HB9.out.size
      have HOL2 := Lib.hid (show ol + pl = (xs.take ((i + 1) * (k * 44))).length by rw [HNX.out, List.length_append, ← HOL.out, HPLE.out])
      clear HO8 HR8 HB8
      go_wp2_with (at_builtin; go_must (refine wpList_appL ByR.stable ByR.one sl_by rfl (by exact rfl) (base := w1.heap.size) (S := fun _ => False) (n := ol) (xs := xs.take (i * (k * 44))) (by exact rfl) HO9.out (by exact rfl) HR9.out (fun _ _ h => h) (by unfold maxLen; omega) (by omega) hsz9 ?_); intro A3 c3 w9 hc3 hown hg3 hat; rw [← HNX.out] at hown; have HOW := Lib.hid hown; have HBW := Lib.hid (Below.grown HB9.out hg3 hsz9 (fun k hk => (HO9.out.lt k hk).1)); clear hown hg3 hat)
      exact ⟨⟨i + 1, ol + pl, c3, A3, by omega, by go_num, rfl, rfl, hc3, HOL2, hol2, HOW, HBW⟩, by simp [intOf]; omega⟩
    · have p1 : ¬ (i : Int) < (M : Int) := by omega
      obtain rfl : i = M := by omega
      rw [HALL.out] at HO HOL
      go_wp2_with fail
      go_ret2
      obtain ⟨A', c', e, _, hr⟩ := HO.out.rd (S' := fun j => w.heap.size ≤ j) (fun j hj => by have := HB1.out.size; show w.heap.size ≤ j; omega) (fun cs x hx => hx)
      injection e with e1 _ e2
      subst e1; subst e2
      have hos : ol = size := by rw [HOL.out, HL.out]
      subst hos
      subst hq
      exact ⟨Ao, co, rfl, hco, hr, HB1.out.trans (HB.out.mono HB1.out.size)⟩
end
end Go.Proofs.YtcliejdiaohamaaGreat

set_option linter.unusedSimpArgs false
set_option linter.unusedVariables false
namespace Go.Proofs.YtcliejdiaohamaaGreat
open Go.RowKit Go.Cib
attribute [local go_sem] cell_set Later.cell Later.frozen Grw.cell Grw.frozen
def baseC (k m f c : Int) : Array Value := #[.int .i64 k, .int .i64 m, .int .i64 f, .int .i64 c]
def bsmB (k m f c : Int) : Bool := decide (1 ≤ k ∧ 1 ≤ m ∧ k + m ≤ 10 ∧ 0 ≤ f ∧ f ≤ 20 ∧ 1 ≤ c ∧ c ≤ 60)
set_option maxRecDepth 100000 in
set_option maxHeartbeats 8000000 in
theorem bsmall_any {w : World} (k m f c : Int) : Calls Tryz.prog 52 #[.agg (baseC k m f c)] w fun e w' => e = .returned (.bool (bsmB k m f c)) ∧ Below w.heap.size w w' := by
  have hma := fun w => may_any (w := w) k m
  have hb0 : Below w.heap.size w (w.alloc (.cells (baseC k m f c) 76)) := (Below.refl _ _).alloc (Nat.le_refl _) _
  unfold baseC at hb0 ⊢
  have key : ∀ b, bsmB k m f c = b → ∀ (h1 : decide (k + m ≤ 10) = true → True), True := fun _ _ _ => trivial
  clear key
  cases hm : mayB k m with
  | false =>
    rw [hm] at hma
    have hs := Lib.hid (show bsmB k m f c = false by
      unfold mayB at hm
      have := of_decide_eq_false hm
      exact decide_eq_false (by omega))
    go_enter Tryz.func52, Tryz.ntmps52
    go_wp2_with (go_at_call 31; refine (hma _).mono ?_; rintro e w3 ⟨rfl, hw3⟩; rw [hw3]; clear hw3 hma)
    go_ret
    exact ⟨by rw [hs.out]; rfl, hb0⟩
  | true =>
    rw [hm] at hma
    have hm' := of_decide_eq_true hm
    have q0 : IntKind.i64.wrap (k + m) = k + m := by rw [IntKind.wrap_i64]; omega
    have alt : (bsmB k m f c = true ∧ decide (k + m ≤ 10) = true ∧ decide (f ≥ 0) = true ∧ decide (f ≤ 20) = true ∧ decide (c ≥ 1) = true ∧ decide (c ≤ 60) = true) ∨ (bsmB k m f c = false ∧ (decide (k + m ≤ 10) && (decide (f ≥ 0) && (decide (f ≤ 20) && (decide (c ≥ 1) && decide (c ≤ 60))))) = false) := by
      by_cases h : 1 ≤ k ∧ 1 ≤ m ∧ k + m ≤ 10 ∧ 0 ≤ f ∧ f ≤ 20 ∧ 1 ≤ c ∧ c ≤ 60
      · exact .inl ⟨decide_eq_true h, decide_eq_true (by omega), decide_eq_true (by omega), decide_eq_true (by omega), decide_eq_true (by omega), decide_eq_true (by omega)⟩
      · refine .inr ⟨decide_eq_false h, ?_⟩
        simp only [Bool.and_eq_false_iff, decide_eq_false_iff_not]
        omega
    have bcs : ∀ b : Bool, b = true ∨ b = false := fun b => by cases b <;> simp
    rcases alt with ⟨hb, d1, d2, d3, d4, d5⟩ | ⟨hb, hd⟩
    · have hs := Lib.hid hb
      clear hb bcs
      go_enter Tryz.func52, Tryz.ntmps52
      go_wp2_with (go_at_call 31; refine (hma _).mono ?_; rintro e w3 ⟨rfl, hw3⟩; rw [hw3]; clear hw3 hma)
      go_ret
      exact ⟨by rw [hs.out]; simp_all, hb0⟩
    · have hs := Lib.hid hb
      clear hb
      rcases bcs (decide (k + m ≤ 10)) with d1 | d1
      rotate_left
      · go_enter Tryz.func52, Tryz.ntmps52
        go_wp2_with (go_at_call 31; refine (hma _).mono ?_; rintro e w3 ⟨rfl, hw3⟩; rw [hw3]; clear hw3 hma)
        go_ret
        exact ⟨by rw [hs.out]; simp_all, hb0⟩
      rcases bcs (decide (f ≥ 0)) with d2 | d2
      rotate_left
      · go_enter Tryz.func52, Tryz.ntmps52
        go_wp2_with (go_at_call 31; refine (hma _).mono ?_; rintro e w3 ⟨rfl, hw3⟩; rw [hw3]; clear hw3 hma)
        go_ret
        exact ⟨by rw [hs.out]; simp_all, hb0⟩
      rcases bcs (decide (f ≤ 20)) with d3 | d3
      rotate_left
      · go_enter Tryz.func52, Tryz.ntmps52
        go_wp2_with (go_at_call 31; refine (hma _).mono ?_; rintro e w3 ⟨rfl, hw3⟩; rw [hw3]; clear hw3 hma)
        go_ret
        exact ⟨by rw [hs.out]; simp_all, hb0⟩
      rcases bcs (decide (c ≥ 1)) with d4 | d4
      rotate_left
      · go_enter Tryz.func52, Tryz.ntmps52
        go_wp2_with (go_at_call 31; refine (hma _).mono ?_; rintro e w3 ⟨rfl, hw3⟩; rw [hw3]; clear hw3 hma)
        go_ret
        exact ⟨by rw [hs.out]; simp_all, hb0⟩
      rcases bcs (decide (c ≤ 60)) with d5 | d5
      rotate_left
      · go_enter Tryz.func52, Tryz.ntmps52
        go_wp2_with (go_at_call 31; refine (hma _).mono ?_; rintro e w3 ⟨rfl, hw3⟩; rw [hw3]; clear hw3 hma)
        go_ret
        exact ⟨by rw [hs.out]; simp_all, hb0⟩
      rw [d1, d2, d3, d4, d5] at hd
      simp at hd
end Go.Proofs.YtcliejdiaohamaaGreat

set_option linter.unusedSimpArgs false
set_option linter.unusedVariables false
namespace Go.Proofs.YtcliejdiaohamaaGreat
open Go.RowKit Go.Cib
attribute [local go_sem] cell_set Later.cell Later.frozen Grw.cell Grw.frozen
set_option maxRecDepth 100000 in
set_option maxHeartbeats 8000000 in
theorem bmade_any {w0 w : World} {k m f c : Nat} (hbel : Below w0.heap.size w0 w) (k1 : 1 ≤ k) (m1 : 1 ≤ m) (km : k + m ≤ 255) (c1 : 1 ≤ c) (c2 : c ≤ 400) (hfc : f + c ≤ 600) :
    Calls Tryz.prog 39 #[.agg (baseC k m f c)] w fun e w' => ∃ a cb bf p o l go gl, e = .returned (.tuple #[.pointer (some ⟨a, 0, none⟩), .pointer (some ⟨cb, 0, none⟩), .pointer (some ⟨p, 0, none⟩)]) ∧ MidP (PoolB p o l go gl) (fun j => j < w.heap.size) w0 w' a cb bf k m (f + c) (List.replicate (k + m) (DSt.new (f + c))) ∧ PoolAt w' p o l go gl 0 0 f c (List.replicate ((c + 63) / 64) 0) (List.replicate ((c + 63) / 64) 0) ∧ Below w.heap.size w w' := by
  have hb0 : Below w.heap.size w (w.alloc (.cells (baseC k m f c) 76)) := (Below.refl _ _).alloc (Nat.le_refl _) _
  have bG := BoxAt.new w (baseC k m f c) 76
  obtain ⟨N, hN⟩ : ∃ N, k + m = N := ⟨_, rfl⟩
  obtain ⟨n, hn⟩ : ∃ n, f + c = n := ⟨_, rfl⟩
  have hnw := fun w => anew_any N n (by omega) (by omega) (by omega) (by omega) w
  have hfn := fun w => fldnew_any (w := w)
  have hcn := fun w b base F hb => new_anyS (w := w) (b := b) (base := base) (k := k) (m := m) F hb k1 m1 km
  have hpn := fun w => pnew_any (w := w) (fs := f) (n := c) c1 c2 hfc
  have q0 : (k : Int) + (m : Int) = (N : Int) := by omega
  have q1 : IntKind.i64.wrap (N : Int) = (N : Int) := by rw [IntKind.wrap_i64]; omega
  have q2 : (f : Int) + (c : Int) = (n : Int) := by omega
  have q3 : IntKind.i64.wrap (n : Int) = (n : Int) := by rw [IntKind.wrap_i64]; omega
  have HN := Lib.hid hN
  have Hn := Lib.hid hn
  have HR := Lib.hid (show 1 ≤ n ∧ n ≤ 600 from ⟨by omega, by omega⟩)
  unfold baseC at hb0 bG ⊢
  go_enter Tryz.func39, Tryz.ntmps39
  go_wp2_with fail
  obtain ⟨wA, hwA⟩ : ∃ wA, w.alloc (.cells #[.int .i64 (k : Int), .int .i64 (m : Int), .int .i64 (f : Int), .int .i64 (c : Int)] 76) = wA := ⟨_, rfl⟩
  rw [hwA] at hb0 bG ⊢
  obtain ⟨q, hq⟩ : ∃ q, w.heap.size = q := ⟨_, rfl⟩
  have HQ := Lib.hid hq
  rw [hq] at bG ⊢
  clear hwA hN hn hq c1 c2 hfc
  have bGd : BoxAt wA.drew q #[.int .i64 (k : Int), .int .i64 (m : Int), .int .i64 (f : Int), .int .i64 (c : Int)] := bG.keep rfl
  have hd : Below w.heap.size w wA.drew := hb0.drew
  have s0 : wA.drew.cell? ⟨q, 0, none⟩ = some (.int .i64 (k : Int)) ∧ wA.drew.cell? ⟨q, 1, none⟩ = some (.int .i64 (m : Int)) ∧ wA.drew.cell? ⟨q, 2, none⟩ = some (.int .i64 (f : Int)) ∧ wA.drew.cell? ⟨q, 3, none⟩ = some (.int .i64 (c : Int)) := ⟨bGd.cell 0, bGd.cell 1, bGd.cell 2, bGd.cell 3⟩
  refine wp_region_held_drew (S := fun w' => w'.cell? ⟨q, 0, none⟩ = some (.int .i64 (k : Int)) ∧ w'.cell? ⟨q, 1, none⟩ = some (.int .i64 (m : Int)) ∧ w'.cell? ⟨q, 2, none⟩ = some (.int .i64 (f : Int)) ∧ w'.cell? ⟨q, 3, none⟩ = some (.int .i64 (c : Int))) (by kernel_rfl) (by first | exact s0 | exact s5 | exact s6 | exact s7 | exact s8) (fun hHeld => ?_)
  refine wpAnyH_take (i := 0) (v := ?_) rfl (by kernel_rfl) (by kernel_rfl) (by kernel_rfl) (fun _ _ _ h => h) (Or.inl ⟨by first | kernel_rfl | rfl, ?_⟩) (by assumption) ?_
  rotate_left
  · (intro wq hSw; (try dsimp only at hSw); (try simp (maxSteps := 2000000) only [zz1, zz2, zz3]); go_simp); try with_reducible rfl
  try simp (maxSteps := 2000000) only [zz1, zz2, zz3, Act.put, zz4, zz5, zz6]
  refine wpAnyH_take (i := 1) (v := ?_) rfl (by kernel_rfl) (by kernel_rfl) (by kernel_rfl) (fun _ _ _ h => h) (Or.inl ⟨by first | kernel_rfl | rfl, ?_⟩) (by assumption) ?_
  rotate_left
  · (intro wq hSw; (try dsimp only at hSw); (try simp (maxSteps := 2000000) only [zz1, zz2, zz3]); go_simp); try with_reducible rfl
  try simp (maxSteps := 2000000) only [zz1, zz2, zz3, Act.put, zz4, zz5, zz6]
  refine wpAnyH_take (i := 2) (v := ?_) rfl (by kernel_rfl) (by kernel_rfl) (by kernel_rfl) (fun _ _ _ h => h) (Or.inl ⟨by first | kernel_rfl | rfl, ?_⟩) (by assumption) ?_
  rotate_left
  · (intro wq hSw; (try dsimp only at hSw); (try simp (maxSteps := 2000000) only [zz1, zz2, zz3]); go_simp); try with_reducible rfl
  try simp (maxSteps := 2000000) only [zz1, zz2, zz3, Act.put, zz4, zz5, zz6]
  refine wpAnyH_take (i := 3) (v := ?_) rfl (by kernel_rfl) (by kernel_rfl) (by kernel_rfl) (fun _ _ _ h => h) (Or.inl ⟨by first | kernel_rfl | rfl, ?_⟩) (by assumption) ?_
  rotate_left
  · (intro wq hSw; (try dsimp only at hSw); (try simp (maxSteps := 2000000) only [zz1, zz2, zz3]); go_simp); try with_reducible rfl
  try simp (maxSteps := 2000000) only [zz1, zz2, zz3, Act.put, zz4, zz5, zz6]
  refine wpAnyH_take (i := 4) (v := ?_) rfl (by kernel_rfl) (by kernel_rfl) (by kernel_rfl) (fun _ _ _ h => h) (Or.inl ⟨by first | kernel_rfl | rfl, ?_⟩) (by assumption) ?_
  rotate_left
  · (intro wq hSw; (try dsimp only at hSw); (try simp (maxSteps := 2000000) only [zz1, zz2, zz3]); go_simp); try with_reducible rfl
  try simp (maxSteps := 2000000) only [zz1, zz2, zz3, Act.put, zz4, zz5, zz6]
  refine wpAnyH_take (i := 5) (v := ?_) rfl (by kernel_rfl) (by kernel_rfl) (by kernel_rfl) (fun _ _ _ h => h) (Or.inl ⟨by first | kernel_rfl | rfl, ?_⟩) (by assumption) ?_
  rotate_left
  · (intro wq hSw; (try dsimp only at hSw); (try simp (maxSteps := 2000000) only [zz1, zz2, zz3]); go_simp); try with_reducible rfl
  try simp (maxSteps := 2000000) only [zz1, zz2, zz3, Act.put, zz4, zz5, zz6]
  refine wpAnyH_take (i := 6) (v := ?_) rfl (by kernel_rfl) (by kernel_rfl) (by kernel_rfl) (fun _ _ _ h => h) (Or.inl ⟨by first | kernel_rfl | rfl, ?_⟩) (by assumption) ?_
  rotate_left
  · (intro wq hSw; (try dsimp only at hSw); (try simp (maxSteps := 2000000) only [zz1, zz2, zz3]); go_simp); try with_reducible rfl
  try simp (maxSteps := 2000000) only [zz1, zz2, zz3, Act.put, zz4, zz5, zz6]
  refine wpAnyH_take (i := 7) (v := ?_) rfl (by kernel_rfl) (by kernel_rfl) (by kernel_rfl) (fun _ _ _ h => h) (Or.inl ⟨by first | kernel_rfl | rfl, ?_⟩) (by assumption) ?_
  rotate_left
  · (intro wq hSw; (try dsimp only at hSw); (try simp (maxSteps := 2000000) only [zz1, zz2, zz3]); go_simp); try with_reducible rfl
  try simp (maxSteps := 2000000) only [zz1, zz2, zz3, Act.put, zz4, zz5, zz6]
  refine wpAnyH_take (i := 8) (v := ?_) rfl (by kernel_rfl) (by kernel_rfl) (by kernel_rfl) (fun _ _ _ h => h) (Or.inl ⟨by first | kernel_rfl | rfl, ?_⟩) (by assumption) ?_
  rotate_left
  · (intro wq hSw; (try dsimp only at hSw); (try simp (maxSteps := 2000000) only [zz1, zz2, zz3]); go_simp); try with_reducible rfl
  try simp (maxSteps := 2000000) only [zz1, zz2, zz3, Act.put, zz4, zz5, zz6]
  refine wpAnyH_take (i := 9) (v := ?_) rfl (by kernel_rfl) (by kernel_rfl) (by kernel_rfl) (fun _ _ _ h => h) (Or.inl ⟨by first | kernel_rfl | rfl, ?_⟩) (by assumption) ?_
  rotate_left
  · (intro wq hSw; (try dsimp only at hSw); (try simp (maxSteps := 2000000) only [zz1, zz2, zz3]); go_simp); try with_reducible rfl
  try simp (maxSteps := 2000000) only [zz1, zz2, zz3, Act.put, zz4, zz5, zz6]
  refine wpAnyH_take (i := 12) (v := ?_) rfl (by kernel_rfl) (by kernel_rfl) (by kernel_rfl) (fun _ _ _ h => h) (Or.inl ⟨by first | kernel_rfl | rfl, ?_⟩) (by assumption) ?_
  rotate_left
  · (intro wq hSw; (try dsimp only at hSw); (try simp (maxSteps := 2000000) only [zz1, zz2, zz3]); go_simp); try with_reducible rfl
  try simp (maxSteps := 2000000) only [zz1, zz2, zz3, Act.put, zz4, zz5, zz6]
  refine wpAnyH_take (i := 13) (v := ?_) rfl (by kernel_rfl) (by kernel_rfl) (by kernel_rfl) (fun _ _ _ h => h) (Or.inl ⟨by first | kernel_rfl | rfl, ?_⟩) (by assumption) ?_
  rotate_left
  · (intro wq hSw; (try dsimp only at hSw); (try simp (maxSteps := 2000000) only [zz1, zz2, zz3]); go_simp); try with_reducible rfl
  try simp (maxSteps := 2000000) only [zz1, zz2, zz3, Act.put, zz4, zz5, zz6]
  refine wpAnyH_take (i := 14) (v := ?_) rfl (by kernel_rfl) (by kernel_rfl) (by kernel_rfl) (fun _ _ _ h => h) (Or.inl ⟨by first | kernel_rfl | rfl, ?_⟩) (by assumption) ?_
  rotate_left
  · (intro wq hSw; (try dsimp only at hSw); (try simp (maxSteps := 2000000) only [zz1, zz2, zz3]); go_simp); try with_reducible rfl
  try simp (maxSteps := 2000000) only [zz1, zz2, zz3, Act.put, zz4, zz5, zz6]
  refine wpAnyH_take (i := 15) (v := ?_) rfl (by kernel_rfl) (by kernel_rfl) (by kernel_rfl) (fun _ _ _ h => h) (Or.inl ⟨by first | kernel_rfl | rfl, ?_⟩) (by assumption) ?_
  rotate_left
  · (intro wq hSw; (try dsimp only at hSw); (try simp (maxSteps := 2000000) only [zz1, zz2, zz3]); go_simp); try with_reducible rfl
  try simp (maxSteps := 2000000) only [zz1, zz2, zz3, Act.put, zz4, zz5, zz6]
  refine wpAnyH_take (i := 17) (v := ?_) rfl (by kernel_rfl) (by kernel_rfl) (by kernel_rfl) (fun _ _ _ h => h) (Or.inl ⟨by first | kernel_rfl | rfl, ?_⟩) (by assumption) ?_
  rotate_left
  · (intro wq hSw; (try dsimp only at hSw); (try simp (maxSteps := 2000000) only [zz1, zz2, zz3]); go_simp); try with_reducible rfl
  try simp (maxSteps := 2000000) only [zz1, zz2, zz3, Act.put, zz4, zz5, zz6]
  refine wpAnyH_take (i := 18) (v := ?_) rfl (by kernel_rfl) (by kernel_rfl) (by kernel_rfl) (fun _ _ _ h => h) (Or.inl ⟨by first | kernel_rfl | rfl, ?_⟩) (by assumption) ?_
  rotate_left
  · (intro wq hSw; (try dsimp only at hSw); (try simp (maxSteps := 2000000) only [zz1, zz2, zz3]); go_simp); try with_reducible rfl
  try simp (maxSteps := 2000000) only [zz1, zz2, zz3, Act.put, zz4, zz5, zz6]
  refine wpAnyH_take (i := 19) (v := ?_) rfl (by kernel_rfl) (by kernel_rfl) (by kernel_rfl) (fun _ _ _ h => h) (Or.inl ⟨by first | kernel_rfl | rfl, ?_⟩) (by assumption) ?_
  rotate_left
  · (intro wq hSw; (try dsimp only at hSw); (try simp (maxSteps := 2000000) only [zz1, zz2, zz3]); go_simp); try with_reducible rfl
  try simp (maxSteps := 2000000) only [zz1, zz2, zz3, Act.put, zz4, zz5, zz6]
  refine wpAnyH_take (i := 20) (v := ?_) rfl (by kernel_rfl) (by kernel_rfl) (by kernel_rfl) (fun _ _ _ h => h) (Or.inl ⟨by first | kernel_rfl | rfl, ?_⟩) (by assumption) ?_
  rotate_left
  · (intro wq hSw; (try dsimp only at hSw); (try simp (maxSteps := 2000000) only [zz1, zz2, zz3]); go_simp); try with_reducible rfl
  try simp (maxSteps := 2000000) only [zz1, zz2, zz3, Act.put, zz4, zz5, zz6]
  refine wpAnyH_ready (rs := [10]) (by kernel_rfl) (by simp) ?_
  refine AllReadyH.cons rfl (fun K hK => ?_) AllReadyH.nil
  try simp (maxSteps := 2000000) only [zz1, zz2, zz3]
  go_simp
  go_at_call 68
  refine (hnw _).mono ?_
  clear hnw
  rintro e w5 ⟨a, U, rfl, hA, hU, hb5⟩
  have bG5 := bGd.below hb5
  have s5 : w5.cell? ⟨q, 0, none⟩ = some (.int .i64 (k : Int)) ∧ w5.cell? ⟨q, 1, none⟩ = some (.int .i64 (m : Int)) ∧ w5.cell? ⟨q, 2, none⟩ = some (.int .i64 (f : Int)) ∧ w5.cell? ⟨q, 3, none⟩ = some (.int .i64 (c : Int)) := ⟨bG5.cell 0, bG5.cell 1, bG5.cell 2, bG5.cell 3⟩
  have hw5 : Below w.heap.size w w5 := hd.trans (hb5.mono hd.size)
  have HA5 := Lib.hid hA
  have HU5 := Lib.hid hU
  clear hA hU
  try (go_wp2_with fail)
  refine hK.out _ _ (by first | exact s0 | exact s5 | exact s6 | exact s7 | exact s8) (fun hHeld => ?_)
  clear hK K
  try simp (maxSteps := 2000000) only [zz1, zz2, zz3, Act.put, zz4, zz5, zz6]
  refine wpAnyH_ready (rs := [11]) (by kernel_rfl) (by simp) ?_
  refine AllReadyH.cons rfl (fun K hK => ?_) AllReadyH.nil
  try simp (maxSteps := 2000000) only [zz1, zz2, zz3]
  go_simp
  go_at_call 30
  refine (hfn _).mono ?_
  clear hfn
  rintro e w6 ⟨rfl, hF, hb6⟩
  have bG6 := bG5.below hb6
  have s6 : w6.cell? ⟨q, 0, none⟩ = some (.int .i64 (k : Int)) ∧ w6.cell? ⟨q, 1, none⟩ = some (.int .i64 (m : Int)) ∧ w6.cell? ⟨q, 2, none⟩ = some (.int .i64 (f : Int)) ∧ w6.cell? ⟨q, 3, none⟩ = some (.int .i64 (c : Int)) := ⟨bG6.cell 0, bG6.cell 1, bG6.cell 2, bG6.cell 3⟩
  have hw6 : Below w.heap.size w w6 := hw5.trans (hb6.mono hw5.size)
  have HF6 := Lib.hid hF
  clear hF
  try (go_wp2_with fail)
  refine hK.out _ _ (by first | exact s0 | exact s5 | exact s6 | exact s7 | exact s8) (fun hHeld => ?_)
  clear hK K
  try simp (maxSteps := 2000000) only [zz1, zz2, zz3, Act.put, zz4, zz5, zz6]
  refine wpAnyH_ready (rs := [16]) (by kernel_rfl) (by simp) ?_
  refine AllReadyH.cons rfl (fun K hK => ?_) AllReadyH.nil
  try simp (maxSteps := 2000000) only [zz1, zz2, zz3]
  go_simp
  go_at_call 29
  refine (hcn _ _ w5.heap.size HF6.out (Nat.le_refl _)).mono ?_
  clear hcn
  rintro e w7 ⟨cb, rfl, hC, hkp⟩
  have hk57 : Keep (fun j => w5.heap.size ≤ j) w5 w7 := (Keep.of_below (F := fun j => w5.heap.size ≤ j) hb6).trans hkp (fun j e _ => by rw [e]; exact Nat.le_refl _)
  have hb57 : Below w5.heap.size w5 w7 := hk57.below (Nat.le_refl _) (fun j h => h)
  have bG7 := bG5.below hb57
  have s7 : w7.cell? ⟨q, 0, none⟩ = some (.int .i64 (k : Int)) ∧ w7.cell? ⟨q, 1, none⟩ = some (.int .i64 (m : Int)) ∧ w7.cell? ⟨q, 2, none⟩ = some (.int .i64 (f : Int)) ∧ w7.cell? ⟨q, 3, none⟩ = some (.int .i64 (c : Int)) := ⟨bG7.cell 0, bG7.cell 1, bG7.cell 2, bG7.cell 3⟩
  have hw7 : Below w.heap.size w w7 := hw5.trans (hb57.mono hw5.size)
  have HC7 := Lib.hid hC
  clear hC
  try (go_wp2_with fail)
  refine hK.out _ _ (by first | exact s0 | exact s5 | exact s6 | exact s7 | exact s8) (fun hHeld => ?_)
  clear hK K
  try simp (maxSteps := 2000000) only [zz1, zz2, zz3, Act.put, zz4, zz5, zz6]
  refine wpAnyH_ready (rs := [21]) (by kernel_rfl) (by simp) ?_
  refine AllReadyH.cons rfl (fun K hK => ?_) AllReadyH.nil
  try simp (maxSteps := 2000000) only [zz1, zz2, zz3]
  go_simp
  go_at_call 106
  refine (hpn _).mono ?_
  clear hpn
  rintro e w8 ⟨p, o, l, go, gl, rfl, hP, hPB, hb8⟩
  have bG8 := bG7.below hb8
  have s8 : w8.cell? ⟨q, 0, none⟩ = some (.int .i64 (k : Int)) ∧ w8.cell? ⟨q, 1, none⟩ = some (.int .i64 (m : Int)) ∧ w8.cell? ⟨q, 2, none⟩ = some (.int .i64 (f : Int)) ∧ w8.cell? ⟨q, 3, none⟩ = some (.int .i64 (c : Int)) := ⟨bG8.cell 0, bG8.cell 1, bG8.cell 2, bG8.cell 3⟩
  have hw8 : Below w.heap.size w w8 := hw7.trans (hb8.mono hw7.size)
  have HP8 := Lib.hid hP
  have HPB8 := Lib.hid hPB
  clear hP hPB
  try (go_wp2_with fail)
  refine hK.out _ _ (by first | exact s0 | exact s5 | exact s6 | exact s7 | exact s8) (fun hHeld => ?_)
  clear hK K
  try simp (maxSteps := 2000000) only [zz1, zz2, zz3, Act.put, zz4, zz5, zz6]
  refine wpAnyH_take (i := 22) (v := ?_) rfl (by kernel_rfl) (by kernel_rfl) (by kernel_rfl) (fun _ _ _ h => h) (Or.inl ⟨by first | kernel_rfl | rfl, ?_⟩) (by assumption) ?_
  rotate_left
  · (intro wq hSw; (try dsimp only at hSw); (try simp (maxSteps := 2000000) only [zz1, zz2, zz3]); go_simp); try with_reducible rfl
  try simp (maxSteps := 2000000) only [zz1, zz2, zz3, Act.put, zz4, zz5, zz6]
  refine wpAnyH_take (i := 23) (v := ?_) rfl (by kernel_rfl) (by kernel_rfl) (by kernel_rfl) (fun _ _ _ h => h) (Or.inl ⟨by first | kernel_rfl | rfl, ?_⟩) (by assumption) ?_
  rotate_left
  · (intro wq hSw; (try dsimp only at hSw); (try simp (maxSteps := 2000000) only [zz1, zz2, zz3]); go_simp); try with_reducible rfl
  try simp (maxSteps := 2000000) only [zz1, zz2, zz3, Act.put, zz4, zz5, zz6]
  refine wpAnyH_take (i := 24) (v := ?_) rfl (by kernel_rfl) (by kernel_rfl) (by kernel_rfl) (fun _ _ _ h => h) (Or.inl ⟨by first | kernel_rfl | rfl, ?_⟩) (by assumption) ?_
  rotate_left
  · (intro wq hSw; (try dsimp only at hSw); (try simp (maxSteps := 2000000) only [zz1, zz2, zz3]); go_simp); try with_reducible rfl
  try simp (maxSteps := 2000000) only [zz1, zz2, zz3, Act.put, zz4, zz5, zz6]
  refine wpAnyH_done (by kernel_rfl) ?_ _
  have hsz0 : w.heap.size ≤ wA.drew.heap.size := hd.size
  have hsz5 : w5.heap.size ≤ w7.heap.size := hb57.size
  have hsz7 : w7.heap.size ≤ w8.heap.size := hb8.size
  have hszb : w0.heap.size ≤ w.heap.size := hbel.size
  have hsz05 : w.heap.size ≤ w5.heap.size := hw5.size
  have HFIN := Lib.hid (show MidP (PoolB p o l go gl) (fun j => j < w.heap.size) w0 w8 a cb w5.heap.size k m n (List.replicate N (DSt.new n)) from
    ⟨hbel.trans (hw8.mono hbel.size), ⟨U, fun j => w5.heap.size ≤ j ∧ j < w7.heap.size, (HA5.out.below hb57).below hb8, HC7.out.bound.below hb8,
      fun j hj => by have h1 := HU5.out j hj; omega,
      fun j hj => ⟨fun hu => by have := HA5.out.lt hu; omega, by omega⟩,
      fun j hj => ⟨fun hu => by have := HU5.out j hu; omega, fun hc => by omega, by omega⟩,
      fun j hj => by have h1 := HPB8.out j hj; exact ⟨fun hu => by have := HA5.out.lt hu; omega, fun hc => by omega, by omega, by omega⟩⟩,
      fun j hj hx => by have h1 := HPB8.out j hj; omega, by rw [List.length_replicate, HN.out], HR.out.1, HR.out.2⟩)
  have HB8 := Lib.hid hw8
  clear s0 s5 s6 s7 s8 bG bGd bG5 bG6 bG7 bG8 hHeld hb5 hb6 hkp hk57 hb57 hb8 hw5 hw6 hw7 hw8 hd hb0
  go_wp2_with fail
  go_ret3
  exact ⟨a, cb, _, p, o, l, go, gl, rfl, by rw [HN.out, Hn.out]; exact HFIN.out, HP8.out, HB8.out⟩
end Go.Proofs.YtcliejdiaohamaaGreat

set_option linter.unusedSimpArgs false
set_option linter.unusedVariables false
namespace Go.Proofs.YtcliejdiaohamaaGreat
open Go.RowKit Go.Cib
attribute [local go_sem] cell_set Later.cell Later.frozen Grw.cell Grw.frozen
def blob0 : Value := .agg #[.slice none 0 0, .int .u64 0, .int .i64 0]
section
variable {P X S : Nat → Prop} {w0 w w' : World} {a p o l go gl ep ct fs n np cb bf k m : Nat} {wo wl : List Nat} {sts : List DSt}
set_option maxRecDepth 100000 in
set_option maxHeartbeats 8000000 in
theorem taken_bad (h : CodAt w cb bf k m) (hP : PoolAt w p o l go gl ep ct fs n wo wl) {size : Nat} (hs : size ≤ 100000) (hfr : freeN wo n < cntN k size) :
    Calls Tryz.prog 109 #[.pointer (some ⟨cb, 0, none⟩), .pointer (some ⟨p, 0, none⟩), .int .i64 (size : Int)] w fun e w' => e = .returned (.tuple #[blob0, .int .i64 140]) ∧ Below w.heap.size w w' := by
  have hb0 : Below w.heap.size w (w.alloc (.cells #[.slice none 0 0, .int .u64 0, .int .i64 0] 61)) := (Below.refl _ _).alloc (Nat.le_refl _) _
  have bB := BoxAt.new w #[.slice none 0 0, .int .u64 0, .int .i64 0] 61
  obtain ⟨w1, hw1⟩ : ∃ w1, w.alloc (.cells #[.slice none 0 0, .int .u64 0, .int .i64 0] 61) = w1 := ⟨_, rfl⟩
  obtain ⟨q, hq⟩ : ∃ q, w.heap.size = q := ⟨_, rfl⟩
  rw [hw1] at hb0 bB
  rw [hq] at bB
  have hcn := bcnt_any (h.below hb0) (size := (size : Int)) (Lib.hid (by omega))
  rw [cntI_nat h.k1] at hcn
  obtain ⟨M, hM⟩ : ∃ M, cntN k size = M := ⟨_, rfl⟩
  rw [hM] at hcn hfr
  have hP1 := hP.below hb0
  have htk := ptake_bad hP1 hfr
  have HB0 := Lib.hid hb0
  have BB := Lib.hid bB
  have HQ := Lib.hid hq
  clear h hP hP1 hfr hM hb0 bB
  go_enter Tryz.func109, Tryz.ntmps109
  go_wp2_with fail
  refine hcn.mono ?_
  clear hcn
  rintro e w2 ⟨rfl, hw2⟩
  rw [hw2]
  clear hw2
  go_wp2_with fail
  refine htk.mono ?_
  clear htk hw1
  rintro e w3 ⟨rfl, hb3⟩
  have bB3 := BB.out.below hb3
  have k0 := bB3.cell 0
  have k1 := bB3.cell 1
  have k2 := bB3.cell 2
  have z0 := bB3.frozen 0
  have z1 := bB3.frozen 1
  have z2 := bB3.frozen 2
  have HB3 := Lib.hid (HB0.out.trans (hb3.mono HB0.out.size))
  clear bB3 hb3
  go_wp2_with fail
  refine bodyPost_ret (v := .tuple #[.agg #[.slice none 0 0, .int .u64 0, .int .i64 0], .int .i64 140]) (by simp [results, Tryz.results109, go_sem, *]) rfl ?_
  refine ⟨rfl, ?_⟩
  exact ((HB3.out.setCell (p := ⟨q, 0, none⟩) (by show w.heap.size ≤ q; rw [HQ.out]; exact Nat.le_refl _) _).setCell (p := ⟨q, 1, none⟩) (by show w.heap.size ≤ q; rw [HQ.out]; exact Nat.le_refl _) _).setCell (p := ⟨q, 2, none⟩) (by show w.heap.size ≤ q; rw [HQ.out]; exact Nat.le_refl _) _
set_option maxRecDepth 100000 in
set_option maxHeartbeats 16000000 in
/-- No room: no blob, and all is as it was. -/
theorem bput_bad (h : MidP P X w0 w a cb bf k m n sts) (hP : PoolAt w p o l go gl ep ct fs np wo wl) {A : Option Addr} {size cx : Nat} {xs : List Nat} (R : RdL ByR 1 S w A size xs) (hs : size ≤ 400) (hfr : freeN wo np < cntN k size) :
    Calls Tryz.prog 40 #[.pointer (some ⟨a, 0, none⟩), .pointer (some ⟨cb, 0, none⟩), .pointer (some ⟨p, 0, none⟩), .slice A size cx] w fun e w' => e = .returned (.tuple #[blob0, .int .i64 140]) ∧ Below w.heap.size w w' := by
  have hpos := h.pos
  have hb0 : Below w.heap.size w (w.alloc (.cells #[.slice none 0 0, .int .u64 0, .int .i64 0] 61)) := (Below.refl _ _).alloc (Nat.le_refl _) _
  have bB := BoxAt.new w #[.slice none 0 0, .int .u64 0, .int .i64 0] 61
  obtain ⟨w1, hw1⟩ : ∃ w1, w.alloc (.cells #[.slice none 0 0, .int .u64 0, .int .i64 0] 61) = w1 := ⟨_, rfl⟩
  obtain ⟨q, hq⟩ : ∃ q, w.heap.size = q := ⟨_, rfl⟩
  rw [hw1] at hb0 bB
  rw [hq] at bB
  have hM1 := h.below hb0
  have hP1 := hP.below hb0
  have han := an_p hM1
  have HB0 := Lib.hid hb0
  have BB := Lib.hid bB
  have HQ := Lib.hid hq
  have q0 : (0 : Int) ≤ (size : Int) := Int.natCast_nonneg _
  have q1 : (size : Int) ≤ 400 := by omega
  obtain ⟨N, hN⟩ : ∃ N, k + m = N := ⟨_, rfl⟩
  have hcn := fun (w2 : World) (hb : Below w1.heap.size w1 w2) => cn_any (hM1.cod.below hb)
  have hpc := fun (w2 : World) (hb : Below w1.heap.size w1 w2) => pcopy_any (hP1.below hb)
  have htk := fun (w2 : World) (hb : Below w1.heap.size w1 w2) => taken_bad (hM1.cod.below hb) (hP1.below hb) (size := size) (by omega) hfr
  rw [hN] at han hcn
  have e0 : ((N : Int) == 0) = false := by simp; omega
  have HCN := Lib.hid hcn
  have HPC := Lib.hid hpc
  have HTK := Lib.hid htk
  clear h hP hM1 hP1 hb0 bB hcn hpc htk hN R hfr
  go_enter Tryz.func40, Tryz.ntmps40
  go_wp2_with fail
  refine han.mono ?_
  clear han hw1
  rintro e w2 ⟨rfl, hb2⟩
  have hcn2 := HCN.out w2 hb2
  have HB2 := Lib.hid hb2
  clear hb2
  go_wp2_with fail
  refine hcn2.mono ?_
  clear hcn2
  rintro e w3 ⟨rfl, hb3⟩
  have HB3 := Lib.hid (HB2.out.trans (hb3.mono HB2.out.size))
  have hpc3 := HPC.out w3 HB3.out
  clear hb3 HB2
  go_wp2_with fail
  refine hpc3.mono ?_
  clear hpc3
  rintro e w4 ⟨zc, rfl, hb4⟩
  have HB4 := Lib.hid (HB3.out.trans (hb4.mono HB3.out.size))
  have htk4 := HTK.out w4 HB4.out
  clear hb4 HB3
  go_wp2_with fail
  refine htk4.mono ?_
  clear htk4
  rintro e w5 ⟨rfl, hb5⟩
  have HB5 := Lib.hid (HB4.out.trans (hb5.mono HB4.out.size))
  have bB5 := BB.out.below HB5.out
  have k0 := bB5.cell 0
  have k1 := bB5.cell 1
  have k2 := bB5.cell 2
  have z0 := bB5.frozen 0
  have z1 := bB5.frozen 1
  have z2 := bB5.frozen 2
  have HW5 := Lib.hid (HB0.out.trans (HB5.out.mono HB0.out.size))
  have hql : q < w5.heap.size := bB5.lt
  clear bB5 hb5 HB4
  unfold blob0
  go_wp2_with fail
  refine bodyPost_ret (v := .tuple #[.agg #[.slice none 0 0, .int .u64 0, .int .i64 0], .int .i64 140]) (by simp [results, Tryz.results40, go_sem, *]) rfl ?_
  have hq0 : w.heap.size ≤ q := by rw [HQ.out]; exact Nat.le_refl _
  have hq5 : w.heap.size ≤ w5.heap.size := HW5.out.size
  refine ⟨rfl, ?_⟩
  have h3 := ((HW5.out.setCell (p := ⟨q, 0, none⟩) hq0 (.slice none 0 0)).setCell (p := ⟨q, 1, none⟩) hq0 (.int .u64 0)).setCell (p := ⟨q, 2, none⟩) hq0 (.int .i64 0)
  exact h3.alloc h3.size _
end
end Go.Proofs.YtcliejdiaohamaaGreat

set_option linter.unusedSimpArgs false
set_option linter.unusedVariables false
namespace Go.Proofs.YtcliejdiaohamaaGreat
open Go.RowKit Go.Cib
attribute [local go_sem] cell_set Later.cell Later.frozen Grw.cell Grw.frozen
theorem tk_setW {n : Nat} {ws : List Nat} (h : WordsOk n ws) {i : Nat} (hi : i < n) (j : Nat) : tk (setW n ws (i : Int) true) j = (tk ws j || decide (j = i)) := by
  have hl : i / 64 < ws.length := (List.getElem?_eq_some_iff.1 (wd_at h hi)).1
  have hr : decide (0 ≤ (i : Int) ∧ (i : Int) < (n : Int)) = true := decide_eq_true ⟨Int.natCast_nonneg _, by omega⟩
  unfold setW setB
  rw [hr, Int.toNat_natCast]
  cases ht : tk ws i with
  | true =>
    rw [if_neg (by decide)]
    by_cases e : j = i
    · subst e; rw [ht]; simp
    · simp [e]
  | false =>
    rw [if_pos (by decide), tk_flip hl]
    by_cases e : j = i
    · subst e; rw [if_pos rfl, ht]; simp
    · rw [if_neg e]; simp [e]
theorem setW_ok {n : Nat} {ws : List Nat} (h : WordsOk n ws) {i : Nat} (hi : i < n) (on : Bool) : WordsOk n (setW n ws (i : Int) on) := by
  unfold setW
  split
  · rw [Int.toNat_natCast]; exact flip_ok h hi
  · exact h
theorem tk_takeW {n : Nat} : ∀ (l : List Nat) {ws : List Nat} (_ : WordsOk n ws) (_ : ∀ i ∈ l, i < n) (j : Nat), tk (takeW n ws (l.map fun i : Nat => (i : Int))) j = (tk ws j || decide (j ∈ l))
  | [], ws, h, hl, j => by simp [takeW]
  | x :: l, ws, h, hl, j => by
    have hx : x < n := hl x (by simp)
    rw [List.map_cons, takeW, tk_takeW l (setW_ok h hx true) (fun i hi => hl i (List.mem_cons_of_mem _ hi)), tk_setW h hx]
    cases tk ws j <;> by_cases e : j = x <;> simp [e]
theorem freeL_lt {ws : List Nat} {n i : Nat} (h : i ∈ freeL ws n) : i < n := List.mem_range.1 (List.mem_filter.1 h).1
theorem freeL_nd (ws : List Nat) (n : Nat) : (freeL ws n).Nodup := List.nodup_range.filter _
theorem filter_drop {L : List Nat} (hn : L.Nodup) (m : Nat) : L.filter (fun j => !decide (j ∈ L.take m)) = L.drop m := by
  have e : L = L.take m ++ L.drop m := (List.take_append_drop m L).symm
  have hd : ∀ a ∈ L.take m, ∀ b ∈ L.drop m, a ≠ b := by
    have h2 := hn
    rw [e] at h2
    exact (List.nodup_append.1 h2).2.2
  obtain ⟨T, hT⟩ : ∃ T, L.take m = T := ⟨_, rfl⟩
  obtain ⟨D, hD⟩ : ∃ D, L.drop m = D := ⟨_, rfl⟩
  rw [hT, hD] at e hd
  rw [hT, hD, e, List.filter_append, List.filter_eq_nil_iff.2 (fun a ha => by simp [ha]), List.filter_eq_self.2 (fun a ha => by
    simp only [Bool.not_eq_true', decide_eq_false_iff_not]
    exact fun h => hd a h a ha rfl)]
  rfl
theorem free_take {n : Nat} {ws : List Nat} (h : WordsOk n ws) (m : Nat) : freeL (takeW n ws ((frI ws n).take m)) n = (freeL ws n).drop m := by
  rw [← filter_drop (freeL_nd ws n) m]
  unfold frI
  rw [← List.map_take]
  have ht : ∀ i ∈ (freeL ws n).take m, i < n := fun i hi => freeL_lt (List.mem_of_mem_take hi)
  obtain ⟨T, hT⟩ : ∃ T, (freeL ws n).take m = T := ⟨_, rfl⟩
  rw [hT] at ht ⊢
  unfold freeL
  rw [List.filter_filter]
  refine List.filter_congr fun j hj => ?_
  rw [tk_takeW T h ht]
  cases tk ws j <;> simp
/-- Places that follow each other. -/
def plL (a M : Nat) : List Int := (List.range M).map fun i : Nat => ((a + i : Nat) : Int)
theorem plL_len (a M : Nat) : (plL a M).length = M := by unfold plL; simp
theorem plL_at {a M i : Nat} (h : i < M) : (plL a M).getD i 0 = ((a + i : Nat) : Int) := by
  unfold plL
  simp [List.getD_eq_getElem?_getD, h]
theorem plL_mem {a M : Nat} {x : Int} (h : x ∈ plL a M) : ∃ i, i < M ∧ x = ((a + i : Nat) : Int) := by
  unfold plL at h
  obtain ⟨i, hi, rfl⟩ := List.mem_map.1 h
  exact ⟨i, List.mem_range.1 hi, rfl⟩
theorem pl_of {wo : List Nat} {np t M fs : Nat} (h : freeL wo np = (List.range np).drop t) (hM : t + M ≤ np) : (((frI wo np).take M).map fun x => x + (fs : Int)) = plL (fs + t) M := by
  unfold frI plL
  rw [h, ← List.map_take, List.map_map]
  apply List.ext_getElem?
  intro i
  simp only [List.getElem?_map, List.getElem?_take, List.getElem?_drop, List.getElem?_range]
  by_cases hi : i < M
  · rw [if_pos hi, List.getElem?_range (by omega), List.getElem?_range hi]
    simp only [Option.map_some, Function.comp]
    congr 1
    push_cast
    omega
  · rw [if_neg hi, List.getElem?_eq_none (by rw [List.length_range]; omega)]
    rfl
theorem free_next {wo : List Nat} {np t M : Nat} (hw : WordsOk np wo) (h : freeL wo np = (List.range np).drop t) : freeL (takeW np wo ((frI wo np).take M)) np = (List.range np).drop (t + M) := by
  rw [free_take hw, h, List.drop_drop]
theorem free_new (m n : Nat) : freeL (List.replicate m 0) n = (List.range n).drop 0 := by
  unfold freeL
  rw [List.drop_zero]
  exact List.filter_eq_self.2 fun i _ => by rw [tk_new]; rfl
theorem free_cnt {wo : List Nat} {np t : Nat} (h : freeL wo np = (List.range np).drop t) : freeN wo np = np - t ∧ (freeL wo np).length = np - t := by
  have h1 := freeL_len wo np
  have h2 : (freeL wo np).length = np - t := by rw [h]; simp
  unfold freeN
  exact ⟨by omega, h2⟩
/-! ### Drives that are all alive -/
def Alv (n : Nat) (sts : List DSt) : Prop := ∀ st ∈ sts, st.dead = false ∧ st.ok n
section
variable {g : Nat → Bool} {n k N a G M0 : Nat} {xs : List Nat} {sts : List DSt}
theorem Alv.live (h : Alv n sts) {d : Nat} (hd : d < sts.length) : deadL sts d = false := by
  unfold deadL
  rw [List.getElem?_eq_getElem hd]
  exact (h _ (List.getElem_mem hd)).1
theorem Alv.new (n N : Nat) : Alv n (newS n N) := fun st hst => by
  obtain ⟨d, hd, rfl⟩ := List.mem_iff_getElem.1 hst
  rw [(newS_at (List.getElem?_eq_getElem hd)).1]
  exact ⟨rfl, DSt.ok.new n⟩
theorem Alv.count (h : Alv n sts) : cnt (aliveL sts) = sts.length := by
  have e : aliveL sts = List.replicate sts.length true := by
    unfold aliveL
    apply List.ext_getElem?
    intro d
    rw [List.getElem?_map, List.getElem?_replicate]
    by_cases hd : d < sts.length
    · rw [if_pos hd, List.getElem?_eq_getElem hd]
      simp [(h _ (List.getElem_mem hd)).1]
    · rw [if_neg hd, List.getElem?_eq_none (by omega)]; rfl
  rw [e]
  unfold cnt
  simp
theorem Alv.flush (h : Alv n sts) : Alv n (sts.map flushG) := fun st hst => by
  obtain ⟨s1, h1, rfl⟩ := List.mem_map.1 hst
  exact ⟨by rw [flushG_dead]; exact (h s1 h1).1, flushG_ok (h s1 h1).2⟩
theorem Alv.put (h : Alv n sts) {r : Ref} (hr : r.ok n) (hx : Byt xs) : Alv n (sts.mapIdx (putQ n k N r xs)) := fun st hst => by
  obtain ⟨d, hd⟩ := List.getElem?_of_mem hst
  obtain ⟨s1, h1, rfl⟩ := mapIdx_at hd
  obtain ⟨a1, a2⟩ := h s1 (List.mem_of_getElem? h1)
  rw [putQ_live hr hx a1]
  exact ⟨a1, a2.write (wrI_len (x := putX k N r xs d) (row44 hx k _).1) ⟨Int.natCast_nonneg _, by have := hr.p; omega⟩⟩
theorem bRef_pl {M i : Nat} (h : i < M) : bRef (plL a M) G i = ⟨3, a + i, G + i⟩ := by
  unfold bRef
  rw [plL_at h, Int.toNat_natCast]
theorem bPc_byt (hx : Byt xs) (i : Nat) : Byt (bPc k xs i) := fun x h => hx x (List.mem_of_mem_drop (List.mem_of_mem_take h))
theorem ref3_in {p z : Nat} (h : p < n) : Ref.ok ⟨3, p, z⟩ n := ⟨(by decide : 1 ≤ 3), (by decide : 3 ≤ 4), h⟩
theorem putB_alv (h : Alv n sts) (hx : Byt xs) {M : Nat} (ha : a + M ≤ n) : ∀ i, i ≤ M → Alv n (putB n k N (plL a M) G xs sts i)
  | 0, _ => h
  | i + 1, hi => by
    rw [putB, bRef_pl (by omega)]
    exact (putB_alv h hx ha i (by omega)).put (ref3_in (by omega)) (bPc_byt hx i)
theorem putB_old {r : Ref} {ys : List Nat} (h : Hds g k N r ys sts) (hx : Byt xs) {M : Nat} (ha : a + M ≤ n) (hd : r.place < a ∨ a + M ≤ r.place) : ∀ i, i ≤ M → Hds g k N r ys (putB n k N (plL a M) G xs sts i)
  | 0, _ => h
  | i + 1, hi => by
    rw [putB, bRef_pl (by omega)]
    exact (putB_old h hx ha hd i (by omega)).put (n := n) (ref3_in (by omega)) (bPc_byt hx i) (by show a + i ≠ r.place; omega)
theorem putB_new (h : Alv n sts) (hx : Byt xs) {M : Nat} (ha : a + M ≤ n) : ∀ i, i ≤ M → ∀ t, t < i → Hds (fun _ => true) k N ⟨3, a + t, G + t⟩ (bPc k xs t) (putB n k N (plL a M) G xs sts i)
  | 0, _, t, ht => absurd ht (by omega)
  | i + 1, hi, t, ht => by
    have hA := putB_alv (k := k) (N := N) (G := G) h hx ha i (by omega)
    rw [putB, bRef_pl (by omega)]
    by_cases e : t = i
    · subst e
      refine (Hds.new (n := n) (ref3_in (by omega)) (bPc_byt hx t) (fun st hst hd => by rw [(hA st hst).1] at hd; cases hd)).congr fun d hd => ?_
      rw [List.length_mapIdx] at hd
      rw [hA.live hd]; rfl
    · exact (putB_new h hx ha i (by omega) t (by omega)).put (n := n) (ref3_in (by omega)) (bPc_byt hx i) (by show a + i ≠ a + t; omega)
/-- A value lies on the drives g. -/
def HdB (g : Nat → Bool) (k N a G M : Nat) (xs : List Nat) (sts : List DSt) : Prop := ∀ t, t < M → Hds g k N ⟨3, a + t, G + t⟩ (bPc k xs t) sts
theorem HdB.put (h : HdB g k N a G M0 xs sts) {ys : List Nat} (hy : Byt ys) {b H M : Nat} (hb : b + M ≤ n) (hd : a + M0 ≤ b) : HdB g k N a G M0 xs (putB n k N (plL b M) H ys sts M) := fun t ht =>
  putB_old (h t ht) hy hb (.inl (by show a + t < b; omega)) M (Nat.le_refl _)
theorem HdB.new (h : Alv n sts) (hx : Byt xs) {M : Nat} (ha : a + M ≤ n) : HdB (fun _ => true) k N a G M xs (putB n k N (plL a M) G xs sts M) := fun t ht => putB_new h hx ha M (Nat.le_refl _) t ht
theorem HdB.flush (h : HdB g k N a G M0 xs sts) (ha : a + M0 ≤ n) (hA : Alv n sts) : HdB g k N a G M0 xs (sts.map flushG) := fun t ht => (h t ht).flush (n := n) (ref3_in (by omega)) fun st hst => (hA st hst).2
theorem HdB.fail (h : HdB g k N a G M0 xs sts) (ha : a + M0 ≤ n) (x : Int) : HdB (butB g x) k N a G M0 xs (failA n sts x) := fun t ht => (h t ht).fail (ref3_in (by omega)) x
theorem HdB.refs (h : HdB g k N a G M0 xs sts) : ∀ i, i < M0 → Hds g k N (bRef (plL a M0) G i) (bPc k xs i) sts := fun i hi => by rw [bRef_pl hi]; exact h i hi
end
end Go.Proofs.YtcliejdiaohamaaGreat

set_option linter.unusedSimpArgs false
set_option linter.unusedVariables false
namespace Go.Proofs.YtcliejdiaohamaaGreat
open Go.RowKit Go.Cib
attribute [local go_sem] cell_set Later.cell Later.frozen Grw.cell Grw.frozen
section
variable {P X S : Nat → Prop} {w0 w w' : World} {a p o l go gl ep ct fs np n cb bf k m t : Nat} {wo wl : List Nat} {sts : List DSt}
/-- The pool, of which the first t places are taken. -/
def PoolT (w : World) (p o l go gl ct fs np t : Nat) : Prop := ∃ wo wl, PoolAt w p o l go gl 0 ct fs np wo wl ∧ freeL wo np = (List.range np).drop t
theorem PoolT.below (h : PoolT w p o l go gl ct fs np t) (hb : Below w.heap.size w w') : PoolT w' p o l go gl ct fs np t := by
  obtain ⟨wo, wl, h1, h2⟩ := h
  exact ⟨wo, wl, h1.below hb, h2⟩
theorem PoolT.keep {F : Nat → Prop} (h : PoolT w p o l go gl ct fs np t) (hK : Keep F w w') (hF : ∀ j, PoolB p o l go gl j → ¬ F j) : PoolT w' p o l go gl ct fs np t := by
  obtain ⟨wo, wl, h1, h2⟩ := h
  exact ⟨wo, wl, h1.keep hK hF, h2⟩
theorem PoolT.kp {X : Nat → Prop} (h : PoolT w p o l go gl ct fs np t) (hK : KpX X w w') (hX : ∀ j, PoolB p o l go gl j → X j) : PoolT w' p o l go gl ct fs np t := by
  obtain ⟨wo, wl, h1, h2⟩ := h
  exact ⟨wo, wl, h1.kp hK.1 hX, h2⟩
theorem PoolT.free (h : PoolT w p o l go gl ct fs np t) : Calls Tryz.prog 42 #[.pointer (some ⟨p, 0, none⟩)] w fun e w' => e = .returned (.int .i64 (np - t : Nat)) ∧ Below w.heap.size w w' := by
  obtain ⟨wo, wl, h1, h2⟩ := h
  have h3 := pfree_any h1
  rw [(free_cnt h2).1] at h3
  exact h3
theorem bput_at (h : MidP P X w0 w a cb bf k m n sts) (hP : PoolT w p o l go gl ct fs np t) (hPB : ∀ j, PoolB p o l go gl j → P j) {A : Option Addr} {size cx : Nat} {xs : List Nat} (R : RdL ByR 1 S w A size xs) (hSX : ∀ j, S j → X j) (hcx : size ≤ cx) (hs : size ≤ 400) (hct : ct + cntN k size ≤ 1048576) (ht : t + cntN k size ≤ np) (hnp : fs + np ≤ n) (hcl : ∀ st ∈ sts, st.cache.length < 800000) :
    Calls Tryz.prog 40 #[.pointer (some ⟨a, 0, none⟩), .pointer (some ⟨cb, 0, none⟩), .pointer (some ⟨p, 0, none⟩), .slice A size cx] w fun e w' => ∃ A c S', e = .returned (.tuple #[.agg (blobC A (cntN k size) c (ct : Int) (size : Int)), .int .i64 0]) ∧ cntN k size ≤ c ∧ RdL IntR 1 S' w' A (cntN k size) (plL (fs + t) (cntN k size)) ∧ (∀ j, S' j → w.heap.size ≤ j ∧ j < w'.heap.size) ∧
      PoolT w' p o l go gl (ct + cntN k size) fs np (t + cntN k size) ∧ MidP P (fun j => X j ∨ S' j) w0 w' a cb bf k m n (putB n k (k + m) (plL (fs + t) (cntN k size)) ct xs sts (cntN k size)) ∧ KpX X w w' := by
  obtain ⟨wo, wl, h1, h2⟩ := hP
  have hc := free_cnt h2
  refine (bput_any h h1 hPB R hSX hcx hs (by omega) hct (by omega) hnp hcl).mono ?_
  rintro e w' ⟨A', c, S', rfl, hc', hr, hS, hP', hM', hK⟩
  rw [pl_of h2 ht, Nat.zero_mul, Nat.zero_add] at hM'
  rw [pl_of h2 ht] at hr
  rw [Nat.zero_mul, Nat.zero_add]
  exact ⟨A', c, S', rfl, hc', hr, hS, ⟨_, _, hP', free_next h1.out.ok h2⟩, hM', hK⟩
theorem bput_full (h : MidP P X w0 w a cb bf k m n sts) (hP : PoolT w p o l go gl ct fs np t) {A : Option Addr} {size cx : Nat} {xs : List Nat} (R : RdL ByR 1 S w A size xs) (hs : size ≤ 400) (ht : np - t < cntN k size) :
    Calls Tryz.prog 40 #[.pointer (some ⟨a, 0, none⟩), .pointer (some ⟨cb, 0, none⟩), .pointer (some ⟨p, 0, none⟩), .slice A size cx] w fun e w' => e = .returned (.tuple #[blob0, .int .i64 140]) ∧ Below w.heap.size w w' := by
  obtain ⟨wo, wl, h1, h2⟩ := hP
  exact bput_bad h h1 R hs (by rw [(free_cnt h2).1]; exact ht)
theorem PoolT.new {w : World} {p o l go gl f c M : Nat} (h : PoolAt w p o l go gl 0 0 f c (List.replicate M 0) (List.replicate M 0)) : PoolT w p o l go gl 0 f c 0 := ⟨_, _, h, free_new M c⟩
end
end Go.Proofs.YtcliejdiaohamaaGreat

set_option linter.unusedSimpArgs false
set_option linter.unusedVariables false
namespace Go.Proofs.YtcliejdiaohamaaGreat
open Go.RowKit Go.Cib
attribute [local go_sem] cell_set Later.cell Later.frozen Grw.cell Grw.frozen
section
variable {P X Y : Nat → Prop} {w0 w w' : World} {a cb bf k m n : Nat} {sts : List DSt}
theorem _root_.Go.Cib.OwnL.kp {T : Type} {R : (Nat → Prop) → World → List Value → T → Prop} {E : TypeId} {s base n : Nat} {S S' : Nat → Prop} {v : Value} {xs : List T} (hR : Stable R) (h : OwnL R E s base S w v n xs) (hk : KpX X w w')
    (hv : ∀ g, v.ownBlock = some g → X g) (hS : ∀ b, S b → b < w.heap.size → X b ∧ S' b) : OwnL R E s base S' w' v n xs := by
  obtain ⟨css, h1, h2, h3, h4, h5⟩ := h
  refine ⟨css, ⟨h1.1, ?_⟩, h2, h3, h4, fun i cs x hc hx => ?_⟩
  · rcases h1.2 with h | ⟨g, cap, cur, rfl, g1, g2, g3⟩
    · exact .inl h
    · exact .inr ⟨g, cap, cur, rfl, g1, (hk.1 g (hv g rfl)).trans g2, g3⟩
  · exact hR _ _ _ _ _ _ (h5 i cs x hc hx) fun b hb hl => ⟨⟨(hS b hb.1 hl).2, hb.2⟩, hk.1 b (hS b hb.1 hl).1⟩
theorem _root_.Go.Cib.OwnL.wk {T : Type} {R : (Nat → Prop) → World → List Value → T → Prop} {E : TypeId} {s base n : Nat} {S S' : Nat → Prop} {v : Value} {xs : List T} (hR : Stable R) (h : OwnL R E s base S w v n xs) (hS : ∀ b, S b → S' b) : OwnL R E s base S' w v n xs :=
  h.kp hR (X := fun _ => True) KpX.refl (fun _ _ => trivial) fun b hb _ => ⟨trivial, hS b hb⟩
/-- A block of X's is written; what is new stays, too. -/
theorem MidP.ownN {F : Nat → Prop} (h : MidP P X w0 w a cb bf k m n sts) (hK : Keep F w w') (hF : ∀ j, F j → X j ∧ w0.heap.size ≤ j) : MidP P (fun j => X j ∨ (w.heap.size ≤ j ∧ j < w'.heap.size)) w0 w' a cb bf k m n sts := by
  have hAw := h.2.1
  obtain ⟨U2, C2, hA2, hC2, hU2, hd2, hx2, hp2⟩ := hAw
  obtain ⟨g0, _, gpx, gl, g1, g2⟩ := h
  have hs := hK.size
  refine ⟨g0.trans (hK.below g0.size (fun j hj => (hF j hj).2)), ⟨U2, C2, hA2.keep hK (fun j hj hf => (hx2 j (hF j hf).1).1 hj), hC2.keep hK (fun j hj hf => (hx2 j (hF j hf).1).2.1 hj), hU2, fun j hj => ⟨(hd2 j hj).1, Nat.lt_of_lt_of_le (hd2 j hj).2 hs⟩, fun j hj => ?_, fun j hj => ⟨(hp2 j hj).1, (hp2 j hj).2.1, Nat.lt_of_lt_of_le (hp2 j hj).2.2.1 hs, (hp2 j hj).2.2.2⟩⟩, fun j hj hxj => ?_, gl, g1, g2⟩
  · rcases hj with hj | hj
    · exact ⟨(hx2 j hj).1, (hx2 j hj).2.1, Nat.lt_of_lt_of_le (hx2 j hj).2.2 hs⟩
    · exact ⟨fun hu => by have := hA2.lt hu; omega, fun hc => by have := (hd2 j hc).2; omega, hj.2⟩
  · rcases hxj with hxj | hxj
    · exact gpx j hj hxj
    · have := (hp2 j hj).2.2.1; omega
end
/-- A value that was put: the first of its places (from the pool's first), and its bytes. -/
def KbR (k f : Nat) (S : Nat → Prop) (w : World) (cs : List Value) (x : Nat × List Nat) : Prop := ∃ A c, cs = [.slice A (cntN k x.2.length) c, .int .u64 (x.1 : Int), .int .i64 (x.2.length : Int)] ∧ cntN k x.2.length ≤ c ∧ RdL IntR 1 S w A (cntN k x.2.length) (plL (f + x.1) (cntN k x.2.length))
theorem KbR.stable {k f : Nat} : Stable (KbR k f) := fun _ _ _ _ _ _ ⟨A, c, h1, h2, h3⟩ hk => ⟨A, c, h1, h2, h3.stable IntR.stable hk⟩
theorem KbR.one {k f : Nat} : ∀ S w cs x, KbR k f S w cs x → ∀ u ∈ cs, u.oneCell' = true := by
  rintro S w cs x ⟨A, c, rfl, _, _⟩ u hu
  simp at hu
  rcases hu with rfl | rfl | rfl <;> rfl
theorem sl_blob : SlTy Tryz.prog 96 61 (.agg #[.slice none 0 0, .int .u64 0, .int .i64 0]) 3 40 := ⟨by kernel_rfl, by kernel_rfl, rfl, by decide⟩
structure Bks (k f B b : Nat) (X : Nat → Prop) (w : World) (va vh : Value) (na nh : Nat) (ka : List (Nat × List Nat)) (kh : List (List Nat)) : Prop where
  oa : OwnL (KbR k f) 61 3 b (fun j => X j ∧ some j ≠ vh.ownBlock) w va na ka
  oh : OwnL RowR 80 1 b (fun j => j < B) w vh nh kh
  ne : va.ownBlock = none ∨ va.ownBlock ≠ vh.ownBlock
  xa : ∀ g, va.ownBlock = some g → X g
  xh : ∀ g, vh.ownBlock = some g → X g
  xb : ∀ j, j < B → X j
  bb : B ≤ b
section
variable {k f B b na nh : Nat} {X Y : Nat → Prop} {w w' : World} {va vh : Value} {ka : List (Nat × List Nat)} {kh : List (List Nat)}
theorem Bks.nil (hB : B ≤ b) : Bks k f B b (fun j => j < B) w (.slice none 0 0) (.slice none 0 0) 0 0 [] [] where
  oa := OwnL.nil_
  oh := OwnL.nil_
  ne := .inl rfl
  xa g hg := by cases hg
  xh g hg := by cases hg
  xb j hj := hj
  bb := hB
theorem Bks.kp (h : Bks k f B b X w va vh na nh ka kh) (hK : KpX X w w') (hY : ∀ j, X j → Y j) : Bks k f B b Y w' va vh na nh ka kh where
  oa := h.oa.kp KbR.stable hK h.xa fun j hj _ => ⟨hj.1, hY j hj.1, hj.2⟩
  oh := h.oh.kp RowR.stable hK h.xh fun j hj _ => ⟨h.xb j hj, hj⟩
  ne := h.ne
  xa g hg := hY g (h.xa g hg)
  xh g hg := hY g (h.xh g hg)
  xb j hj := hY j (h.xb j hj)
  bb := h.bb
theorem Bks.pushA (h : Bks k f B b X w va vh na nh ka kh) (u : Grw va.ownBlock w) {va' : Value} {na' : Nat} {ka' : List (Nat × List Nat)} (h1 : OwnL (KbR k f) 61 3 b (fun j => X j ∧ some j ≠ vh.ownBlock) u.to va' na' ka')
    (hat : va'.ownBlock = va.ownBlock ∨ va'.ownBlock = some (w.heap.size + 1)) (hbw : B ≤ w.heap.size) : Bks k f B b (fun j => X j ∨ (w.heap.size ≤ j ∧ j < u.to.heap.size)) u.to va' vh na' nh ka' kh := by
  have hlh := h.oh.lt
  have hla := h.oa.lt
  have hl1 := h1.lt
  have hK : KpX (fun j => j < w.heap.size ∧ some j ≠ va.ownBlock) w u.to := ⟨fun j hj => u.ok.block j hj.1 hj.2, u.ok.size⟩
  refine ⟨h1.wk KbR.stable fun j hj => ⟨.inl hj.1, hj.2⟩, h.oh.kp RowR.stable hK (fun g hg => ⟨(hlh g hg).2, fun e => ?_⟩) (fun j hj hl => ⟨⟨hl, fun e => ?_⟩, hj⟩), ?_, fun g hg => ?_, fun g hg => .inl (h.xh g hg), fun j hj => .inl (h.xb j hj), h.bb⟩
  · rcases h.ne with h2 | h2
    · rw [h2] at e; cases e
    · exact h2 (e.symm.trans hg.symm)
  · have h2 := (hla j e.symm).1
    have h3 : j < B := hj
    have := h.bb
    omega
  · rcases hat with e | e
    · rw [e]; exact h.ne
    · refine .inr fun e2 => ?_
      have := (hlh (w.heap.size + 1) (by rw [← e2, e])).2
      omega
  · rcases hat with e | e
    · exact .inl (h.xa g (by rw [← e]; exact hg))
    · have h2 : g = w.heap.size + 1 := by rw [e] at hg; exact (Option.some.inj hg).symm
      exact .inr ⟨by omega, (hl1 g hg).2⟩
theorem Bks.pushH (h : Bks k f B b X w va vh na nh ka kh) (u : Grw vh.ownBlock w) {vh' : Value} {nh' : Nat} {kh' : List (List Nat)} (h1 : OwnL RowR 80 1 b (fun j => j < B) u.to vh' nh' kh')
    (hat : vh'.ownBlock = vh.ownBlock ∨ vh'.ownBlock = some (w.heap.size + 1)) (hX : ∀ j, X j → j < w.heap.size) : Bks k f B b (fun j => X j ∨ (w.heap.size ≤ j ∧ j < u.to.heap.size)) u.to va vh' na nh' ka kh' := by
  have hlh := h.oh.lt
  have hla := h.oa.lt
  have hl1 := h1.lt
  have hK : KpX (fun j => j < w.heap.size ∧ some j ≠ vh.ownBlock) w u.to := ⟨fun j hj => u.ok.block j hj.1 hj.2, u.ok.size⟩
  refine ⟨h.oa.kp KbR.stable hK (fun g hg => ⟨(hla g hg).2, fun e => ?_⟩) (fun j hj hl => ⟨⟨hl, hj.2⟩, .inl hj.1, fun e => ?_⟩), h1, ?_, fun g hg => .inl (h.xa g hg), fun g hg => ?_, fun j hj => .inl (h.xb j hj), h.bb⟩
  · rcases h.ne with h2 | h2
    · rw [h2] at hg; cases hg
    · exact h2 (hg.trans e)
  · rcases hat with e2 | e2
    · rw [e2] at e; exact hj.2 e
    · rw [e2] at e
      have := hX j hj.1
      have := Option.some.inj e
      omega
  · rcases hat with e | e
    · rw [e]; exact h.ne
    · cases hv : va.ownBlock with
      | none => exact .inl rfl
      | some g =>
        refine .inr fun e2 => ?_
        rw [e] at e2
        have h2 := (hla g hv).2
        have := Option.some.inj e2
        omega
  · rcases hat with e | e
    · exact .inl (h.xh g (by rw [← e]; exact hg))
    · have h2 : g = w.heap.size + 1 := by rw [e] at hg; exact (Option.some.inj hg).symm
      exact .inr ⟨by omega, (hl1 g hg).2⟩
end
end Go.Proofs.YtcliejdiaohamaaGreat

set_option linter.unusedSimpArgs false
set_option linter.unusedVariables false
namespace Go.Proofs.YtcliejdiaohamaaGreat
open Go.RowKit Go.Cib
attribute [local go_sem] cell_set Later.cell Later.frozen Grw.cell Grw.frozen
theorem wpAnyH_nar {P : Program} {md : Region.Mode} {ops : Array Oper} {Q : Exit → Act → World → Prop} {S S' : World → Prop} (hS : ∀ w, S' w → S w) : ∀ (fuel : Nat) (listed : Array Bool) (a : Act) (w : World), wpAnyH P md ops Q S' fuel listed a w → wpAnyH P md ops Q S fuel listed a w
  | 0, _, _, _, h => h
  | fuel + 1, _, _, _, h => ⟨h.1, fun i hi => wpOp_mono (fun a' w' h' => ⟨hS _ h'.1, wpAnyH_nar hS fuel _ a' w' h'.2⟩) (h.2 i hi)⟩
end Go.Proofs.YtcliejdiaohamaaGreat

set_option linter.unusedSimpArgs false
set_option linter.unusedVariables false
namespace Go.Proofs.YtcliejdiaohamaaGreat
open Go.RowKit Go.Cib
attribute [local go_sem] cell_set Later.cell Later.frozen Grw.cell Grw.frozen
def RefR (_ : Nat → Prop) (_ : World) (cs : List Value) (x : Int × Int) : Prop := cs = [.int .u8 3, .int .i64 x.1, .int .u64 x.2]
theorem RefR.stable : Stable RefR := fun _ _ _ _ _ _ h _ => h
theorem RefR.one : ∀ S w cs x, RefR S w cs x → ∀ u ∈ cs, u.oneCell' = true := by
  rintro S w cs x rfl u hu
  simp only [List.mem_cons, List.not_mem_nil, or_false] at hu
  rcases hu with rfl | rfl | rfl <;> rfl
theorem sl_ref : SlTy Tryz.prog 66 41 (.agg #[.int .u8 0, .int .i64 0, .int .u64 0]) 3 24 := ⟨by kernel_rfl, by kernel_rfl, by kernel_rfl, by omega⟩
def refL (gen : Int) (ps : List Int) : List (Int × Int) := ps.mapIdx fun i x => (x, u64w (gen + (i : Int)))
theorem refL_len (gen : Int) (ps : List Int) : (refL gen ps).length = ps.length := by unfold refL; rw [List.length_mapIdx]
theorem refL_snoc {gen : Int} {ps : List Int} {i : Nat} {x : Int} (h : ps[i]? = some x) : (refL gen ps).take (i + 1) = (refL gen ps).take i ++ [(x, u64w (gen + (i : Int)))] := by
  have : (refL gen ps)[i]? = some (x, u64w (gen + (i : Int))) := by unfold refL; rw [List.getElem?_mapIdx, h]; rfl
  rw [List.take_add_one, this]; rfl
set_option maxRecDepth 100000 in
set_option maxHeartbeats 8000000 in
theorem refs_any {w : World} {S : Nat → Prop} {A : Option Addr} {n c : Nat} {gen size : Int} {ps : List Int} (R : RdL IntR 1 S w A n ps) (hn : n ≤ 1000) (hnc : n ≤ c) :
    Calls Tryz.prog 33 #[.agg (blobC A n c gen size)] w fun e w' => ∃ A' c', e = .returned (.slice A' n c') ∧ n ≤ c' ∧ RdL RefR 3 (fun j => w.heap.size ≤ j) w' A' n (refL gen ps) ∧ Below w.heap.size w w' := by
  have hb0 : Below w.heap.size w (w.alloc (.cells (blobC A n c gen size) 61)) := (Below.refl _ _).alloc (Nat.le_refl _) _
  have bB := BoxAt.new w (blobC A n c gen size) 61
  have hna := fun (w2 : World) (hb : Below w.heap.size w w2) (i : Nat) (hi : i < n) (x : Int) (hx : ps[i]? = some x) => name_any (w := w2) (c := c) (gen := gen) (size := size) (R.below IntR.stable hb) hi (by omega) hx
  have hpl := R.1
  have q2 : (n : Int) ≤ 1000 := by omega
  unfold blobC at hb0 bB hna ⊢
  have HNA := Lib.hid hna
  have HPL := Lib.hid hpl
  clear R hna hpl
  go_enter Tryz.func33, Tryz.ntmps33
  obtain ⟨w1, hw1⟩ : ∃ w1, w.alloc (.cells #[.slice A n c, .int .u64 gen, .int .i64 size] 61) = w1 := ⟨_, rfl⟩
  obtain ⟨q, hq⟩ : ∃ q, w.heap.size = q := ⟨_, rfl⟩
  rw [hw1] at hb0 bB
  rw [hq] at bB
  have k0 := bB.cell 0
  go_wp2_with fail
  have hqw : q < w1.heap.size := bB.lt
  have HB0 := Lib.hid hb0
  have BB := Lib.hid bB
  have HQ := Lib.hid hq
  clear hb0 bB hq k0 hw1
  go_loopw [3, 8] (fun vo vi wr => ∃ (i : Nat) (A2 : Option Addr) (c2 : Nat), i ≤ n ∧ vi = .int .i64 i ∧ vo = .slice A2 i c2 ∧ i ≤ c2 ∧ Hid (OwnL RefR 41 3 w1.heap.size (fun j => w1.heap.size ≤ j) wr (.slice A2 i c2) i ((refL gen ps).take i)) ∧ Hid (Below w1.heap.size w1 wr)) (fun _ vi _ => n - (intOf vi).toNat)
  case atStart => exact ⟨0, none, 0, Nat.zero_le _, rfl, rfl, Nat.le_refl _, Lib.hid (by exact OwnL.nil_), Lib.hid (Below.refl _ _)⟩
  case round =>
    obtain ⟨i, A2, c2, hi, rfl, rfl, hc2, HO, HB⟩ := hrel
    have p0 : (0 : Int) ≤ (i : Int) := Int.natCast_nonneg _
    have HBW := Lib.hid (HB0.out.trans (HB.out.mono HB0.out.size))
    by_cases hlt : i < n
    · have p1 : (i : Int) < (n : Int) := by omega
      have bBr := BB.out.below HB.out
      have k0 := bBr.cell 0
      have k1 := bBr.cell 1
      have k2 := bBr.cell 2
      have z0 := bBr.frozen 0
      obtain ⟨x, hx⟩ : ∃ x, ps[i]? = some x := ⟨_, List.getElem?_eq_getElem (by rw [HPL.out]; exact hlt)⟩
      have hna := HNA.out wr HBW.out i hlt x hx
      have HSN := Lib.hid (refL_snoc (gen := gen) hx)
      clear hx bBr
      obtain ⟨g, hg⟩ : ∃ g, u64w (gen + (i : Int)) = g := ⟨_, rfl⟩
      rw [hg] at hna HSN
      clear hg
      go_wp2_with fail
      refine hna.mono ?_
      clear hna
      rintro e w3 ⟨rfl, hb3⟩
      have HB3 := Lib.hid (HB.out.trans (hb3.mono HB.out.size))
      have HBW3 := Lib.hid (HB0.out.trans (HB3.out.mono HB0.out.size))
      have HO3 := Lib.hid (HO.out.keep RefR.stable hb3)
      have hsz3 := HB3.out.size
      clear hb3 k0 k1 k2 z0
      go_wp2_with (at_builtin; go_must (refine wpList_push1 RefR.stable RefR.one sl_ref (by rfl) (by rfl) (base := w1.heap.size) (S := fun j => w1.heap.size ≤ j) (cs := #[.int .u8 3, .int .i64 x, .int .u64 g]) (y := (x, g)) (by rfl) (by rfl) HO3.out (by rfl) (by rfl) (by unfold maxLen; omega) (by omega) hsz3 ?_); intro A8 c8 ug hc8 own9 hlt8 hb8 hat8; have HO9 := Lib.hid own9; have HB9 := Lib.hid (HB3.out.trans hb8); clear own9 hb8 hlt8 hat8)
      exact ⟨⟨i + 1, A8, c8, by omega, by go_num, rfl, hc8, Lib.hid (by rw [HSN.out]; exact HO9.out), HB9⟩, by simp [intOf]; omega⟩
    · have p1 : ¬ (i : Int) < (n : Int) := by omega
      obtain rfl : i = n := by omega
      obtain ⟨A', c', e, _, hr⟩ := HO.out.rd (S' := fun j => w.heap.size ≤ j) (fun j hj => Nat.le_trans HB0.out.size hj) (fun cs x hx => hx)
      injection e with e1 _ e2
      subst e1; subst e2
      rw [List.take_of_length_le (by rw [refL_len, HPL.out]; exact Nat.le_refl _)] at hr
      have HR := Lib.hid hr
      clear hr
      go_wp2_with fail
      go_ret
      exact ⟨A2, c2, rfl, hc2, HR.out, HBW.out⟩
end Go.Proofs.YtcliejdiaohamaaGreat

set_option linter.unusedSimpArgs false
set_option linter.unusedVariables false
namespace Go.Proofs.YtcliejdiaohamaaGreat
open Go.RowKit Go.Cib
attribute [local go_sem] cell_set Later.cell Later.frozen Grw.cell Grw.frozen
theorem cntI_fin {k i : Nat} {size : Int} (hk : 1 ≤ k) (h1 : size ≤ (i : Int) * ((k * 44 : Nat) : Int)) (h2 : i = 0 ∨ ((i : Int) - 1) * ((k * 44 : Nat) : Int) < size) : cntI k size = (i : Int) := by
  unfold cntI
  obtain ⟨r, hr⟩ : ∃ r : Int, ((k * 44 : Nat) : Int) = r := ⟨_, rfl⟩
  have hr0 : 0 < r := by omega
  rw [hr] at h1 h2 ⊢
  rcases h2 with rfl | h2
  · rw [if_pos (by simpa using h1)]; rfl
  · by_cases h0 : size ≤ 0
    · rw [if_pos h0]
      by_cases hi : i = 0
      · subst hi; rfl
      · have : 0 ≤ ((i : Int) - 1) * r := Int.mul_nonneg (by omega) (by omega)
        omega
    · rw [if_neg h0]
      have e1 : (size - 1) / r < (i : Int) := Int.ediv_lt_of_lt_mul hr0 (by omega)
      have e2 : (i : Int) - 1 ≤ (size - 1) / r := Int.le_ediv_of_mul_le hr0 (by omega)
      omega
set_option maxRecDepth 100000 in
set_option maxHeartbeats 4000000 in
theorem rcnt_any {w : World} {k : Nat} (k1 : 1 ≤ k) (k2 : k ≤ 255) {size : Int} (hs : size ≤ 1000000) :
    Calls Tryz.prog 36 #[.int .i64 (k : Int), .int .i64 size] w fun e w' => e = .returned (.int .i64 (cntI k size)) ∧ w' = w := by
  obtain ⟨r, hr⟩ : ∃ r : Int, (44 : Int) * (k : Int) = r := ⟨_, rfl⟩
  have hrk : ((k * 44 : Nat) : Int) = r := by push_cast; omega
  have f0 : IntKind.i64.wrap r = r := by rw [IntKind.wrap_i64]; omega
  have hr0 : 44 ≤ r := by omega
  have hr1 : r ≤ 11220 := by omega
  have HF := Lib.hid (fun (i : Nat) (h1 : size ≤ (i : Int) * r) (h2 : i = 0 ∨ ((i : Int) - 1) * r < size) => show cntI k size = (i : Int) from cntI_fin (k := k) (i := i) k1 (by rw [hrk]; exact h1) (by rw [hrk]; exact h2))
  clear hrk
  go_enter Tryz.func36, Tryz.ntmps36
  go_wp2_with fail
  go_loopw [5, 6] (fun vn vl wr => ∃ (i : Nat) (L y : Int), vn = .int .i64 i ∧ vl = .int .i64 L ∧ Hid (y = (i : Int) * r) ∧ Hid (L = size - y) ∧ Hid (i = 0 ∨ ((i : Int) - 1) * r < size) ∧ Hid ((i : Int) ≤ y ∧ 0 ≤ y) ∧ wr = w) (fun _ vl _ => (intOf vl).toNat)
  case atStart => exact ⟨0, size, 0, rfl, rfl, Lib.hid (by simp), Lib.hid (by omega), Lib.hid (.inl rfl), Lib.hid ⟨by simp, by omega⟩, rfl⟩
  case round =>
    obtain ⟨i, L, y, rfl, rfl, HY, HL, HI, HB, rfl⟩ := hrel
    by_cases h0 : L > 0
    · have g0 : decide (L > 0) = true := decide_eq_true h0
      have hy1 := HB.out
      have hy2 := HL.out
      have f1 : IntKind.i64.wrap (L - r) = L - r := by rw [IntKind.wrap_i64]; omega
      have f2 : IntKind.i64.wrap ((i : Int) + 1) = (i : Int) + 1 := by rw [IntKind.wrap_i64]; omega
      clear hy1 hy2
      go_wp2_with fail
      refine ⟨⟨i + 1, L - r, y + r, by go_num, rfl, Lib.hid (by rw [HY.out]; push_cast; rw [Int.add_mul, Int.one_mul]), Lib.hid (by have := HL.out; omega), Lib.hid (.inr (by have := HL.out; push_cast; rw [Int.add_sub_cancel, ← HY.out]; omega)), Lib.hid ⟨by have := HB.out; push_cast; omega, by have := HB.out; omega⟩, trivial⟩, by simp [intOf]; omega⟩
    · have g0 : decide (L > 0) = false := decide_eq_false h0
      have HE := Lib.hid (HF.out i (by have := HL.out; rw [← HY.out]; omega) HI.out)
      go_wp2_with fail
      go_ret
      exact ⟨by rw [HE.out]; rfl, rfl⟩
end Go.Proofs.YtcliejdiaohamaaGreat

set_option linter.unusedSimpArgs false
set_option linter.unusedVariables false
namespace Go.Proofs.YtcliejdiaohamaaGreat
open Go.RowKit Go.Cib
attribute [local go_sem] cell_set Later.cell Later.frozen Grw.cell Grw.frozen
end Go.Proofs.YtcliejdiaohamaaGreat

set_option linter.unusedSimpArgs false
set_option linter.unusedVariables false
namespace Go.Proofs.YtcliejdiaohamaaGreat
open Go.RowKit Go.Cib
attribute [local go_sem] cell_set Later.cell Later.frozen Grw.cell Grw.frozen
end Go.Proofs.YtcliejdiaohamaaGreat

set_option linter.unusedSimpArgs false
set_option linter.unusedVariables false
namespace Go.Proofs.YtcliejdiaohamaaGreat
open Go.RowKit Go.Cib
attribute [local go_sem] cell_set Later.cell Later.frozen Grw.cell Grw.frozen
def varL (v : Nat) : List Nat := if h : v < 128 then [v] else (v % 128 + 128) :: varL (v / 128)
termination_by v
decreasing_by omega
theorem or_b8 {a : Nat} (ha : a < 256) : bits .or .u8 (a : Int) 128 = ((a % 128 + 128 : Nat) : Int) := by
  have : ∀ a, a < 256 → bits .or .u8 ((a : Nat) : Int) 128 = ((a % 128 + 128 : Nat) : Int) := by decide +kernel
  exact this a ha
set_option maxRecDepth 100000 in
set_option maxHeartbeats 4000000 in
theorem putvar_any {w : World} {n c v : Nat} {A : Option Addr} {S : Nat → Prop} {xs : List Nat} (R : RdL ByR 1 S w A n xs) (hn : n ≤ 9000) (hv : v < 18446744073709551616) :
    Calls Tryz.prog 169 #[.slice A n c, .int .u64 (v : Int)] w fun e w' => ∃ A' c' m, e = .returned (.slice A' m c') ∧ OwnL ByR 5 1 w.heap.size (fun _ => True) w' (.slice A' m c') m (xs ++ varL v) ∧ m ≤ n + 10 ∧ Below w.heap.size w w' := by
  have hgr := grown_any (c := c) (room := 10) R (by omega) (by omega)
  have HV := Lib.hid hv
  clear R hv
  push_cast at hgr
  go_enter Tryz.func169, Tryz.ntmps169
  go_wp2_with fail
  refine hgr.mono ?_
  rintro e w1 ⟨g, rfl, ho, hb1⟩
  have HO := Lib.hid ho
  have HB := Lib.hid hb1
  clear hgr ho hb1
  go_wp2_with fail
  go_loopw [1, 5] (fun vi vs wr => ∃ (j u : Nat) (A : Option Addr) (c' : Nat) (pre : List Nat), vi = .int .u64 u ∧ vs = .slice A (n + j) c' ∧ Hid (u * 128 ^ j ≤ v) ∧ j ≤ 9 ∧ Hid (pre ++ varL u = varL v) ∧ Hid (OwnL ByR 5 1 w.heap.size (fun _ => True) wr (.slice A (n + j) c') (n + j) (xs ++ pre)) ∧ Hid (Below w.heap.size w wr)) (fun vi _ _ => (intOf vi).toNat)
  case atStart => exact ⟨0, v, _, _, [], rfl, rfl, Lib.hid (by simp), by omega, Lib.hid rfl, by rw [List.append_nil]; exact HO, HB⟩
  case round =>
    clear HO HB
    obtain ⟨j, u, AO, cO, pre, rfl, rfl, HU, hj, HP, HO, HB⟩ := hrel
    have p0 : (0 : Int) ≤ (u : Int) := Int.natCast_nonneg _
    by_cases hlt : u < 128
    · have p1 : ¬ (u : Int) ≥ 128 := by omega
      have hszr := HB.out.size
      have HN := Lib.hid (show xs ++ pre ++ [u] = xs ++ varL v by rw [← HP.out, varL, dif_pos hlt, List.append_assoc])
      have f1 : IntKind.u8.wrap (u : Int) = (u : Int) := by rw [IntKind.wrap_u8]; omega
      go_wp2_with (at_builtin; go_must (refine wpList_push1 ByR.stable ByR.one sl_by (by rfl) (by rfl) (base := w.heap.size) (S := fun _ => True) (cs := #[.int .u8 (u : Int)]) (y := u) (by rfl) (by rfl) HO.out (by rfl) ⟨by omega, rfl⟩ (by unfold maxLen; omega) (by omega) hszr ?_); intro A8 c8 ug hc8 own9 hlt8 hb8 hat8; rw [HN.out] at own9; have HO9 := Lib.hid own9; have HB9 := Lib.hid (HB.out.trans hb8); clear own9 hb8 hlt8 hat8)
      go_ret
      exact ⟨A8, c8, _, rfl, HO9.out, by omega, HB9.out⟩
    · have p1 : (u : Int) ≥ 128 := by omega
      have hszr := HB.out.size
      have g1 : bits .or .u8 ((u : Int) % 256) 128 = ((u % 128 + 128 : Nat) : Int) := by
        have h1 := or_b8 (a := u % 256) (Nat.mod_lt _ (by omega))
        rw [show (u % 256 % 128 + 128 : Nat) = u % 128 + 128 by omega] at h1
        push_cast at h1 ⊢
        exact h1
      have hyl : u % 128 + 128 < 256 := by omega
      obtain ⟨y, hye⟩ : ∃ y, u % 128 + 128 = y := ⟨_, rfl⟩
      have HYE := Lib.hid hye
      rw [hye] at g1 hyl
      clear hye
      go_wp2_with (at_builtin; go_must (refine wpList_push1 ByR.stable ByR.one sl_by (by rfl) (by rfl) (base := w.heap.size) (S := fun _ => True) (cs := #[.int .u8 (y : Int)]) (y := y) (by rfl) (by rfl) HO.out (by rfl) ⟨hyl, rfl⟩ (by unfold maxLen; omega) (by omega) hszr ?_); intro A8 c8 ug hc8 own9 hlt8 hb8 hat8; have HO9 := Lib.hid own9; have HB9 := Lib.hid (HB.out.trans hb8); clear own9 hb8 hlt8 hat8)
      have hu2 : u / 128 * 128 ^ (j + 1) ≤ v := by
        have h1 := HU.out
        have h2 : u / 128 * 128 ≤ u := Nat.div_mul_le_self u 128
        rw [Nat.pow_succ, Nat.mul_comm (128 ^ j) 128, ← Nat.mul_assoc]
        exact Nat.le_trans (Nat.mul_le_mul_right _ h2) h1
      have hj2 : j + 1 ≤ 9 := by
        have h1 := HU.out
        have h3 := HV.out
        rcases Nat.lt_or_ge j 9 with h | h
        · omega
        · have hj9 : j = 9 := by omega
          subst hj9
          omega
      have hp2 : (pre ++ [y]) ++ varL (u / 128) = varL v := by
        rw [← HP.out]
        conv => rhs; rw [varL, dif_neg hlt, HYE.out]
        rw [List.append_assoc]; rfl
      have HO10 := HO9.out
      rw [List.append_assoc] at HO10
      exact ⟨⟨j + 1, u / 128, A8, c8, pre ++ [y], by push_cast; rfl, rfl, Lib.hid hu2, hj2, Lib.hid hp2, Lib.hid HO10, HB9⟩, by simp [intOf]; omega⟩
end Go.Proofs.YtcliejdiaohamaaGreat

set_option linter.unusedSimpArgs false
set_option linter.unusedVariables false
namespace Go.Proofs.YtcliejdiaohamaaGreat
open Go.RowKit Go.Cib
attribute [local go_sem] cell_set Later.cell Later.frozen Grw.cell Grw.frozen
def placesL (ps : List Nat) : List Nat := (ps.map varL).flatten
theorem OwnL.rdS {E : TypeId} {base n c : Nat} {w : World} {A : Option Addr} {xs : List Nat} (h : OwnL ByR E 1 base (fun _ => True) w (.slice A n c) n xs) : RdL ByR 1 (fun _ => True) w A n xs := by
  obtain ⟨A', c', e, _, hr⟩ := h.rd (S' := fun _ => True) (fun j hj => trivial) (fun cs x hx => hx)
  injection e with e1 _ e2
  subst e1
  exact hr
theorem OwnL.rdJ {E : TypeId} {base n c B : Nat} {w : World} {A : Option Addr} {xs : List Nat} (h : OwnL ByR E 1 base (fun _ => True) w (.slice A n c) n xs) (hB : B ≤ base) : RdL ByR 1 (fun j => B ≤ j) w A n xs := by
  obtain ⟨A', c', e, _, hr⟩ := h.rd (S' := fun j => B ≤ j) (fun j hj => Nat.le_trans hB hj) (fun cs x hx => hx)
  injection e with e1 _ e2
  subst e1
  exact hr
theorem placesL_snoc {ps : List Nat} {i x : Nat} (h : ps[i]? = some x) : placesL (ps.take (i + 1)) = placesL (ps.take i) ++ varL x := by
  unfold placesL
  rw [List.take_add_one, h]
  simp
set_option maxRecDepth 100000 in
set_option maxHeartbeats 8000000 in
theorem bpb_any {w : World} {S S2 : Nat → Prop} {A A0 : Option Addr} {n0 c0 n c gen size : Nat} {xs ps : List Nat} (R0 : RdL ByR 1 S2 w A0 n0 xs) (R : RdL IntR 1 S w A n (ps.map Int.ofNat)) (hn0 : n0 ≤ 2000) (hn : n ≤ 500) (hsz : size ≤ 1000000) (hg : gen < 18446744073709551616) (hps : ∀ x ∈ ps, x < 9000000000000000000) :
    Calls Tryz.prog 103 #[.slice A0 n0 c0, .agg (blobC A n c (gen : Int) (size : Int))] w fun e w' => ∃ A' c' m, e = .returned (.slice A' m c') ∧ RdL ByR 1 (fun j => w.heap.size ≤ j) w' A' m (xs ++ varL size ++ varL gen ++ varL n ++ placesL ps) ∧ Below w.heap.size w w' := by
  have hb0 : Below w.heap.size w (w.alloc (.cells (blobC A n c (gen : Int) (size : Int)) 61)) := (Below.refl _ _).alloc (Nat.le_refl _) _
  have bB := BoxAt.new w (blobC A n c (gen : Int) (size : Int)) 61
  unfold blobC at hb0 bB ⊢
  obtain ⟨w1, hw1⟩ : ∃ w1, w.alloc (.cells #[.slice A n c, .int .u64 (gen : Int), .int .i64 (size : Int)] 61) = w1 := ⟨_, rfl⟩
  obtain ⟨q, hq⟩ : ∃ q, w.heap.size = q := ⟨_, rfl⟩
  rw [hw1] at hb0 bB
  rw [hq] at bB
  have HR0 := Lib.hid (R0.below ByR.stable hb0)
  have HR := Lib.hid R
  have HB0 := Lib.hid hb0
  have BB := Lib.hid bB
  have HQ := Lib.hid hq
  have p0 : (0 : Int) ≤ (size : Int) := Int.natCast_nonneg _
  have HPS := Lib.hid hps
  clear R0 R hb0 bB hps
  go_enter Tryz.func103, Tryz.ntmps103
  go_wp2_with (at_builtin; go_must (refine wpList_appL ByR.stable ByR.one sl_by (by rfl) (by rfl) (base := w1.heap.size) (S := fun _ => True) (n := 0) (v := .slice none 0 0) (xs := []) (by rfl) OwnL.nil_ (by rfl) HR0.out (fun _ _ h => h) (by unfold maxLen; omega) (by omega) (Nat.le_refl _) ?_); intro A3 c3 w5 hc3 hown hg3 hat; have HB5 := Lib.hid ((Below.refl w1.heap.size w1).grown hg3 (Nat.le_refl _) (fun k hk => by cases hk)); have HO5 := Lib.hid hown; have bB5 := BB.out.below HB5.out; have k0 := bB5.cell 0; have k1 := bB5.cell 1; have k2 := bB5.cell 2; clear bB5 hown hg3 hat)
  clear hw1
  have HBD := Lib.hid HB5.out.drew
  have HOD := Lib.hid (show OwnL ByR 5 1 w1.heap.size (fun _ => True) w5.drew (.slice A3 n0 c3) n0 xs from by have h1 := OwnL.keep ByR.stable (w' := w5.drew) HO5.out (Below.refl _ _).drew; rw [Nat.zero_add, List.nil_append] at h1; exact h1)
  have s0 : w5.drew.cell? ⟨q, 0, none⟩ = some (.slice A n c) ∧ w5.drew.cell? ⟨q, 1, none⟩ = some (.int .u64 (gen : Int)) ∧ w5.drew.cell? ⟨q, 2, none⟩ = some (.int .i64 (size : Int)) := ⟨k0, k1, k2⟩
  have f1 : IntKind.u64.wrap (size : Int) = (size : Int) := by rw [IntKind.wrap_u64]; omega
  have f2 : IntKind.u64.wrap (n : Int) = (n : Int) := by rw [IntKind.wrap_u64]; omega
  refine wp_region_held_drew (S := fun w' => w'.cell? ⟨q, 0, none⟩ = some (.slice A n c) ∧ w'.cell? ⟨q, 1, none⟩ = some (.int .u64 (gen : Int)) ∧ w'.cell? ⟨q, 2, none⟩ = some (.int .i64 (size : Int))) (by kernel_rfl) (by first | exact s0 | exact s6 | exact s7 | exact s8) (fun hHeld => ?_)
  refine wpAnyH_take (i := 0) (v := ?_) rfl (by kernel_rfl) (by kernel_rfl) (by kernel_rfl) (fun _ _ _ h => h) (Or.inl ⟨by first | kernel_rfl | rfl, ?_⟩) (by assumption) ?_
  rotate_left
  · (intro wq hSw; (try dsimp only at hSw); (try simp (maxSteps := 2000000) only [zz1, zz2, zz3]); go_simp); try with_reducible rfl
  try simp (maxSteps := 2000000) only [zz1, zz2, zz3, Act.put, zz4, zz5, zz6]
  refine wpAnyH_take (i := 1) (v := ?_) rfl (by kernel_rfl) (by kernel_rfl) (by kernel_rfl) (fun _ _ _ h => h) (Or.inl ⟨by first | kernel_rfl | rfl, ?_⟩) (by assumption) ?_
  rotate_left
  · (intro wq hSw; (try dsimp only at hSw); (try simp (maxSteps := 2000000) only [zz1, zz2, zz3]); go_simp); try with_reducible rfl
  try simp (maxSteps := 2000000) only [zz1, zz2, zz3, Act.put, zz4, zz5, zz6]
  refine wpAnyH_take (i := 2) (v := ?_) rfl (by kernel_rfl) (by kernel_rfl) (by kernel_rfl) (fun _ _ _ h => h) (Or.inl ⟨by first | kernel_rfl | rfl, ?_⟩) (by assumption) ?_
  rotate_left
  · (intro wq hSw; (try dsimp only at hSw); (try simp (maxSteps := 2000000) only [zz1, zz2, zz3]); go_simp); try with_reducible rfl
  try simp (maxSteps := 2000000) only [zz1, zz2, zz3, Act.put, zz4, zz5, zz6]
  refine wpAnyH_take (i := 3) (v := ?_) rfl (by kernel_rfl) (by kernel_rfl) (by kernel_rfl) (fun _ _ _ h => h) (Or.inl ⟨by first | kernel_rfl | rfl, ?_⟩) (by assumption) ?_
  rotate_left
  · (intro wq hSw; (try dsimp only at hSw); (try simp (maxSteps := 2000000) only [zz1, zz2, zz3]); go_simp); try with_reducible rfl
  try simp (maxSteps := 2000000) only [zz1, zz2, zz3, Act.put, zz4, zz5, zz6]
  refine wpAnyH_take (i := 5) (v := ?_) rfl (by kernel_rfl) (by kernel_rfl) (by kernel_rfl) (fun _ _ _ h => h) (Or.inl ⟨by first | kernel_rfl | rfl, ?_⟩) (by assumption) ?_
  rotate_left
  · (intro wq hSw; (try dsimp only at hSw); (try simp (maxSteps := 2000000) only [zz1, zz2, zz3]); go_simp); try with_reducible rfl
  try simp (maxSteps := 2000000) only [zz1, zz2, zz3, Act.put, zz4, zz5, zz6]
  refine wpAnyH_take (i := 6) (v := ?_) rfl (by kernel_rfl) (by kernel_rfl) (by kernel_rfl) (fun _ _ _ h => h) (Or.inl ⟨by first | kernel_rfl | rfl, ?_⟩) (by assumption) ?_
  rotate_left
  · (intro wq hSw; (try dsimp only at hSw); (try simp (maxSteps := 2000000) only [zz1, zz2, zz3]); go_simp); try with_reducible rfl
  try simp (maxSteps := 2000000) only [zz1, zz2, zz3, Act.put, zz4, zz5, zz6]
  refine wpAnyH_take (i := 8) (v := ?_) rfl (by kernel_rfl) (by kernel_rfl) (by kernel_rfl) (fun _ _ _ h => h) (Or.inl ⟨by first | kernel_rfl | rfl, ?_⟩) (by assumption) ?_
  rotate_left
  · (intro wq hSw; (try dsimp only at hSw); (try simp (maxSteps := 2000000) only [zz1, zz2, zz3]); go_simp); try with_reducible rfl
  try simp (maxSteps := 2000000) only [zz1, zz2, zz3, Act.put, zz4, zz5, zz6]
  refine wpAnyH_take (i := 9) (v := ?_) rfl (by kernel_rfl) (by kernel_rfl) (by kernel_rfl) (fun _ _ _ h => h) (Or.inl ⟨by first | kernel_rfl | rfl, ?_⟩) (by assumption) ?_
  rotate_left
  · (intro wq hSw; (try dsimp only at hSw); (try simp (maxSteps := 2000000) only [zz1, zz2, zz3]); go_simp); try with_reducible rfl
  try simp (maxSteps := 2000000) only [zz1, zz2, zz3, Act.put, zz4, zz5, zz6]
  refine wpAnyH_take (i := 10) (v := ?_) rfl (by kernel_rfl) (by kernel_rfl) (by kernel_rfl) (fun _ _ _ h => h) (Or.inl ⟨by first | kernel_rfl | rfl, ?_⟩) (by assumption) ?_
  rotate_left
  · (intro wq hSw; (try dsimp only at hSw); (try simp (maxSteps := 2000000) only [zz1, zz2, zz3]); go_simp); try with_reducible rfl
  try simp (maxSteps := 2000000) only [zz1, zz2, zz3, Act.put, zz4, zz5, zz6]
  refine wpAnyH_take (i := 11) (v := ?_) rfl (by kernel_rfl) (by kernel_rfl) (by kernel_rfl) (fun _ _ _ h => h) (Or.inl ⟨by first | kernel_rfl | rfl, ?_⟩) (by assumption) ?_
  rotate_left
  · (intro wq hSw; (try dsimp only at hSw); (try simp (maxSteps := 2000000) only [zz1, zz2, zz3]); go_simp); try with_reducible rfl
  try simp (maxSteps := 2000000) only [zz1, zz2, zz3, Act.put, zz4, zz5, zz6]
  refine wpAnyH_ready (rs := [4]) (by kernel_rfl) (by simp) ?_
  refine AllReadyH.cons rfl (fun K hK => ?_) AllReadyH.nil
  try simp (maxSteps := 2000000) only [zz1, zz2, zz3]
  go_simp
  go_at_call 169
  refine (putvar_any (v := size) (OwnL.rdS HOD.out) (by omega) (by omega)).mono ?_
  rintro e w6 ⟨A6, c6, m6, rfl, ho6, hm6, hb6⟩
  have HB6 := Lib.hid (HBD.out.trans (hb6.mono HBD.out.size))
  have HO6 := Lib.hid ho6
  have bB6 := BB.out.below HB6.out
  have s6 : w6.cell? ⟨q, 0, none⟩ = some (.slice A n c) ∧ w6.cell? ⟨q, 1, none⟩ = some (.int .u64 (gen : Int)) ∧ w6.cell? ⟨q, 2, none⟩ = some (.int .i64 (size : Int)) := ⟨bB6.cell 0, bB6.cell 1, bB6.cell 2⟩
  clear ho6 hb6 bB6
  try (go_wp2_with fail)
  refine hK.out _ _ (by first | exact s0 | exact s6 | exact s7 | exact s8) (fun hHeld => ?_)
  clear hK K
  try simp (maxSteps := 2000000) only [zz1, zz2, zz3, Act.put, zz4, zz5, zz6]
  refine wpAnyH_ready (rs := [7]) (by kernel_rfl) (by simp) ?_
  refine AllReadyH.cons rfl (fun K hK => ?_) AllReadyH.nil
  try simp (maxSteps := 2000000) only [zz1, zz2, zz3]
  go_simp
  go_at_call 169
  refine (putvar_any (v := gen) (OwnL.rdS HO6.out) (by omega) hg).mono ?_
  rintro e w7 ⟨A7, c7, m7, rfl, ho7, hm7, hb7⟩
  have HB7 := Lib.hid (HB6.out.trans (hb7.mono HB6.out.size))
  have HO7 := Lib.hid ho7
  have bB7 := BB.out.below HB7.out
  have s7 : w7.cell? ⟨q, 0, none⟩ = some (.slice A n c) ∧ w7.cell? ⟨q, 1, none⟩ = some (.int .u64 (gen : Int)) ∧ w7.cell? ⟨q, 2, none⟩ = some (.int .i64 (size : Int)) := ⟨bB7.cell 0, bB7.cell 1, bB7.cell 2⟩
  clear ho7 hb7 bB7
  try (go_wp2_with fail)
  refine hK.out _ _ (by first | exact s0 | exact s6 | exact s7 | exact s8) (fun hHeld => ?_)
  clear hK K
  try simp (maxSteps := 2000000) only [zz1, zz2, zz3, Act.put, zz4, zz5, zz6]
  refine wpAnyH_ready (rs := [12]) (by kernel_rfl) (by simp) ?_
  refine AllReadyH.cons rfl (fun K hK => ?_) AllReadyH.nil
  try simp (maxSteps := 2000000) only [zz1, zz2, zz3]
  go_simp
  go_at_call 169
  refine (putvar_any (v := n) (OwnL.rdS HO7.out) (by omega) (by omega)).mono ?_
  rintro e w8 ⟨A8, c8, m8, rfl, ho8, hm8, hb8⟩
  have HB8 := Lib.hid (HB7.out.trans (hb8.mono HB7.out.size))
  have HO8 := Lib.hid ho8
  have bB8 := BB.out.below HB8.out
  have s8 : w8.cell? ⟨q, 0, none⟩ = some (.slice A n c) ∧ w8.cell? ⟨q, 1, none⟩ = some (.int .u64 (gen : Int)) ∧ w8.cell? ⟨q, 2, none⟩ = some (.int .i64 (size : Int)) := ⟨bB8.cell 0, bB8.cell 1, bB8.cell 2⟩
  clear ho8 hb8 bB8
  try (go_wp2_with fail)
  refine hK.out _ _ (by first | exact s0 | exact s6 | exact s7 | exact s8) (fun hHeld => ?_)
  clear hK K
  try simp (maxSteps := 2000000) only [zz1, zz2, zz3, Act.put, zz4, zz5, zz6]
  refine wpAnyH_take (i := 13) (v := ?_) rfl (by kernel_rfl) (by kernel_rfl) (by kernel_rfl) (fun _ _ _ h => h) (Or.inl ⟨by first | kernel_rfl | rfl, ?_⟩) (by assumption) ?_
  rotate_left
  · (intro wq hSw; (try dsimp only at hSw); (try simp (maxSteps := 2000000) only [zz1, zz2, zz3]); go_simp); try with_reducible rfl
  try simp (maxSteps := 2000000) only [zz1, zz2, zz3, Act.put, zz4, zz5, zz6]
  refine wpAnyH_done (by kernel_rfl) ?_ _
  have HBW7 := Lib.hid (Nat.le_trans HB0.out.size HB7.out.size)
  clear s0 s6 s7 hHeld HOD HBD HO6 HB6 HO7 HB7
  obtain ⟨c80, c81, c82⟩ := s8
  have HM8 := Lib.hid (show m8 ≤ n0 + 30 by omega)
  have HBW := Lib.hid (HB0.out.trans (HB8.out.mono HB0.out.size))
  go_wp2_with fail
  go_loopw [6, 31] (fun vo vi wr => ∃ (i mm : Nat) (A2 : Option Addr) (c2 : Nat), i ≤ n ∧ vi = .int .i64 i ∧ vo = .slice A2 mm c2 ∧ Hid (mm ≤ n0 + 30 + 10 * i) ∧ Hid (RdL ByR 1 (fun j => w.heap.size ≤ j) wr A2 mm (xs ++ varL size ++ varL gen ++ varL n ++ placesL (ps.take i))) ∧ Hid (Below w8.heap.size w8 wr)) (fun _ vi _ => n - (intOf vi).toNat)
  case atStart => exact ⟨0, m8, A8, c8, Nat.zero_le _, rfl, rfl, Lib.hid (by have := HM8.out; omega), Lib.hid (by rw [List.take_zero, show placesL [] = [] from rfl, List.append_nil]; exact OwnL.rdJ HO8.out (by have := HBW7.out; exact this)), Lib.hid (Below.refl _ _)⟩
  case round =>
    obtain ⟨i, mm, A2, c2, hi, rfl, rfl, HM, HO, HB⟩ := hrel
    have p0 : (0 : Int) ≤ (i : Int) := Int.natCast_nonneg _
    have HW := Lib.hid (HBW.out.trans (HB.out.mono HBW.out.size))
    by_cases hlt : i < n
    · have p1 : (i : Int) < (n : Int) := by omega
      obtain ⟨ba, oa, rfl, _, hba⟩ := HR.out.addr hlt
      obtain ⟨x0, hx0, v1⟩ := int_at1 HR.out hlt
      rw [List.getElem?_map, Option.map_eq_some_iff] at hx0
      obtain ⟨x, hx, rfl⟩ := hx0
      have v2 := (HW.out.cell (p := ⟨ba, oa + i, none⟩) hba).trans v1
      have hxs := HPS.out x (List.mem_of_getElem? hx)
      have HSN := Lib.hid (placesL_snoc hx)
      have f3 : IntKind.u64.wrap (x : Int) = (x : Int) := by rw [IntKind.wrap_u64]; omega
      have p3 : (0 : Int) ≤ (x : Int) := Int.natCast_nonneg _
      have hpv := putvar_any (c := c2) (v := x) HO.out (by have := HM.out; omega) (by omega)
      have hsz := HW.out.size
      clear v1 hx hxs
      rw [show Int.ofNat x = (x : Int) from rfl] at v2
      go_wp2_with fail
      refine hpv.mono ?_
      clear hpv
      rintro e w9 ⟨A9, c9, m9, rfl, ho9, hm9, hb9⟩
      have HR9 := Lib.hid (OwnL.rdJ ho9 hsz)
      have HB9 := Lib.hid (HB.out.trans (hb9.mono HB.out.size))
      clear ho9 hb9
      go_wp2_with fail
      exact ⟨⟨i + 1, m9, A9, c9, by omega, by go_num, rfl, Lib.hid (by have := HM.out; omega), Lib.hid (by rw [HSN.out, ← List.append_assoc]; exact HR9.out), HB9⟩, by simp [intOf]; omega⟩
    · have p1 : ¬ (i : Int) < (n : Int) := by omega
      obtain rfl : i = n := by omega
      have HF := Lib.hid (show RdL ByR 1 (fun j => w.heap.size ≤ j) wr A2 mm (xs ++ varL size ++ varL gen ++ varL i ++ placesL ps) from by
        have h1 := HO.out
        rwa [List.take_of_length_le (by have := HR.out.1; rw [List.length_map] at this; omega)] at h1)
      go_wp2_with fail
      go_ret
      have h1 := HF.out
      have h2 := HW.out
      rw [HQ.out] at h1 h2
      simp only [List.append_assoc] at h1
      exact ⟨A2, c2, mm, rfl, h1, h2⟩
end Go.Proofs.YtcliejdiaohamaaGreat
