/-
  BufferNil, walked.
-/
import Derived.Test.YtpibaahiboajhaaBuf16
set_option linter.unusedSimpArgs false
set_option linter.unusedVariables false
namespace Go.Proofs.Ytpibaahiboajhaa
open Go.RowKit Go.Cib
attribute [local go_sem] cell_set Later.cell Later.frozen Grw.cell Grw.frozen

theorem no_rbuf {S : Nat → Prop} {w : World} {x : Nat} (h : BoxAt w x #[.slice none 0 0]) : RBufB S w x [] := ⟨none, 0, h, Nat.le_refl _, RdL.nil⟩
set_option maxRecDepth 100000 in
set_option maxHeartbeats 8000000 in
theorem nil26_any {w : World} {A2 : Option Addr} {m2 c2 : Nat} {xs : List Fd} (k f t : ByteArray) (RF : Hid (RdL FdR 6 (fun _ => True) w A2 m2 xs)) :
    Calls Try.prog 13 #[.string k, .slice A2 m2 c2, .agg #[.string f, .string t]] w fun e w' => e = .returned (.bool true) ∧ Below w.heap.size w w' := by
  have wX0 : Below w.heap.size w (w.alloc (.cells #[.string f, .string t] 56)) := (by repeat (first | (with_reducible exact Below.refl _ _) | (with_reducible assumption) | (with_reducible refine Below.drew ?_) | (with_reducible refine Below.setCell ?_ ?_ _) | (with_reducible refine Below.alloc ?_ ?_ _) | (with_reducible refine Below.later ?_ ?_ _) | (first | (with_reducible exact Nat.le_refl _) | omega | (simp only [World.size_alloc, World.size_setCell, World.size_drew] <;> omega))))
  have X0 := BoxAt.new w #[.string f, .string t] 56
  obtain ⟨wx, hw1⟩ : ∃ w1, w.alloc (.cells #[.string f, .string t] 56) = w1 := ⟨_, rfl⟩
  rw [hw1] at wX0 X0
  have RB := Lib.hid (RF.out.below FdR.stable wX0)
  have WX := Lib.hid wX0
  have hyl := X0.lt
  have s0 := fun w' (hb : Below wx.heap.size wx w') => (hb.cell (p := ⟨w.heap.size, 0, none⟩) hyl).trans (X0.cell 0)
  have s1 := fun w' (hb : Below wx.heap.size wx w') => (hb.cell (p := ⟨w.heap.size, 1, none⟩) hyl).trans (X0.cell 1)
  have hfl : xs.length = m2 := RF.out.1
  clear X0 wX0
  have hsmall := small_any (c := c2) RB
  by_cases hk : k.size ≤ 60
  · have e0 : ¬ (60 : Int) < (k.size : Int) := by omega
    go_enter Try.func13, Try.ntmps13
    go_wp2_with fail
    clear hw1
    refine hsmall.mono ?_
    rintro e w2 ⟨⟨r1, rfl, hm1⟩, b2⟩
    clear hsmall
    cases r1 with
    | false =>
      clear hm1
      go_wp2_with fail
      refine (overlays_any w2).mono ?_
      rintro e w' ⟨rfl, hb⟩
      go_wp2_with fail
      go_ret
      exact ⟨rfl, below_then (below_then hb b2) WX.out⟩
    | true =>
    obtain ⟨hm2, hok⟩ := hm1 rfl
    have HFD := Lib.hid hok
    have HOK : Hid (∀ x ∈ xs, x.key.size ≤ 1000 ∧ x.val.length ≤ 1000000 ∧ x.places.length ≤ 1000000) := Lib.hid (fun x hx => by obtain ⟨h1, h2, h3⟩ := HFD.out x hx; omega)
    clear hm1 hok
    have v0 := s0 w2 b2; have v1 := s1 w2 b2
    by_cases hf : f.size ≤ 60
    · have e1 : ¬ (60 : Int) < (f.size : Int) := by omega
      by_cases ht : t.size ≤ 60
      · have e2 : ¬ (60 : Int) < (t.size : Int) := by omega
        have hX3 := BoxAt.new w2 #[.slice none 0 0] 97
        have b3 : Below wx.heap.size wx (w2.alloc (.cells #[.slice none 0 0] 97)) := below_then ((Below.refl _ _).alloc (Nat.le_refl _) _) b2
        obtain ⟨w3, hw3⟩ : ∃ w3, w2.alloc (.cells #[.slice none 0 0] 97) = w3 := ⟨_, rfl⟩
        rw [hw3] at hX3 b3
        have z0 := s0 w3 b3; have z1 := s1 w3 b3
        have hro := rover_any (S := fun _ => True) (Lib.hid (no_rbuf hX3)) (Lib.hid WOk.nil) f t 1000 (c := c2) (Lib.hid (RB.out.below FdR.stable b3)) (by omega)
        rw [seen_same WOk.nil.rises] at hro
        have B3 := Lib.hid b3
        clear hX3 b3
        go_wp2_with fail
        clear v0 v1 hw3
        refine hro.mono ?_
        rintro e w4 ⟨A4, c4, rfl, r4, t4⟩
        have B4 := Lib.hid (below_then t4 B3.out)
        have R4 := Lib.hid (r4.weaken (S' := fun _ => True) FdR.stable (fun _ _ => trivial))
        have hsl := seen_len (L := []) (f := f) (t := t) (xs := xs) (most := 1000) (by simp)
        have HPL : Hid (∀ y ∈ seenL [] f t xs 1000, y.places.length ≤ 1000000) := Lib.hid (seen_places HFD.out)
        obtain ⟨l, hl⟩ : ∃ l, seenL [] f t xs 1000 = l := ⟨_, rfl⟩
        rw [hl] at R4 hsl HPL ⊢
        have HLL := Lib.hid hl
        clear r4 t4 hro z0 z1 hl b2
        go_wp2_with fail
        go_loopw [7, 9] (fun vp vi wr => ∃ (i : Nat) (p : Option Addr), i ≤ 2 ∧ vi = .int .i64 i ∧ vp = .pointer p ∧ Hid (BNone wr p) ∧ Hid (Below w4.heap.size w4 wr)) (fun _ vi _ => 2 - (intOf vi).toNat)
        case atStart => exact ⟨0, none, by omega, rfl, rfl, Lib.hid (BNone.nil _), Lib.hid (Below.refl _ _)⟩
        case round =>
          obtain ⟨wq, rfl⟩ : ∃ wq, wq = wr := ⟨_, rfl⟩
          obtain ⟨i, p, hi, rfl, rfl, HN, HT⟩ := hrel
          by_cases hlt : i < 2
          · have q1 : (i : Int) < 2 := by omega
            have HP : Hid (BufP wq p []) := Lib.hid (.inr ⟨rfl, HN.out⟩)
            have hfi := bfind_any k HP
            go_wp2_with fail
            refine hfi.mono ?_
            rintro e w5 ⟨A5, m5, c5, rfl, _, t5⟩
            have wF : Below w5.heap.size w5 (w5.alloc (.cells #[.string (((findW [] k).getD w0).key), .bool (((findW [] k).getD w0).dead), .slice A5 m5 c5] 102)) := (Below.refl _ _).alloc (Nat.le_refl _) _
            rw [show ((findW [] k).getD w0).key = ⟨#[]⟩ from rfl, show ((findW [] k).getD w0).dead = false from rfl] at wF ⊢
            rw [show (findW [] k).isSome = false from rfl]
            obtain ⟨w6, hw6⟩ : ∃ w6, w5.alloc (.cells #[.string ⟨#[]⟩, .bool false, .slice A5 m5 c5] 102) = w6 := ⟨_, rfl⟩
            rw [hw6] at wF
            have t6 := below_then wF t5
            have b6 := Lib.hid (below_then t6 HT.out)
            have N6 := HN.out.below t6
            have hpu := put_none (k := k) (c := 0) (Lib.hid N6) (Lib.hid (RdL.nil (R := U8R) (s := 1) (S := fun _ => True) (w := w6) (A := none))) (by omega)
            have N6h := Lib.hid N6
            clear hfi wF t6 t5 N6
            go_wp2_with fail
            clear hw6
            refine hpu.mono ?_
            rintro e w7 ⟨rfl, t7⟩
            have N7 := N6h.out.below t7
            have b7 := Lib.hid (below_then t7 b6.out)
            have hde := del_none (k := k) (Lib.hid N7)
            have N7h := Lib.hid N7
            clear hpu t7 N7
            go_wp2_with fail
            refine hde.mono ?_
            rintro e w8 ⟨rfl, t8⟩
            have N8 := N7h.out.below t8
            have b8 := Lib.hid (below_then t8 b7.out)
            have hli := blist_any (Lib.hid (show BufP w8 p [] from .inr ⟨rfl, N8⟩))
            have N8h := Lib.hid N8
            clear hde t8 N8
            go_wp2_with fail
            refine hli.mono ?_
            rintro e w9 ⟨A9, c9, rfl, _, t9⟩
            have N9 := N8h.out.below t9
            have b9 := Lib.hid (below_then t9 b8.out)
            have hke := bkeys_none (Lib.hid N9)
            have hle := blen_none (Lib.hid N9)
            have N9h := Lib.hid N9
            clear hli t9 N9
            go_wp2_with fail
            refine hke.mono ?_
            rintro e w10 ⟨rfl, h10⟩
            replace h10 := h10.symm
            subst h10
            clear hke
            go_wp2_with fail
            refine hle.mono ?_
            rintro e w10 ⟨rfl, h10⟩
            replace h10 := h10.symm
            subst h10
            have y0 := s0 w9 (below_then b9.out B4.out); have y1 := s1 w9 (below_then b9.out B4.out)
            have hov := over_any (Lib.hid (show BufP w9 p [] from .inr ⟨rfl, N9h.out⟩)) f t 1000 (c := c2) (Lib.hid (RB.out.below FdR.stable (below_then b9.out B4.out))) (by omega) HOK.out
            rw [HLL.out] at hov
            clear hle
            go_wp2_with fail
            refine hov.mono ?_
            rintro e w11 ⟨A11, c11, rfl, r11, t11⟩
            have N11 := Lib.hid (N9h.out.below t11)
            have b11 := Lib.hid (below_then t11 b9.out)
            have hsf := sameFound_eq (c1 := c11) (c2 := c4) (Lib.hid r11) (Lib.hid (R4.out.below FdR.stable b11.out)) (by omega) HPL
            clear hov y0 y1 t11 r11
            go_wp2_with fail
            refine hsf.mono ?_
            rintro e w12 ⟨rfl, t12⟩
            have b12 := below_then t12 b11.out
            have X12 := BoxAt.new w12 #[.map none] 119
            have hA : Below w12.heap.size w12 (w12.alloc (.cells #[.map none] 119)) := (Below.refl _ _).alloc (Nat.le_refl _) _
            have N13 := BNone.un X12.lt (X12.cell 0)
            have b13 := Lib.hid (below_then hA b12)
            have N13h := Lib.hid N13
            clear hsf t12 b12 X12 hA N13
            go_wp2_with fail
            exact ⟨⟨i + 1, _, by omega, by go_num, rfl, N13h, b13⟩, by simp [intOf]; omega⟩
          · obtain rfl : i = 2 := by omega
            go_wp2_with fail
            refine (overlays_any wq).mono ?_
            rintro e w' ⟨rfl, hb⟩
            go_wp2_with fail
            go_ret
            exact ⟨rfl, below_then (below_then (below_then hb HT.out) B4.out) WX.out⟩
      · have e2 : (60 : Int) < (t.size : Int) := by omega
        go_wp2_with fail
        refine (overlays_any w2).mono ?_
        rintro e w' ⟨rfl, hb⟩
        go_wp2_with fail
        go_ret
        exact ⟨rfl, below_then (below_then hb b2) WX.out⟩
    · have e1 : (60 : Int) < (f.size : Int) := by omega
      go_wp2_with fail
      refine (overlays_any w2).mono ?_
      rintro e w' ⟨rfl, hb⟩
      go_wp2_with fail
      go_ret
      exact ⟨rfl, below_then (below_then hb b2) WX.out⟩
  · have e0 : (60 : Int) < (k.size : Int) := by omega
    clear hsmall
    go_enter Try.func13, Try.ntmps13
    go_wp2_with fail
    refine (overlays_any wx).mono ?_
    rintro e w' ⟨rfl, hb⟩
    go_wp2_with fail
    go_ret
    exact ⟨rfl, below_then hb WX.out⟩
end Go.Proofs.Ytpibaahiboajhaa
