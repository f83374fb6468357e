/-
  The field's tables, and how they are filled.
-/
import Derived.Test.YthhljmlpjnkfgaaGreatOnce2
import Derived.Test.YthhljmlpjnkfgaaGreatGf2
import Derived.Deep.RegionHeld3
import Derived.Deep.DeepMust
import Derived.Deep.RegionLaw
import Derived.IntWalk
set_option linter.unusedSimpArgs false
set_option linter.unusedVariables false
namespace Go.Proofs.YthhljmlpjnkfgaaGreat
open Go.RowKit Go.Cib
attribute [local go_sem] cell_set Later.cell Later.frozen Grw.cell Grw.frozen

/-- A field with its tables. -/
structure Fld (w : World) (b : Nat) : Prop where
  lt : b < w.heap.size
  don : w.cell? ⟨b, 0, none⟩ = some (.int .u32 1)
  made : w.cell? ⟨b, 3, none⟩ = some (.bool true)
  exp : ∀ i, i < 510 → w.cell? ⟨b, 4 + i, none⟩ = some (.int .u8 (ex i))
  log : ∀ x, x ≠ 0 → x < 256 → w.cell? ⟨b, 514 + x, none⟩ = some (.int .i64 (lg x))
theorem Fld.keep {w w' : World} {b : Nat} (h : Fld w b) (hb : w'.heap[b]? = w.heap[b]?) : Fld w' b where
  lt := Go.Cib.lt_of_block h.lt hb
  don := (World.cell?_of_block (a := ⟨b, 0, none⟩) hb).trans h.don
  made := (World.cell?_of_block (a := ⟨b, 3, none⟩) hb).trans h.made
  exp i hi := (World.cell?_of_block (a := ⟨b, 4 + i, none⟩) hb).trans (h.exp i hi)
  log x h0 hx := (World.cell?_of_block (a := ⟨b, 514 + x, none⟩) hb).trans (h.log x h0 hx)
theorem Fld.below {w w' : World} {b : Nat} (h : Fld w b) (hb : Below w.heap.size w w') : Fld w' b := h.keep (hb.block b h.lt)

/-- While they are filled: i powers are there. -/
structure FillI (w : World) (b i : Nat) (cs : Array Value) : Prop where
  box : BoxAt w b cs
  don : cs[0]? = some (.int .u32 0)
  lock : cs[1]? = some (.int .i32 1)
  made : cs[3]? = some (.bool true)
  size : cs.size = 770
  exp : ∀ j, j < i → cs[4 + j]? = some (.int .u8 (ex j)) ∧ cs[4 + (j + 255)]? = some (.int .u8 (ex j))
  log : ∀ j, j < i → cs[514 + ex j]? = some (.int .i64 j)
theorem set_ne {cs : Array Value} {o o' : Nat} {v : Value} (h : o ≠ o') : (cs.setIfInBounds o v)[o']? = cs[o']? := by rw [Array.getElem?_setIfInBounds, if_neg h]
theorem set_eq {cs : Array Value} {o : Nat} {v : Value} (h : o < cs.size) : (cs.setIfInBounds o v)[o]? = some v := by rw [Array.getElem?_setIfInBounds, if_pos rfl, if_pos h]
theorem FillI.next {w : World} {b i : Nat} {cs : Array Value} (h : FillI w b i cs) (hi : i < 255) :
    FillI (((w.setCell ⟨b, 4 + i, none⟩ (.int .u8 (ex i))).setCell ⟨b, 4 + (i + 255), none⟩ (.int .u8 (ex i))).setCell ⟨b, 514 + ex i, none⟩ (.int .i64 i)) b (i + 1)
      (((cs.setIfInBounds (4 + i) (.int .u8 (ex i))).setIfInBounds (4 + (i + 255)) (.int .u8 (ex i))).setIfInBounds (514 + ex i) (.int .i64 i)) := by
  have he := ex_lt i
  have hs := h.size
  refine ⟨((h.box.set _ _).set _ _).set _ _, ?_, ?_, ?_, ?_, fun j hj => ?_, fun j hj => ?_⟩
  · rw [set_ne (by omega), set_ne (by omega), set_ne (by omega)]; exact h.don
  · rw [set_ne (by omega), set_ne (by omega), set_ne (by omega)]; exact h.lock
  · rw [set_ne (by omega), set_ne (by omega), set_ne (by omega)]; exact h.made
  · simp [hs]
  · rw [set_ne (by omega), set_ne (o := 514 + ex i) (by omega)]
    by_cases e : j = i
    · subst e
      refine ⟨?_, ?_⟩
      · rw [set_ne (by omega), set_eq (by omega)]
      · rw [set_eq (by simp [hs]; omega)]
    · obtain ⟨h1, h2⟩ := h.exp j (by omega)
      refine ⟨?_, ?_⟩
      · rw [set_ne (by omega), set_ne (by omega)]; exact h1
      · rw [set_ne (by omega), set_ne (by omega)]; exact h2
  · by_cases e : j = i
    · subst e
      rw [set_eq (by simp [hs]; omega)]
    · have hne : ex i ≠ ex j := fun h2 => e (by
        have h3 := congrArg lg h2
        rw [lg_ex_lt hi, lg_ex_lt (by omega)] at h3
        exact h3.symm)
      have hj2 := ex_lt j
      rw [set_ne (by omega), set_ne (by omega), set_ne (by omega)]
      exact h.log j (by omega)

theorem FillI.drew {w : World} {b i : Nat} {cs : Array Value} (h : FillI w b i cs) : FillI w.drew b i cs := ⟨h.box.keep rfl, h.don, h.lock, h.made, h.size, h.exp, h.log⟩
theorem keep_drew {F : Nat → Prop} {a w : World} (h : Keep F a w) : Keep F a w.drew := h.trans (G := fun _ => False) (Keep.of_below ((Below.refl _ _).drew)) (fun _ h => h.elim)
theorem xt_bits {a : Nat} (h : ¬ 2 * a < 256) (ha : a < 256) : bits .xor .i64 ((a : Int) * 2) 285 = (xt a : Int) := by
  have : ∀ a : Fin 256, ¬ 2 * a.1 < 256 → bits .xor .i64 ((a.1 : Int) * 2) 285 = (xt a.1 : Int) := by decide +kernel
  exact this ⟨a, ha⟩ h
set_option maxRecDepth 100000 in
set_option maxHeartbeats 4000000 in
theorem fill_any {w : World} {b : Nat} {cs : Array Value} (h : FillI w b 0 cs) :
    Calls Tryz.prog 82 #[.pointer (some ⟨b, 0, none⟩)] w fun e w' => e = .returned (.tuple #[]) ∧ (∃ cs', FillI w' b 255 cs') ∧ Keep (· = b) w w' := by
  have HI := Lib.hid h
  clear h
  go_enter Tryz.func82, Tryz.ntmps82
  go_wp2_with fail
  go_loopw [2, 4] (fun x vi wr => ∃ (k : Nat) (cs' : Array Value), k ≤ 255 ∧ vi = .int .i64 k ∧ x = .int .i64 (ex k) ∧ Hid (FillI wr b k cs') ∧ Hid (Keep (· = b) w wr)) (fun _ vi _ => 255 - (intOf vi).toNat)
  case atStart => exact ⟨0, cs, by omega, rfl, rfl, HI, Lib.hid (Keep.refl _ _)⟩
  case round =>
    obtain ⟨k, cs', hk, rfl, rfl, HF, HK⟩ := hrel
    by_cases hlt : k < 255
    · have q1 : (k : Int) < 255 := by omega
      have q2 : (0 : Int) ≤ k := Int.natCast_nonneg _
      have he := ex_lt k
      have q3 : IntKind.u8.wrap (ex k : Int) = (ex k : Int) := by rw [IntKind.wrap_u8]; omega
      have q4 : (0 : Int) ≤ (ex k : Int) := Int.natCast_nonneg _
      have q5 : (ex k : Int) < 256 := by omega
      have q6 : IntKind.i64.wrap ((k : Int) + 255) = (k : Int) + 255 := by rw [IntKind.wrap_i64]; omega
      have q7 : ((k : Int) + 255).toNat = k + 255 := by omega
      have hs := HF.out.size
      obtain ⟨v1, hv1⟩ : ∃ v1, cs'[4 + k]? = some v1 := ⟨_, Array.getElem?_eq_getElem (by omega)⟩
      obtain ⟨v2, hv2⟩ : ∃ v2, cs'[4 + (k + 255)]? = some v2 := ⟨_, Array.getElem?_eq_getElem (by omega)⟩
      obtain ⟨v3, hv3⟩ : ∃ v3, cs'[514 + ex k]? = some v3 := ⟨_, Array.getElem?_eq_getElem (by omega)⟩
      have c1 := (HF.out.box.cell (4 + k)).trans hv1
      have c2 := (HF.out.box.cell (4 + (k + 255))).trans hv2
      have c3 := (HF.out.box.cell (514 + ex k)).trans hv3
      have f1 := HF.out.box.frozen (4 + k)
      have f2 := HF.out.box.frozen (4 + (k + 255))
      have f3 := HF.out.box.frozen (514 + ex k)
      clear hs hv1 hv2 hv3
      go_wp2_with fail
      have r1 : (k : Int) < 510 := by omega
      have r2 : (k : Int) + 255 < 510 := by omega
      have r3 : (0 : Int) ≤ (k : Int) + 255 := by omega
      go_region_held3 (fun w' => True) (trivial) (fail)
      clear r1 r2 r3
      have r4 : IntKind.i64.wrap ((ex k : Int) * 2) = (ex k : Int) * 2 := by rw [IntKind.wrap_i64]; omega
      by_cases hx : 2 * ex k < 256
      · have r5 : ¬ (ex k : Int) * 2 ≥ 256 := by omega
        have r6 : (ex k : Int) * 2 = (ex (k + 1) : Int) := by
          show _ = ((xt (ex k) : Nat) : Int)
          unfold xt
          rw [if_pos hx]; omega
        have HX := Lib.hid r6
        clear r6
        go_wp2_with fail
        exact ⟨⟨k + 1, _, by omega, by go_num, by rw [HX.out], Lib.hid (HF.out.next hlt).drew, Lib.hid (keep_drew (((HK.out.setCell (fun _ => rfl) _).setCell (fun _ => rfl) _).setCell (fun _ => rfl) _))⟩, by simp [intOf]; omega⟩
      · have r5 : (ex k : Int) * 2 ≥ 256 := by omega
        have r6 : bits .xor .i64 ((ex k : Int) * 2) 285 = (ex (k + 1) : Int) := xt_bits hx he
        have HX := Lib.hid r6
        clear r6
        go_wp2_with fail
        exact ⟨⟨k + 1, _, by omega, by go_num, by rw [HX.out], Lib.hid (HF.out.next hlt).drew, Lib.hid (keep_drew (((HK.out.setCell (fun _ => rfl) _).setCell (fun _ => rfl) _).setCell (fun _ => rfl) _))⟩, by simp [intOf]; omega⟩
    · obtain rfl : k = 255 := by omega
      go_wp2_with fail
      go_end0
      exact ⟨rfl, ⟨_, HF.out⟩, HK.out⟩

/-- A field at its beginning. -/
structure FldNew (w : World) (b : Nat) : Prop where
  ex : ∃ cs : Array Value, BoxAt w b cs ∧ cs.size = 770 ∧ cs[0]? = some (.int .u32 0) ∧ cs[1]? = some (.int .i32 0) ∧ cs[3]? = some (.bool true)
theorem FldNew.fill {w : World} {b : Nat} (h : FldNew w b) : ∃ cs, FillI (w.setCell ⟨b, 1, none⟩ (.int .i32 1)) b 0 cs := by
  obtain ⟨cs, hb, h1, h2, h3, h4⟩ := h.ex
  exact ⟨_, BoxAt.set hb 1 _, by rw [set_ne (by omega)]; exact h2, set_eq (by omega), by rw [set_ne (by omega)]; exact h4, by rw [Array.size_setIfInBounds, h1], fun _ h => absurd h (Nat.not_lt_zero _), fun _ h => absurd h (Nat.not_lt_zero _)⟩
theorem FillI.done {w : World} {b : Nat} {cs : Array Value} (h : FillI w b 255 cs) : Fld ((w.drew.setCell ⟨b, 0, none⟩ (.int .u32 1)).setCell ⟨b, 1, none⟩ (.int .i32 0)) b := by
  have hb := (h.drew.box.set 0 (.int .u32 1)).set 1 (.int .i32 0)
  have hs := h.size
  refine ⟨hb.lt, (hb.cell 0).trans ?_, (hb.cell 3).trans ?_, fun i hi => (hb.cell _).trans ?_, fun x h0 hx => (hb.cell _).trans ?_⟩
  · rw [set_ne (by omega), set_eq (by omega)]
  · rw [set_ne (by omega), set_ne (by omega)]; exact h.made
  · rw [set_ne (by omega), set_ne (by omega)]
    by_cases e : i < 255
    · exact (h.exp i e).1
    · have := (h.exp (i - 255) (by omega)).2
      rw [show i - 255 + 255 = i by omega] at this
      rw [this, ← ex_period (i - 255), show i - 255 + 255 = i by omega]
  · rw [set_ne (by omega), set_ne (by omega)]
    obtain ⟨h1, h2⟩ := ex_lg h0 hx
    have := h.log (lg x) h2
    rwa [h1] at this
theorem call_fill (args : Array Value) (w : World) : (callFunc 82 args).run Tryz.prog w = .ok (.enter 82 args) w := by go_simp
set_option maxRecDepth 100000 in
/-- The first use of a field. -/
theorem ready_new {w : World} {b : Nat} (h : FldNew w b) :
    Calls Tryz.prog 68 #[.pointer (some ⟨b, 0, none⟩)] w fun e w' => e = .returned (.bool true) ∧ Fld w' b ∧ Keep (· = b) w w' := by
  obtain ⟨cs, hc⟩ := h.fill
  obtain ⟨c0, hb, _, h0, h1, h3⟩ := h.ex
  have hF := Lib.hid (fill_any hc)
  have k3 : w.cell? ⟨b, 3, none⟩ = some (.bool true) := (BoxAt.cell hb 3).trans h3
  have hD := Lib.hid (do_first (w := w) (b := b) (pre := #[.pointer (some ⟨b, 0, none⟩)]) (R := fun w' => (∃ cs', FillI w' b 255 cs') ∧ Keep (· = b) (w.setCell ⟨b, 1, none⟩ (.int .i32 1)) w') ((BoxAt.cell hb 0).trans h0) ((BoxAt.cell hb 1).trans h1) (BoxAt.frozen hb 0) (BoxAt.frozen hb 1) call_fill (Lib.hid hF.out)
    (Lib.hid fun w' hw => by
      obtain ⟨⟨cs', h1⟩, _⟩ := hw
      exact ⟨(h1.box.cell 0).trans h1.don, (h1.box.cell 1).trans h1.lock, h1.box.frozen 0, h1.box.frozen 1⟩))
  have HN := Lib.hid h
  clear hF h hc hb h0 h1 h3
  go_enter Tryz.func68, Tryz.ntmps68
  go_wp2_with (go_at_call 81; refine hD.out.mono ?_; rintro e w' ⟨rfl, w2, ⟨⟨cs', h1⟩, h2⟩, rfl⟩; have H1 := Lib.hid h1; have H2 := Lib.hid h2; clear h1 h2 hD)
  go_ret
  exact ⟨rfl, H1.out.done, (keep_drew (((Keep.refl (· = b) w).setCell (fun _ => rfl) _).trans H2.out (fun k hk _ => hk))).setCell (fun _ => rfl) _ |>.setCell (fun _ => rfl) _⟩
set_option maxRecDepth 100000 in
theorem ready_any {w : World} {b : Nat} (h : Fld w b) :
    Calls Tryz.prog 68 #[.pointer (some ⟨b, 0, none⟩)] w fun e w' => e = .returned (.bool true) ∧ w' = w := by
  have k3 := h.made
  have hD := fun fv => do_done (a := ⟨b, 0, none⟩) (d := 1) (by decide) fv h.don
  clear h
  go_enter Tryz.func68, Tryz.ntmps68
  go_wp2_with (go_at_call 81; refine (hD _).mono ?_; rintro e w' ⟨rfl, rfl⟩)
  go_ret
  exact ⟨rfl, rfl⟩
set_option maxRecDepth 100000 in
theorem ready_nil {w : World} :
    Calls Tryz.prog 68 #[.pointer none] w fun e w' => e = .returned (.bool false) ∧ w' = w := by
  go_enter Tryz.func68, Tryz.ntmps68
  go_wp2_with fail
  go_ret
  exact ⟨rfl, rfl⟩
set_option maxRecDepth 100000 in
theorem fldnew_any {w : World} :
    Calls Tryz.prog 9 #[] w fun e w' => e = .returned (.pointer (some ⟨w.heap.size, 0, none⟩)) ∧ FldNew w' w.heap.size ∧ Below w.heap.size w w' := by
  go_enter Tryz.func9, Tryz.ntmps9
  go_wp2_with fail
  go_ret
  exact ⟨rfl, ⟨_, BoxAt.new w _ _, by kernel_rfl, by kernel_rfl, by kernel_rfl, by kernel_rfl⟩, (Below.refl _ _).alloc (Nat.le_refl _) _⟩
end Go.Proofs.YthhljmlpjnkfgaaGreat
