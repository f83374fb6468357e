/-
  The field's tables, and how they are filled.
  Rows of bytes over the field: sums of products, multiples, and what is annihilated; plain.
  Elimination over the field: what is annihilated stays; plain.
  Rows of bytes in memory, as lists of numbers below 256.
  The field's products and quotients.
  Readings of slices: the first elements, all but the first.
  Pieces of slices: what x[:k], x[k:] are.
  Fold: a row with a multiple of another one added: new.
  Matrices: small things, and one that a function tells.
  Matrices: nobody, Right, row, At, twice.
-/
import Derived.Test.YtihnlhfngmbglaaGreatAl3
import Derived.Deep.RegionHeld3
import Derived.Deep.DeepMust
import Derived.Deep.RegionLaw
import Derived.IntWalk
import Derived.Test.YtihnlhfngmbglaaGreatRows
import Derived.Test.YtihnlhfngmbglaaGreatAl1
import Derived.Lib.SliceRun
set_option linter.unusedSimpArgs false
set_option linter.unusedVariables false
namespace Go.Proofs.YtihnlhfngmbglaaGreat
open Go.RowKit Go.Cib
attribute [local go_sem] cell_set Later.cell Later.frozen Grw.cell Grw.frozen
section

/-- A field with its tables. -/
structure Fld (w : World) (b : Nat) : Prop where
  lt : b < w.heap.size
  don : w.cell? ⟨b, 0, none⟩ = some (.int .u32 1)
  made : w.cell? ⟨b, 3, none⟩ = some (.bool true)
  exp : ∀ i, i < 510 → w.cell? ⟨b, 4 + i, none⟩ = some (.int .u8 (ex i))
  log : ∀ x, x ≠ 0 → x < 256 → w.cell? ⟨b, 514 + x, none⟩ = some (.int .i64 (lg x))
theorem Fld.keep {w w' : World} {b : Nat} (h : Fld w b) (hb : w'.heap[b]? = w.heap[b]?) : Fld w' b where
  lt := Go.Cib.lt_of_block h.lt hb
  don := (World.cell?_of_block (a := ⟨b, 0, none⟩) hb).trans h.don
  made := (World.cell?_of_block (a := ⟨b, 3, none⟩) hb).trans h.made
  exp i hi := (World.cell?_of_block (a := ⟨b, 4 + i, none⟩) hb).trans (h.exp i hi)
  log x h0 hx := (World.cell?_of_block (a := ⟨b, 514 + x, none⟩) hb).trans (h.log x h0 hx)
theorem Fld.below {w w' : World} {b : Nat} (h : Fld w b) (hb : Below w.heap.size w w') : Fld w' b := h.keep (hb.block b h.lt)

/-- While they are filled: i powers are there. -/
structure FillI (w : World) (b i : Nat) (cs : Array Value) : Prop where
  box : BoxAt w b cs
  don : cs[0]? = some (.int .u32 0)
  lock : cs[1]? = some (.int .i32 1)
  made : cs[3]? = some (.bool true)
  size : cs.size = 770
  exp : ∀ j, j < i → cs[4 + j]? = some (.int .u8 (ex j)) ∧ cs[4 + (j + 255)]? = some (.int .u8 (ex j))
  log : ∀ j, j < i → cs[514 + ex j]? = some (.int .i64 j)
theorem set_ne {cs : Array Value} {o o' : Nat} {v : Value} (h : o ≠ o') : (cs.setIfInBounds o v)[o']? = cs[o']? := by rw [Array.getElem?_setIfInBounds, if_neg h]
theorem set_eq {cs : Array Value} {o : Nat} {v : Value} (h : o < cs.size) : (cs.setIfInBounds o v)[o]? = some v := by rw [Array.getElem?_setIfInBounds, if_pos rfl, if_pos h]
theorem FillI.next {w : World} {b i : Nat} {cs : Array Value} (h : FillI w b i cs) (hi : i < 255) :
    FillI (((w.setCell ⟨b, 4 + i, none⟩ (.int .u8 (ex i))).setCell ⟨b, 4 + (i + 255), none⟩ (.int .u8 (ex i))).setCell ⟨b, 514 + ex i, none⟩ (.int .i64 i)) b (i + 1)
      (((cs.setIfInBounds (4 + i) (.int .u8 (ex i))).setIfInBounds (4 + (i + 255)) (.int .u8 (ex i))).setIfInBounds (514 + ex i) (.int .i64 i)) := by
  have he := ex_lt i
  have hs := h.size
  refine ⟨((h.box.set _ _).set _ _).set _ _, ?_, ?_, ?_, ?_, fun j hj => ?_, fun j hj => ?_⟩
  · rw [set_ne (by omega), set_ne (by omega), set_ne (by omega)]; exact h.don
  · rw [set_ne (by omega), set_ne (by omega), set_ne (by omega)]; exact h.lock
  · rw [set_ne (by omega), set_ne (by omega), set_ne (by omega)]; exact h.made
  · simp [hs]
  · rw [set_ne (by omega), set_ne (o := 514 + ex i) (by omega)]
    by_cases e : j = i
    · subst e
      refine ⟨?_, ?_⟩
      · rw [set_ne (by omega), set_eq (by omega)]
      · rw [set_eq (by simp [hs]; omega)]
    · obtain ⟨h1, h2⟩ := h.exp j (by omega)
      refine ⟨?_, ?_⟩
      · rw [set_ne (by omega), set_ne (by omega)]; exact h1
      · rw [set_ne (by omega), set_ne (by omega)]; exact h2
  · by_cases e : j = i
    · subst e
      rw [set_eq (by simp [hs]; omega)]
    · have hne : ex i ≠ ex j := fun h2 => e (by
        have h3 := congrArg lg h2
        rw [lg_ex_lt hi, lg_ex_lt (by omega)] at h3
        exact h3.symm)
      have hj2 := ex_lt j
      rw [set_ne (by omega), set_ne (by omega), set_ne (by omega)]
      exact h.log j (by omega)

theorem FillI.drew {w : World} {b i : Nat} {cs : Array Value} (h : FillI w b i cs) : FillI w.drew b i cs := ⟨h.box.keep rfl, h.don, h.lock, h.made, h.size, h.exp, h.log⟩
theorem keep_drew {F : Nat → Prop} {a w : World} (h : Keep F a w) : Keep F a w.drew := h.trans (G := fun _ => False) (Keep.of_below ((Below.refl _ _).drew)) (fun _ h => h.elim)
theorem xt_bits {a : Nat} (h : ¬ 2 * a < 256) (ha : a < 256) : bits .xor .i64 ((a : Int) * 2) 285 = (xt a : Int) := by
  have : ∀ a : Fin 256, ¬ 2 * a.1 < 256 → bits .xor .i64 ((a.1 : Int) * 2) 285 = (xt a.1 : Int) := by decide +kernel
  exact this ⟨a, ha⟩ h
set_option maxRecDepth 100000 in
set_option maxHeartbeats 4000000 in
theorem fill_any {w : World} {b : Nat} {cs : Array Value} (h : FillI w b 0 cs) :
    Calls Tryz.prog 231 #[.pointer (some ⟨b, 0, none⟩)] w fun e w' => e = .returned (.tuple #[]) ∧ (∃ cs', FillI w' b 255 cs') ∧ Keep (· = b) w w' := by
  have HI := Lib.hid h
  clear h
  go_enter Tryz.func231, Tryz.ntmps231
  go_wp2_with fail
  go_loopw [2, 4] (fun x vi wr => ∃ (k : Nat) (cs' : Array Value), k ≤ 255 ∧ vi = .int .i64 k ∧ x = .int .i64 (ex k) ∧ Hid (FillI wr b k cs') ∧ Hid (Keep (· = b) w wr)) (fun _ vi _ => 255 - (intOf vi).toNat)
  case atStart => exact ⟨0, cs, by omega, rfl, rfl, HI, Lib.hid (Keep.refl _ _)⟩
  case round =>
    obtain ⟨k, cs', hk, rfl, rfl, HF, HK⟩ := hrel
    by_cases hlt : k < 255
    · have q1 : (k : Int) < 255 := by omega
      have q2 : (0 : Int) ≤ k := Int.natCast_nonneg _
      have he := ex_lt k
      have q3 : IntKind.u8.wrap (ex k : Int) = (ex k : Int) := by rw [IntKind.wrap_u8]; omega
      have q4 : (0 : Int) ≤ (ex k : Int) := Int.natCast_nonneg _
      have q5 : (ex k : Int) < 256 := by omega
      have q6 : IntKind.i64.wrap ((k : Int) + 255) = (k : Int) + 255 := by rw [IntKind.wrap_i64]; omega
      have q7 : ((k : Int) + 255).toNat = k + 255 := by omega
      have hs := HF.out.size
      obtain ⟨v1, hv1⟩ : ∃ v1, cs'[4 + k]? = some v1 := ⟨_, Array.getElem?_eq_getElem (by omega)⟩
      obtain ⟨v2, hv2⟩ : ∃ v2, cs'[4 + (k + 255)]? = some v2 := ⟨_, Array.getElem?_eq_getElem (by omega)⟩
      obtain ⟨v3, hv3⟩ : ∃ v3, cs'[514 + ex k]? = some v3 := ⟨_, Array.getElem?_eq_getElem (by omega)⟩
      have c1 := (HF.out.box.cell (4 + k)).trans hv1
      have c2 := (HF.out.box.cell (4 + (k + 255))).trans hv2
      have c3 := (HF.out.box.cell (514 + ex k)).trans hv3
      have f1 := HF.out.box.frozen (4 + k)
      have f2 := HF.out.box.frozen (4 + (k + 255))
      have f3 := HF.out.box.frozen (514 + ex k)
      clear hs hv1 hv2 hv3
      go_wp2_with fail
      have r1 : (k : Int) < 510 := by omega
      have r2 : (k : Int) + 255 < 510 := by omega
      have r3 : (0 : Int) ≤ (k : Int) + 255 := by omega
      go_region_held3 (fun w' => True) (trivial) (fail)
      clear r1 r2 r3
      have r4 : IntKind.i64.wrap ((ex k : Int) * 2) = (ex k : Int) * 2 := by rw [IntKind.wrap_i64]; omega
      by_cases hx : 2 * ex k < 256
      · have r5 : ¬ (ex k : Int) * 2 ≥ 256 := by omega
        have r6 : (ex k : Int) * 2 = (ex (k + 1) : Int) := by
          show _ = ((xt (ex k) : Nat) : Int)
          unfold xt
          rw [if_pos hx]; omega
        have HX := Lib.hid r6
        clear r6
        go_wp2_with fail
        exact ⟨⟨k + 1, _, by omega, by go_num, by rw [HX.out], Lib.hid (HF.out.next hlt).drew, Lib.hid (keep_drew (((HK.out.setCell (fun _ => rfl) _).setCell (fun _ => rfl) _).setCell (fun _ => rfl) _))⟩, by simp [intOf]; omega⟩
      · have r5 : (ex k : Int) * 2 ≥ 256 := by omega
        have r6 : bits .xor .i64 ((ex k : Int) * 2) 285 = (ex (k + 1) : Int) := xt_bits hx he
        have HX := Lib.hid r6
        clear r6
        go_wp2_with fail
        exact ⟨⟨k + 1, _, by omega, by go_num, by rw [HX.out], Lib.hid (HF.out.next hlt).drew, Lib.hid (keep_drew (((HK.out.setCell (fun _ => rfl) _).setCell (fun _ => rfl) _).setCell (fun _ => rfl) _))⟩, by simp [intOf]; omega⟩
    · obtain rfl : k = 255 := by omega
      go_wp2_with fail
      go_end0
      exact ⟨rfl, ⟨_, HF.out⟩, HK.out⟩

/-- A field at its beginning. -/
structure FldNew (w : World) (b : Nat) : Prop where
  ex : ∃ cs : Array Value, BoxAt w b cs ∧ cs.size = 770 ∧ cs[0]? = some (.int .u32 0) ∧ cs[1]? = some (.int .i32 0) ∧ cs[3]? = some (.bool true)
theorem FldNew.fill {w : World} {b : Nat} (h : FldNew w b) : ∃ cs, FillI (w.setCell ⟨b, 1, none⟩ (.int .i32 1)) b 0 cs := by
  obtain ⟨cs, hb, h1, h2, h3, h4⟩ := h.ex
  exact ⟨_, BoxAt.set hb 1 _, by rw [set_ne (by omega)]; exact h2, set_eq (by omega), by rw [set_ne (by omega)]; exact h4, by rw [Array.size_setIfInBounds, h1], fun _ h => absurd h (Nat.not_lt_zero _), fun _ h => absurd h (Nat.not_lt_zero _)⟩
theorem FillI.done {w : World} {b : Nat} {cs : Array Value} (h : FillI w b 255 cs) : Fld ((w.drew.setCell ⟨b, 0, none⟩ (.int .u32 1)).setCell ⟨b, 1, none⟩ (.int .i32 0)) b := by
  have hb := (h.drew.box.set 0 (.int .u32 1)).set 1 (.int .i32 0)
  have hs := h.size
  refine ⟨hb.lt, (hb.cell 0).trans ?_, (hb.cell 3).trans ?_, fun i hi => (hb.cell _).trans ?_, fun x h0 hx => (hb.cell _).trans ?_⟩
  · rw [set_ne (by omega), set_eq (by omega)]
  · rw [set_ne (by omega), set_ne (by omega)]; exact h.made
  · rw [set_ne (by omega), set_ne (by omega)]
    by_cases e : i < 255
    · exact (h.exp i e).1
    · have := (h.exp (i - 255) (by omega)).2
      rw [show i - 255 + 255 = i by omega] at this
      rw [this, ← ex_period (i - 255), show i - 255 + 255 = i by omega]
  · rw [set_ne (by omega), set_ne (by omega)]
    obtain ⟨h1, h2⟩ := ex_lg h0 hx
    have := h.log (lg x) h2
    rwa [h1] at this
theorem call_fill (args : Array Value) (w : World) : (callFunc 231 args).run Tryz.prog w = .ok (.enter 231 args) w := by go_simp
set_option maxRecDepth 100000 in
/-- The first use of a field. -/
theorem ready_new {w : World} {b : Nat} (h : FldNew w b) :
    Calls Tryz.prog 199 #[.pointer (some ⟨b, 0, none⟩)] w fun e w' => e = .returned (.bool true) ∧ Fld w' b ∧ Keep (· = b) w w' := by
  obtain ⟨cs, hc⟩ := h.fill
  obtain ⟨c0, hb, _, h0, h1, h3⟩ := h.ex
  have hF := Lib.hid (fill_any hc)
  have k3 : w.cell? ⟨b, 3, none⟩ = some (.bool true) := (BoxAt.cell hb 3).trans h3
  have hD := Lib.hid (do_first (w := w) (b := b) (pre := #[.pointer (some ⟨b, 0, none⟩)]) (R := fun w' => (∃ cs', FillI w' b 255 cs') ∧ Keep (· = b) (w.setCell ⟨b, 1, none⟩ (.int .i32 1)) w') ((BoxAt.cell hb 0).trans h0) ((BoxAt.cell hb 1).trans h1) (BoxAt.frozen hb 0) (BoxAt.frozen hb 1) call_fill (Lib.hid hF.out)
    (Lib.hid fun w' hw => by
      obtain ⟨⟨cs', h1⟩, _⟩ := hw
      exact ⟨(h1.box.cell 0).trans h1.don, (h1.box.cell 1).trans h1.lock, h1.box.frozen 0, h1.box.frozen 1⟩))
  have HN := Lib.hid h
  clear hF h hc hb h0 h1 h3
  go_enter Tryz.func199, Tryz.ntmps199
  go_wp2_with (go_at_call 230; refine hD.out.mono ?_; rintro e w' ⟨rfl, w2, ⟨⟨cs', h1⟩, h2⟩, rfl⟩; have H1 := Lib.hid h1; have H2 := Lib.hid h2; clear h1 h2 hD)
  go_ret
  exact ⟨rfl, H1.out.done, (keep_drew (((Keep.refl (· = b) w).setCell (fun _ => rfl) _).trans H2.out (fun k hk _ => hk))).setCell (fun _ => rfl) _ |>.setCell (fun _ => rfl) _⟩
set_option maxRecDepth 100000 in
theorem ready_any {w : World} {b : Nat} (h : Fld w b) :
    Calls Tryz.prog 199 #[.pointer (some ⟨b, 0, none⟩)] w fun e w' => e = .returned (.bool true) ∧ w' = w := by
  have k3 := h.made
  have hD := fun fv => do_done (a := ⟨b, 0, none⟩) (d := 1) (by decide) fv h.don
  clear h
  go_enter Tryz.func199, Tryz.ntmps199
  go_wp2_with (go_at_call 230; refine (hD _).mono ?_; rintro e w' ⟨rfl, rfl⟩)
  go_ret
  exact ⟨rfl, rfl⟩
set_option maxRecDepth 100000 in
theorem fldnew_any {w : World} :
    Calls Tryz.prog 81 #[] w fun e w' => e = .returned (.pointer (some ⟨w.heap.size, 0, none⟩)) ∧ FldNew w' w.heap.size ∧ Below w.heap.size w w' := by
  go_enter Tryz.func81, Tryz.ntmps81
  go_wp2_with fail
  go_ret
  exact ⟨rfl, ⟨_, BoxAt.new w _ _, by kernel_rfl, by kernel_rfl, by kernel_rfl, by kernel_rfl⟩, (Below.refl _ _).alloc (Nat.le_refl _) _⟩
end
section

instance : Std.Associative gm := ⟨gm_assoc⟩
instance : Std.Commutative gm := ⟨gm_comm⟩
theorem gm_xor2 {a b c : Nat} (ha : a < 256) (hb : b < 256) : gm (a ^^^ b) c = gm a c ^^^ gm b c := by
  rw [gm_comm, gm_xor ha hb, gm_comm c a, gm_comm c b]
theorem zero_gm (a : Nat) : gm 0 a = 0 := by rw [gm_comm, gm_zero]
theorem gm_one2 {b : Nat} (hb : b < 256) : gm b 1 = b := by rw [gm_comm, gm_one hb]
theorem inv_ne {a : Nat} (h0 : a ≠ 0) (h : a < 256) : inv a ≠ 0 := fun e => by
  have := gm_inv h0 h
  rw [e, gm_zero] at this; cases this
theorem gm_eq_zero {a b : Nat} (h : gm a b = 0) (ha : a ≠ 0) : b = 0 := by
  rcases Nat.eq_zero_or_pos b with hb | hb
  · exact hb
  · exact absurd h (gm_ne ha (by omega))
theorem xor_zero_eq {a b : Nat} (h : a ^^^ b = 0) : a = b := by
  have h2 : (a ^^^ b) ^^^ b = 0 ^^^ b := by rw [h]
  rw [Nat.xor_assoc, Nat.xor_self, Nat.xor_zero, Nat.zero_xor] at h2
  exact h2
theorem xor_ne {a b : Nat} (h : a ≠ b) : a ^^^ b ≠ 0 := fun e => h (xor_zero_eq e)

/-- The sum of the first n. -/
def sumx (f : Nat → Nat) : Nat → Nat
  | 0 => 0
  | n + 1 => sumx f n ^^^ f n
theorem sumx_lt {f : Nat → Nat} (h : ∀ i, f i < 256) : ∀ n, sumx f n < 256
  | 0 => Nat.succ_pos _
  | n + 1 => xor_lt (sumx_lt h n) (h n)
theorem sumx_cong {f g : Nat → Nat} : ∀ {n : Nat}, (∀ i, i < n → f i = g i) → sumx f n = sumx g n
  | 0, _ => rfl
  | n + 1, h => by
    show sumx f n ^^^ f n = sumx g n ^^^ g n
    rw [sumx_cong fun i hi => h i (by omega), h n (by omega)]
theorem sumx_xor (f g : Nat → Nat) : ∀ n, sumx (fun i => f i ^^^ g i) n = sumx f n ^^^ sumx g n
  | 0 => (Nat.xor_self 0).symm
  | n + 1 => by
    show sumx (fun i => f i ^^^ g i) n ^^^ (f n ^^^ g n) = (sumx f n ^^^ f n) ^^^ (sumx g n ^^^ g n)
    rw [sumx_xor f g n]
    ac_rfl
theorem sumx_mul {f : Nat → Nat} (h : ∀ i, f i < 256) (c : Nat) : ∀ n, gm c (sumx f n) = sumx (fun i => gm c (f i)) n
  | 0 => gm_zero c
  | n + 1 => by
    show gm c (sumx f n ^^^ f n) = sumx (fun i => gm c (f i)) n ^^^ gm c (f n)
    rw [gm_xor (sumx_lt h n) (h n), sumx_mul h c n]
theorem sumx_zero {f : Nat → Nat} : ∀ {n : Nat}, (∀ i, i < n → f i = 0) → sumx f n = 0
  | 0, _ => rfl
  | n + 1, h => by
    show sumx f n ^^^ f n = 0
    rw [sumx_zero fun i hi => h i (by omega), h n (by omega)]; rfl
theorem sumx_one {f : Nat → Nat} {j : Nat} : ∀ {n : Nat}, j < n → (∀ i, i < n → i ≠ j → f i = 0) → sumx f n = f j
  | 0, h, _ => absurd h (Nat.not_lt_zero _)
  | n + 1, h, h2 => by
    show sumx f n ^^^ f n = f j
    by_cases e : j = n
    · subst e
      rw [sumx_zero fun i hi => h2 i (by omega) (by omega), Nat.zero_xor]
    · rw [sumx_one (by omega) fun i hi hne => h2 i (by omega) hne, h2 n (by omega) (fun h => e h.symm), Nat.xor_zero]
theorem sumx_add (f : Nat → Nat) (n : Nat) : ∀ m, sumx f (n + m) = sumx f n ^^^ sumx (fun i => f (n + i)) m
  | 0 => by show sumx f n = sumx f n ^^^ 0; rw [Nat.xor_zero]
  | m + 1 => by
    show sumx f (n + m) ^^^ f (n + m) = sumx f n ^^^ (sumx (fun i => f (n + i)) m ^^^ f (n + m))
    rw [sumx_add f n m, Nat.xor_assoc]
theorem sumx_swap (f : Nat → Nat → Nat) (m : Nat) : ∀ n, sumx (fun i => sumx (f i) m) n = sumx (fun j => sumx (fun i => f i j) n) m
  | 0 => (sumx_zero fun _ _ => rfl).symm
  | n + 1 => by
    show sumx (fun i => sumx (f i) m) n ^^^ sumx (f n) m = sumx (fun j => sumx (fun i => f i j) n ^^^ f n j) m
    rw [sumx_swap f m n, sumx_xor]

/-! ### Rows -/

/-- All are bytes. -/
def Byt (l : List Nat) : Prop := ∀ x ∈ l, x < 256
def gt (l : List Nat) (i : Nat) : Nat := l.getD i 0
theorem gt_lt {l : List Nat} (h : Byt l) (i : Nat) : gt l i < 256 := by
  unfold gt
  rw [List.getD_eq_getElem?_getD]
  cases e : l[i]? with
  | none => exact Nat.succ_pos _
  | some x => exact h x (List.mem_of_getElem? e)
theorem gt_of_lt {l : List Nat} {i : Nat} (h : i < l.length) : l[i]? = some (gt l i) := by
  unfold gt
  rw [List.getD_eq_getElem?_getD, List.getElem?_eq_getElem h]; rfl
theorem gt_ge {l : List Nat} {i : Nat} (h : l.length ≤ i) : gt l i = 0 := by
  unfold gt
  rw [List.getD_eq_getElem?_getD, List.getElem?_eq_none h]; rfl
theorem gt_ext {a b : List Nat} (h : a.length = b.length) (h2 : ∀ i, i < a.length → gt a i = gt b i) : a = b := by
  refine List.ext_getElem? fun i => ?_
  by_cases hi : i < a.length
  · rw [gt_of_lt hi, gt_of_lt (h ▸ hi), h2 i hi]
  · rw [List.getElem?_eq_none (by omega), List.getElem?_eq_none (by omega)]
theorem gt_append (a b : List Nat) (i : Nat) : gt (a ++ b) i = if i < a.length then gt a i else gt b (i - a.length) := by
  unfold gt
  split
  · rename_i h
    rw [List.getD_eq_getElem?_getD, List.getD_eq_getElem?_getD, List.getElem?_append_left h]
  · rename_i h
    rw [List.getD_eq_getElem?_getD, List.getD_eq_getElem?_getD, List.getElem?_append_right (by omega)]

/-- A row times c. -/
def sc (c : Nat) (row : List Nat) : List Nat := row.map (gm c)
/-- Into, with c times row added. -/
def fd (c : Nat) : List Nat → List Nat → List Nat
  | [], into => into
  | _ :: _, [] => []
  | r :: row, x :: into => (x ^^^ gm c r) :: fd c row into
theorem sc_len (c : Nat) (row : List Nat) : (sc c row).length = row.length := List.length_map ..
theorem sc_byt (c : Nat) (row : List Nat) : Byt (sc c row) := fun x h => by
  obtain ⟨y, _, rfl⟩ := List.mem_map.1 h
  exact gm_lt
theorem sc_gt (c : Nat) (row : List Nat) (i : Nat) : gt (sc c row) i = gm c (gt row i) := by
  unfold gt sc
  rw [List.getD_eq_getElem?_getD, List.getD_eq_getElem?_getD, List.getElem?_map]
  cases row[i]? with
  | none => exact (gm_zero c).symm
  | some x => rfl
theorem fd_len (c : Nat) : ∀ row into : List Nat, (fd c row into).length = into.length
  | [], _ => rfl
  | _ :: _, [] => rfl
  | _ :: row, _ :: into => by show (fd c row into).length + 1 = _; rw [fd_len c row into]; rfl
theorem fd_byt (c : Nat) : ∀ row into : List Nat, Byt into → Byt (fd c row into)
  | [], _, h => h
  | _ :: _, [], h => h
  | r :: row, x :: into, h => fun y hy => by
    rcases List.mem_cons.1 hy with rfl | hy
    · exact xor_lt (h x (List.mem_cons_self ..)) gm_lt
    · exact fd_byt c row into (fun z hz => h z (List.mem_cons_of_mem _ hz)) y hy
theorem fd_gt (c : Nat) : ∀ (row into : List Nat) (i : Nat), row.length ≤ into.length → gt (fd c row into) i = gt into i ^^^ gm c (gt row i)
  | [], into, i, _ => by
    show gt into i = gt into i ^^^ gm c 0
    rw [gm_zero, Nat.xor_zero]
  | _ :: _, [], _, h => absurd h (by simp)
  | r :: row, x :: into, 0, _ => rfl
  | r :: row, x :: into, i + 1, h => fd_gt c row into i (by simpa using h)
theorem fd_zero {row into : List Nat} (h : row.length ≤ into.length) : fd 0 row into = into :=
  gt_ext (fd_len ..) fun i _ => by rw [fd_gt 0 row into i h, zero_gm, Nat.xor_zero]

/-- The sum of the products with y of the first n. -/
def dt (n : Nat) (r : List Nat) (y : Nat → Nat) : Nat := sumx (fun l => gm (gt r l) (y l)) n
theorem dt_sc (n c : Nat) (r : List Nat) (y : Nat → Nat) : dt n (sc c r) y = gm c (dt n r y) := by
  unfold dt
  rw [sumx_mul fun _ => gm_lt]
  exact sumx_cong fun i _ => by rw [sc_gt, gm_assoc]
theorem dt_fd {n c : Nat} {r s : List Nat} (y : Nat → Nat) (h : r.length ≤ s.length) (hs : Byt s) : dt n (fd c r s) y = dt n s y ^^^ gm c (dt n r y) := by
  unfold dt
  rw [sumx_mul fun _ => gm_lt, ← sumx_xor]
  exact sumx_cong fun i _ => by rw [fd_gt c r s i h, gm_xor2 (gt_lt hs i) gm_lt, gm_assoc]
theorem dt_lt {n : Nat} {r : List Nat} {y : Nat → Nat} : dt n r y < 256 := sumx_lt (fun _ => gm_lt) n

/-! ### The short law of the sums of fractions -/

def fr (a : Nat) : List (Nat × Nat) → Nat
  | [] => 0
  | (b, x) :: l => gm x (inv (a ^^^ b)) ^^^ fr a l
theorem fr_lt (a : Nat) : ∀ l, fr a l < 256
  | [] => Nat.succ_pos _
  | (_, _) :: l => xor_lt gm_lt (fr_lt a l)
theorem inv_gm {u w : Nat} (h0 : u ≠ 0) (h : u < 256) (hw : w < 256) : gm u (gm w (inv u)) = w := by
  rw [show gm u (gm w (inv u)) = gm w (gm u (inv u)) by ac_rfl, gm_inv h0 h, gm_one2 hw]
/-- (a+b) x/(a+b') + (a0+b) x/(a0+b') = (a+a0) (x (b+b')/(a0+b')) / (a+b'). -/
theorem frac {u v w x : Nat} (hu : u < 256) (hv : v < 256) (hw : w < 256) (hx : x < 256) (u0 : u ≠ 0) (v0 : v ≠ 0) :
    gm (u ^^^ w) (gm x (inv u)) ^^^ gm (v ^^^ w) (gm x (inv v)) = gm (u ^^^ v) (gm (gm x (gm w (inv v))) (inv u)) := by
  rw [gm_xor2 hu hw, gm_xor2 hv hw, gm_xor2 hu hv, inv_gm u0 hu hx, inv_gm v0 hv hx]
  have e1 : gm u (gm (gm x (gm w (inv v))) (inv u)) = gm x (gm w (inv v)) := inv_gm u0 hu gm_lt
  have e2 : gm v (gm (gm x (gm w (inv v))) (inv u)) = gm x (gm w (inv u)) := by
    rw [show gm v (gm (gm x (gm w (inv v))) (inv u)) = gm v (gm (gm x (gm w (inv u))) (inv v)) by ac_rfl]
    exact inv_gm v0 hv gm_lt
  rw [e1, e2]
  rw [show gm w (gm x (inv u)) = gm x (gm w (inv u)) by ac_rfl, show gm w (gm x (inv v)) = gm x (gm w (inv v)) by ac_rfl]
  have h : ∀ p q r : Nat, (p ^^^ q) ^^^ (p ^^^ r) = r ^^^ q := fun p q r => by
    rw [show (p ^^^ q) ^^^ (p ^^^ r) = (p ^^^ p) ^^^ (r ^^^ q) by ac_rfl, Nat.xor_self, Nat.zero_xor]
  exact h _ _ _
def nx (a0 b : Nat) (l : List (Nat × Nat)) : List (Nat × Nat) := l.map fun p => (p.1, gm p.2 (gm (b ^^^ p.1) (inv (a0 ^^^ p.1))))
theorem fr_next {a a0 b : Nat} (ha : a < 256) (ha0 : a0 < 256) (hb : b < 256) : ∀ l : List (Nat × Nat), (∀ p ∈ l, p.1 < 256 ∧ p.2 < 256 ∧ a ≠ p.1 ∧ a0 ≠ p.1) →
    gm (a ^^^ b) (fr a l) ^^^ gm (a0 ^^^ b) (fr a0 l) = gm (a ^^^ a0) (fr a (nx a0 b l))
  | [], _ => by
    show gm _ 0 ^^^ gm _ 0 = gm _ 0
    rw [gm_zero, gm_zero, gm_zero]; rfl
  | (b', x) :: l, h => by
    obtain ⟨hb', hx, h1, h2⟩ := h (b', x) (List.mem_cons_self ..)
    have ih := fr_next ha ha0 hb l fun p hp => h p (List.mem_cons_of_mem _ hp)
    show gm (a ^^^ b) (gm x (inv (a ^^^ b')) ^^^ fr a l) ^^^ gm (a0 ^^^ b) (gm x (inv (a0 ^^^ b')) ^^^ fr a0 l) = gm (a ^^^ a0) (gm (gm x (gm (b ^^^ b') (inv (a0 ^^^ b')))) (inv (a ^^^ b')) ^^^ fr a (nx a0 b l))
    rw [gm_xor gm_lt (fr_lt a l), gm_xor gm_lt (fr_lt a0 l), gm_xor gm_lt (fr_lt a _), ← ih]
    have e := frac (u := a ^^^ b') (v := a0 ^^^ b') (w := b ^^^ b') (x := x) (xor_lt ha hb') (xor_lt ha0 hb') (xor_lt hb hb') hx (xor_ne h1) (xor_ne h2)
    have ex : ∀ p : Nat, (p ^^^ b') ^^^ (b ^^^ b') = p ^^^ b := fun p => by
      rw [show (p ^^^ b') ^^^ (b ^^^ b') = (p ^^^ b) ^^^ (b' ^^^ b') by ac_rfl, Nat.xor_self, Nat.xor_zero]
    have ex2 : (a ^^^ b') ^^^ (a0 ^^^ b') = a ^^^ a0 := by
      rw [show (a ^^^ b') ^^^ (a0 ^^^ b') = (a ^^^ a0) ^^^ (b' ^^^ b') by ac_rfl, Nat.xor_self, Nat.xor_zero]
    rw [ex, ex, ex2] at e
    rw [← e]
    ac_rfl
theorem nx_fst (a0 b : Nat) (l : List (Nat × Nat)) : (nx a0 b l).map Prod.fst = l.map Prod.fst := by
  unfold nx
  rw [List.map_map]; rfl
theorem cauchy : ∀ (L : List (Nat × Nat)) (A : List Nat), L.length ≤ A.length → A.Nodup → (L.map Prod.fst).Nodup → (∀ a ∈ A, a < 256) → (∀ p ∈ L, p.1 < 256 ∧ p.2 < 256) → (∀ a ∈ A, ∀ p ∈ L, a ≠ p.1) → (∀ a ∈ A, fr a L = 0) → ∀ p ∈ L, p.2 = 0
  | [], _, _, _, _, _, _, _, _ => fun _ h => by cases h
  | (b, x) :: L, [], h, _, _, _, _, _, _ => absurd h (by simp)
  | (b, x) :: L, a0 :: A, hlen, hA, hL, ba, bl, hne, hz => by
    have ha0 := ba a0 (List.mem_cons_self ..)
    have hbx := bl (b, x) (List.mem_cons_self ..)
    rw [List.nodup_cons] at hA
    rw [List.map_cons, List.nodup_cons] at hL
    have hne0 : a0 ≠ b := hne a0 (List.mem_cons_self ..) (b, x) (List.mem_cons_self ..)
    have hnext : ∀ a ∈ A, fr a (nx a0 b L) = 0 := fun a ha => by
      have ha1 := ba a (List.mem_cons_of_mem _ ha)
      have haa : a ≠ a0 := fun e => hA.1 (e ▸ ha)
      have hab : a ≠ b := hne a (List.mem_cons_of_mem _ ha) (b, x) (List.mem_cons_self ..)
      have e := fr_next ha1 ha0 hbx.1 L fun p hp => ⟨(bl p (List.mem_cons_of_mem _ hp)).1, (bl p (List.mem_cons_of_mem _ hp)).2, hne a (List.mem_cons_of_mem _ ha) p (List.mem_cons_of_mem _ hp), hne a0 (List.mem_cons_self ..) p (List.mem_cons_of_mem _ hp)⟩
      have z1 : gm x (inv (a ^^^ b)) ^^^ fr a L = 0 := hz a (List.mem_cons_of_mem _ ha)
      have z2 : gm x (inv (a0 ^^^ b)) ^^^ fr a0 L = 0 := hz a0 (List.mem_cons_self ..)
      rw [← xor_zero_eq z1, ← xor_zero_eq z2, inv_gm (xor_ne hab) (xor_lt ha1 hbx.1) hbx.2, inv_gm (xor_ne hne0) (xor_lt ha0 hbx.1) hbx.2, Nat.xor_self] at e
      exact gm_eq_zero e.symm (xor_ne haa)
    have hrest : ∀ p ∈ L, p.2 = 0 := fun p hp => by
      have ih := cauchy (nx a0 b L) A (by unfold nx; rw [List.length_map]; simpa using hlen) hA.2 (by rw [nx_fst]; exact hL.2) (fun a ha => ba a (List.mem_cons_of_mem _ ha))
        (fun q hq => by
          obtain ⟨p, hp, rfl⟩ := List.mem_map.1 hq
          exact ⟨(bl p (List.mem_cons_of_mem _ hp)).1, gm_lt⟩)
        (fun a ha q hq => by
          obtain ⟨p, hp, rfl⟩ := List.mem_map.1 hq
          exact hne a (List.mem_cons_of_mem _ ha) p (List.mem_cons_of_mem _ hp)) hnext (p.1, gm p.2 (gm (b ^^^ p.1) (inv (a0 ^^^ p.1)))) (List.mem_map.2 ⟨p, hp, rfl⟩)
      have hp1 := bl p (List.mem_cons_of_mem _ hp)
      have hbp : b ≠ p.1 := fun e => hL.1 (e ▸ List.mem_map.2 ⟨p, hp, rfl⟩)
      have hap : a0 ≠ p.1 := hne a0 (List.mem_cons_self ..) p (List.mem_cons_of_mem _ hp)
      have hne2 : gm (b ^^^ p.1) (inv (a0 ^^^ p.1)) ≠ 0 := gm_ne (xor_ne hbp) (inv_ne (xor_ne hap) (xor_lt ha0 hp1.1))
      rw [gm_comm] at ih
      exact gm_eq_zero ih hne2
    have hfr : ∀ (M : List (Nat × Nat)), (∀ p ∈ M, p.2 = 0) → fr a0 M = 0 := by
      intro M
      induction M with
      | nil => exact fun _ => rfl
      | cons q M ih =>
        obtain ⟨q1, q2⟩ := q
        intro hM
        show gm q2 _ ^^^ fr a0 M = 0
        rw [ih fun p hp => hM p (List.mem_cons_of_mem _ hp), show q2 = 0 from hM (q1, q2) (List.mem_cons_self ..), zero_gm]; rfl
    intro p hp
    rcases List.mem_cons.1 hp with rfl | hp
    · have z2 : gm x (inv (a0 ^^^ b)) ^^^ fr a0 L = 0 := hz a0 (List.mem_cons_self ..)
      rw [hfr L hrest, Nat.xor_zero, gm_comm] at z2
      exact gm_eq_zero z2 (inv_ne (xor_ne hne0) (xor_lt ha0 hbx.1))
    · exact hrest p hp
end
section

abbrev Rws := List (List Nat)
def ra (a : Rws) (i : Nat) : List Nat := a.getD i []
theorem ra_of_lt {a : Rws} {i : Nat} (h : i < a.length) : a[i]? = some (ra a i) := by
  unfold ra
  rw [List.getD_eq_getElem?_getD, List.getElem?_eq_getElem h]; rfl
theorem ra_some {a : Rws} {i : Nat} {r : List Nat} (h : a[i]? = some r) : ra a i = r := by
  unfold ra
  rw [List.getD_eq_getElem?_getD, h]; rfl
theorem ra_mem {a : Rws} {i : Nat} (h : i < a.length) : ra a i ∈ a := List.mem_of_getElem? (ra_of_lt h)
theorem ra_ext {a b : Rws} (h : a.length = b.length) (h2 : ∀ i, i < a.length → ra a i = ra b i) : a = b := by
  refine List.ext_getElem? fun i => ?_
  by_cases hi : i < a.length
  · rw [ra_of_lt hi, ra_of_lt (h ▸ hi), h2 i hi]
  · rw [List.getElem?_eq_none (by omega), List.getElem?_eq_none (by omega)]
theorem ra_mapIdx (f : Nat → List Nat → List Nat) {a : Rws} {i : Nat} (h : i < a.length) : ra (a.mapIdx f) i = f i (ra a i) := by
  refine ra_some ?_
  rw [List.getElem?_mapIdx, ra_of_lt h]; rfl

/-- n rows of m bytes. -/
def Shp (n m : Nat) (a : Rws) : Prop := a.length = n ∧ ∀ r ∈ a, r.length = m ∧ Byt r
theorem Shp.row {n m : Nat} {a : Rws} (h : Shp n m a) {i : Nat} (hi : i < n) : (ra a i).length = m ∧ Byt (ra a i) := h.2 _ (ra_mem (by rw [h.1]; exact hi))
theorem Shp.of {n m : Nat} {a : Rws} (h : a.length = n) (h2 : ∀ i, i < n → (ra a i).length = m ∧ Byt (ra a i)) : Shp n m a := ⟨h, fun r hr => by
  obtain ⟨i, hi, rfl⟩ := List.mem_iff_getElem.1 hr
  have := h2 i (h ▸ hi)
  rwa [ra_some (List.getElem?_eq_getElem hi)] at this⟩

def Ann (n m : Nat) (a : Rws) (y : Nat → Nat) : Prop := ∀ i, i < n → dt m (ra a i) y = 0

/-! ### The steps -/

def swF (a : Rws) (i j : Nat) : Rws := (a.set i (ra a j)).set j (ra a i)
theorem swF_len (a : Rws) (i j : Nat) : (swF a i j).length = a.length := by unfold swF; rw [List.length_set, List.length_set]
theorem ra_set (a : Rws) (i : Nat) (r : List Nat) {k : Nat} (hk : k < a.length) : ra (a.set i r) k = if k = i then r else ra a k := by
  refine ra_some ?_
  rw [List.getElem?_set]
  split
  · rename_i h
    subst h
    rw [if_pos rfl, if_pos hk]
  · rename_i h
    rw [if_neg (fun e => h e.symm), ra_of_lt hk]
theorem swF_ra (a : Rws) (i j : Nat) {k : Nat} (hk : k < a.length) : ra (swF a i j) k = if k = j then ra a i else if k = i then ra a j else ra a k := by
  unfold swF
  rw [ra_set _ _ _ (by rw [List.length_set]; exact hk), ra_set _ _ _ hk]
def scF (j c : Nat) (a : Rws) : Rws := a.mapIdx fun i r => if i = j then sc c r else r
def elF (P : Nat → Bool) (j col : Nat) (a : Rws) : Rws := a.mapIdx fun i r => if P i = true then fd (gt r col) (ra a j) r else r
theorem scF_len (j c : Nat) (a : Rws) : (scF j c a).length = a.length := List.length_mapIdx ..
theorem elF_len (P : Nat → Bool) (j col : Nat) (a : Rws) : (elF P j col a).length = a.length := List.length_mapIdx ..
theorem scF_ra (j c : Nat) {a : Rws} {i : Nat} (h : i < a.length) : ra (scF j c a) i = if i = j then sc c (ra a i) else ra a i := ra_mapIdx _ h
theorem elF_ra (P : Nat → Bool) (j col : Nat) {a : Rws} {i : Nat} (h : i < a.length) : ra (elF P j col a) i = if P i = true then fd (gt (ra a i) col) (ra a j) (ra a i) else ra a i := ra_mapIdx _ h
section
variable {n m : Nat} {a : Rws}
theorem swF_shp {i j : Nat} (h : Shp n m a) (hi : i < n) (hj : j < n) : Shp n m (swF a i j) := .of (by rw [swF_len, h.1]) fun k hk => by
  rw [swF_ra _ _ _ (by rw [h.1]; exact hk)]
  split
  · exact h.row hi
  · split
    · exact h.row hj
    · exact h.row hk
theorem scF_shp {j c : Nat} (h : Shp n m a) : Shp n m (scF j c a) := .of (by rw [scF_len, h.1]) fun k hk => by
  rw [scF_ra _ _ (by rw [h.1]; exact hk)]
  split
  · exact ⟨by rw [sc_len]; exact (h.row hk).1, sc_byt _ _⟩
  · exact h.row hk
theorem elF_shp {P : Nat → Bool} {j col : Nat} (h : Shp n m a) : Shp n m (elF P j col a) := .of (by rw [elF_len, h.1]) fun k hk => by
  rw [elF_ra _ _ _ (by rw [h.1]; exact hk)]
  split
  · exact ⟨by rw [fd_len]; exact (h.row hk).1, fd_byt _ _ _ (h.row hk).2⟩
  · exact h.row hk
theorem swF_ann {i j : Nat} (h : a.length = n) (hi : i < n) (hj : j < n) (y : Nat → Nat) : Ann n m (swF a i j) y ↔ Ann n m a y := by
  have e : ∀ k, k < n → ra (swF a i j) k = if k = j then ra a i else if k = i then ra a j else ra a k := fun k hk => swF_ra a i j (by rw [h]; exact hk)
  constructor
  · intro H k hk
    by_cases h1 : k = i
    · subst h1
      have := H j hj
      rwa [e j hj, if_pos rfl] at this
    · by_cases h2 : k = j
      · subst h2
        have := H i hi
        rw [e i hi] at this
        by_cases h3 : i = k
        · exact absurd h3.symm h1
        · rwa [if_neg h3, if_pos rfl] at this
      · have := H k hk
        rwa [e k hk, if_neg h2, if_neg h1] at this
  · intro H k hk
    rw [e k hk]
    split
    · exact H i hi
    · split
      · exact H j hj
      · exact H k hk
theorem scF_ann {j c : Nat} (h : a.length = n) (hc : c ≠ 0) (y : Nat → Nat) : Ann n m (scF j c a) y ↔ Ann n m a y := by
  have e : ∀ k, k < n → ra (scF j c a) k = if k = j then sc c (ra a k) else ra a k := fun k hk => scF_ra j c (by rw [h]; exact hk)
  constructor
  · intro H k hk
    have := H k hk
    rw [e k hk] at this
    split at this
    · rw [dt_sc] at this
      exact gm_eq_zero this hc
    · exact this
  · intro H k hk
    rw [e k hk]
    split
    · rw [dt_sc, H k hk, gm_zero]
    · exact H k hk
theorem elF_ann {P : Nat → Bool} {j col : Nat} (h : Shp n m a) (hj : j < n) (hP : P j = false) (y : Nat → Nat) : Ann n m (elF P j col a) y ↔ Ann n m a y := by
  have e : ∀ k, k < n → ra (elF P j col a) k = if P k = true then fd (gt (ra a k) col) (ra a j) (ra a k) else ra a k := fun k hk => elF_ra P j col (by rw [h.1]; exact hk)
  have d : ∀ k, k < n → dt m (fd (gt (ra a k) col) (ra a j) (ra a k)) y = dt m (ra a k) y ^^^ gm (gt (ra a k) col) (dt m (ra a j) y) := fun k hk => dt_fd y (by rw [(h.row hk).1, (h.row hj).1]; exact Nat.le_refl _) (h.row hk).2
  constructor
  · intro H
    have h0 : dt m (ra a j) y = 0 := by
      have := H j hj
      rwa [e j hj, hP, if_neg (by decide)] at this
    intro k hk
    have := H k hk
    rw [e k hk] at this
    split at this
    · rwa [d k hk, h0, gm_zero, Nat.xor_zero] at this
    · exact this
  · intro H k hk
    rw [e k hk]
    split
    · rw [d k hk, H j hj, gm_zero, Nat.xor_zero, H k hk]
    · exact H k hk
end

/-! ### Where no row has a pivot -/

/-- Only nought is annihilated. -/
def Inj (n : Nat) (a : Rws) : Prop := ∀ x : Nat → Nat, (∀ l, x l < 256) → (∀ l, n ≤ l → x l = 0) → (∀ i, i < n → dt n (ra a i) x = 0) → ∀ l, x l = 0
theorem dt_xor {n : Nat} {r : List Nat} {x z : Nat → Nat} (hx : ∀ l, x l < 256) (hz : ∀ l, z l < 256) : dt n r (fun l => x l ^^^ z l) = dt n r x ^^^ dt n r z := by
  unfold dt
  rw [← sumx_xor]
  exact sumx_cong fun i _ => gm_xor (hx i) (hz i)
theorem dt_unit {n t v : Nat} (r : List Nat) (ht : t < n) : dt n r (fun l => if l = t then v else 0) = gm (gt r t) v := by
  unfold dt
  rw [sumx_one ht fun i _ hne => by show gm _ (if i = t then v else 0) = 0; rw [if_neg hne, gm_zero]]
  show gm _ (if t = t then v else 0) = _
  rw [if_pos rfl]
theorem dt_low {n m : Nat} (hnm : n ≤ m) {r : List Nat} {x : Nat → Nat} (hx : ∀ l, n ≤ l → x l = 0) : dt m r x = dt n r x := by
  obtain ⟨d, rfl⟩ : ∃ d, m = n + d := ⟨m - n, by omega⟩
  unfold dt
  rw [sumx_add]
  rw [sumx_zero (n := d) fun i _ => by rw [hx (n + i) (by omega), gm_zero], Nat.xor_zero]
structure Tri (n j : Nat) (a : Rws) : Prop where
  one : ∀ i, i < j → gt (ra a i) i = 1
  low : ∀ i l, l < i → i < j → gt (ra a i) l = 0
  rest : ∀ i l, j ≤ i → i < n → l < j → gt (ra a i) l = 0
theorem kern {n m j : Nat} {a : Rws} (hj : j < n) (T : Tri n j a) (h0 : ∀ i, j ≤ i → i < n → gt (ra a i) j = 0) : ∃ x : Nat → Nat, (∀ l, x l < 256) ∧ (∀ l, n ≤ l → x l = 0) ∧ x j = 1 ∧ ∀ i, i < n → dt n (ra a i) x = 0 := by
  have hp : ∀ d t, t + d = j → ∃ x : Nat → Nat, (∀ l, x l < 256) ∧ (∀ l, l < t ∨ j < l → x l = 0) ∧ x j = 1 ∧ ∀ i, t ≤ i → i < j → dt n (ra a i) x = 0 := by
    intro d
    induction d with
    | zero =>
      intro t ht
      refine ⟨fun l => if l = j then 1 else 0, fun l => ?_, fun l hl => if_neg (by omega), if_pos rfl, fun i h1 h2 => absurd h2 (by omega)⟩
      show (if l = j then 1 else 0) < 256
      split <;> decide
    | succ d ih =>
      intro t ht
      obtain ⟨x, b, z, o, k⟩ := ih (t + 1) (by omega)
      have hxt : x t = 0 := z t (.inl (by omega))
      have hv : ∀ l, (fun l => if l = t then dt n (ra a t) x else 0) l < 256 := fun l => by
        show (if l = t then dt n (ra a t) x else 0) < 256
        split
        · exact dt_lt
        · decide
      refine ⟨fun l => x l ^^^ (fun l => if l = t then dt n (ra a t) x else 0) l, fun l => xor_lt (b l) (hv l), fun l hl => ?_, ?_, fun i h1 h2 => ?_⟩
      · show x l ^^^ (if l = t then _ else 0) = 0
        rw [if_neg (by omega), z l (by omega)]; rfl
      · show x j ^^^ (if j = t then _ else 0) = 1
        rw [if_neg (by omega), o]; rfl
      · rw [dt_xor b hv, dt_unit _ (by omega)]
        by_cases e : i = t
        · subst e
          rw [T.one i h2, gm_one dt_lt, Nat.xor_self]
        · rw [k i (by omega) h2, T.low i t (by omega) h2, zero_gm]; rfl
  obtain ⟨x, b, z, o, k⟩ := hp j 0 (by omega)
  refine ⟨x, b, fun l hl => z l (.inr (by omega)), o, fun i hi => ?_⟩
  by_cases h : i < j
  · exact k i (Nat.zero_le _) h
  · refine sumx_zero fun l hl => ?_
    rcases Nat.lt_trichotomy l j with h1 | h1 | h1
    · rw [T.rest i l (by omega) hi h1, zero_gm]
    · rw [h1, h0 i (by omega) hi, zero_gm]
    · rw [z l (.inr h1), gm_zero]

/-! ### Ours: column by column, above and below -/

def clF (at' col : Nat) (a : Rws) : Rws := elF (fun i => decide (i ≠ at')) at' col (scF at' (inv (gt (ra a at') col)) a)
/-- The first row from one on that has something in a column. -/
def pvF (col : Nat) : Rws → Nat → Option Nat
  | [], _ => none
  | r :: l, i => if gt r col = 0 then pvF col l (i + 1) else some i
theorem pvF_some {col : Nat} : ∀ {l : Rws} {i k : Nat}, pvF col l i = some k → ∃ r, l[k - i]? = some r ∧ gt r col ≠ 0 ∧ i ≤ k
  | [], _, _, h => by cases h
  | r :: l, i, k, h => by
    unfold pvF at h
    split at h
    · obtain ⟨r', h1, h2, h3⟩ := pvF_some h
      refine ⟨r', ?_, h2, by omega⟩
      rw [show k - i = (k - (i + 1)) + 1 by omega]
      exact h1
    · rename_i h0
      injection h with h
      subst h
      refine ⟨r, ?_, h0, Nat.le_refl _⟩
      rw [Nat.sub_self]; rfl
theorem pvF_none {col : Nat} : ∀ {l : Rws} {i : Nat}, pvF col l i = none → ∀ r ∈ l, gt r col = 0
  | [], _, _ => fun _ h => by cases h
  | r :: l, i, h => fun r' hr => by
    unfold pvF at h
    split at h
    · rename_i h0
      rcases List.mem_cons.1 hr with rfl | hr
      · exact h0
      · exact pvF_none h r' hr
    · cases h
def eliF : Nat → Nat → Nat → Rws → Nat × Rws
  | 0, _, d, a => (d, a)
  | c + 1, col, d, a =>
    if d = a.length then (d, a) else
    match pvF col (a.drop d) d with
    | none => eliF c (col + 1) d a
    | some k => eliF c (col + 1) (d + 1) (clF d col (swF a d k))
structure Gj (n m j : Nat) (a : Rws) : Prop where
  shp : Shp n m a
  unit : ∀ i l, i < n → l < j → gt (ra a i) l = if i = l then 1 else 0
theorem Gj.tri {n m j : Nat} {a : Rws} (h : Gj n m j a) (hj : j ≤ n) : Tri n j a where
  one i hi := by rw [h.unit i i (by omega) hi, if_pos rfl]
  low i l hl hi := by rw [h.unit i l (by omega) (by omega), if_neg (by omega)]
  rest i l hi hn hl := by rw [h.unit i l hn hl, if_neg (by omega)]
theorem Gj.step {n m j k : Nat} {a : Rws} (h : Gj n m j a) (hj : j < n) (hk : k < n) (hjk : j ≤ k) (hv : gt (ra a k) j ≠ 0) :
    Gj n m (j + 1) (clF j j (swF a j k)) ∧ ∀ y, Ann n m (clF j j (swF a j k)) y ↔ Ann n m a y := by
  have hb := swF_shp (i := j) (j := k) h.shp hj hk
  have hbl : (swF a j k).length = n := hb.1
  have hpj : ra (swF a j k) j = ra a k := by
    rw [swF_ra a j k (by rw [h.shp.1]; exact hj)]
    split
    · rename_i e; rw [e]
    · rw [if_pos rfl]
  have hpv : gt (ra (swF a j k) j) j ≠ 0 := by rw [hpj]; exact hv
  have hp256 : gt (ra (swF a j k) j) j < 256 := gt_lt (hb.row hj).2 j
  have hc := scF_shp (j := j) (c := inv (gt (ra (swF a j k) j) j)) hb
  have hcl := hc.1
  have hlow : ∀ i l, i < n → l < j → gt (ra (swF a j k) i) l = if i = l then 1 else 0 := fun i l hi hl => by
    rw [swF_ra a j k (by rw [h.shp.1]; exact hi)]
    split
    · rename_i e
      subst e
      rw [h.unit j l hj hl, if_neg (by omega), if_neg (by omega)]
    · split
      · rename_i e
        subst e
        rw [h.unit k l hk hl, if_neg (by omega), if_neg (by omega)]
      · exact h.unit i l hi hl
  have hcj : ra (scF j (inv (gt (ra (swF a j k) j) j)) (swF a j k)) j = sc (inv (gt (ra (swF a j k) j) j)) (ra (swF a j k) j) := by
    rw [scF_ra _ _ (by rw [hbl]; exact hj), if_pos rfl]
  have hci : ∀ i, i < n → i ≠ j → ra (scF j (inv (gt (ra (swF a j k) j) j)) (swF a j k)) i = ra (swF a j k) i := fun i hi hne => by
    rw [scF_ra _ _ (by rw [hbl]; exact hi), if_neg hne]
  refine ⟨⟨elF_shp hc, fun i l hi hl => ?_⟩, fun y => ?_⟩
  · unfold clF
    rw [elF_ra _ _ _ (by rw [hcl]; exact hi)]
    by_cases e : i = j
    · subst e
      rw [if_neg (by simp), hcj, sc_gt]
      by_cases e2 : l = i
      · subst e2
        rw [if_pos rfl, gm_comm, gm_inv hpv hp256]
      · rw [hlow i l hi (by omega), if_neg (by omega), gm_zero]
    · rw [if_pos (by simpa using e), hci i hi e, hcj, fd_gt _ _ _ _ (by rw [sc_len, (hb.row hi).1, (hb.row hj).1]; exact Nat.le_refl _), sc_gt]
      by_cases e2 : l = j
      · subst e2
        rw [gm_comm (inv _), gm_inv hpv hp256, gm_one2 (gt_lt (hb.row hi).2 _), Nat.xor_self, if_neg e]
      · rw [hlow j l hj (by omega), if_neg (by omega : ¬ j = l), gm_zero, gm_zero, Nat.xor_zero, hlow i l hi (by omega)]
  · unfold clF
    rw [elF_ann hc hj (by simp) y, scF_ann hbl (inv_ne hpv hp256) y, swF_ann h.shp.1 hj hk y]
theorem eli_ok {n m : Nat} (hnm : n ≤ m) {a0 : Rws} (hI : Inj n a0) : ∀ (c j : Nat) (a : Rws), j + c = n → Gj n m j a → (∀ y : Nat → Nat, (∀ l, y l < 256) → (Ann n m a y ↔ Ann n m a0 y)) →
    ∃ a', eliF c j j a = (n, a') ∧ Gj n m n a' ∧ ∀ y : Nat → Nat, (∀ l, y l < 256) → (Ann n m a' y ↔ Ann n m a0 y)
  | 0, j, a, hc, hg, ha => by
    obtain rfl : j = n := by omega
    exact ⟨a, rfl, hg, ha⟩
  | c + 1, j, a, hc, hg, ha => by
    have hjn : j < n := by omega
    have hal := hg.shp.1
    unfold eliF
    rw [if_neg (by rw [hal]; omega)]
    cases hp : pvF j (a.drop j) j with
    | none =>
      exfalso
      have hz := pvF_none hp
      have h0 : ∀ i, j ≤ i → i < n → gt (ra a i) j = 0 := fun i h1 h2 => hz _ (by
        rw [List.mem_iff_getElem?]
        refine ⟨i - j, ?_⟩
        rw [List.getElem?_drop, show j + (i - j) = i by omega, ra_of_lt (by rw [hal]; exact h2)])
      obtain ⟨x, b, z, o, k⟩ := kern (m := m) hjn (hg.tri (by omega)) h0
      have hann : Ann n m a0 x := (ha x b).1 fun i hi => by rw [dt_low hnm z]; exact k i hi
      have := hI x b z (fun i hi => by rw [← dt_low hnm z]; exact hann i hi) j
      rw [o] at this; cases this
    | some k =>
      obtain ⟨r, h1, h2, h3⟩ := pvF_some hp
      rw [List.getElem?_drop, show j + (k - j) = k by omega] at h1
      have hk : k < n := by rw [← hal]; exact (List.getElem?_eq_some_iff.1 h1).1
      obtain ⟨s1, s2⟩ := hg.step hjn hk h3 (by rw [ra_some h1]; exact h2)
      exact eli_ok hnm hI c (j + 1) _ (by omega) s1 fun y hy => (s2 y).trans (ha y hy)
end
section

def ByR (_ : Nat → Prop) (_ : World) (cs : List Value) (x : Nat) : Prop := x < 256 ∧ cs = [.int .u8 (x : Int)]
theorem ByR.stable : Stable ByR := fun _ _ _ _ _ _ h _ => h
theorem ByR.one : ∀ S w cs x, ByR S w cs x → ∀ u ∈ cs, u.oneCell' = true := by
  rintro S w cs x ⟨_, rfl⟩ u hu
  simp at hu
  subst hu; rfl
theorem sl_by : SlTy Tryz.prog 68 5 (.int .u8 0) 1 1 := ⟨by kernel_rfl, by kernel_rfl, by kernel_rfl, by omega⟩
theorem by_at {S : Nat → Prop} {w : World} {b o n : Nat} {xs : List Nat} (h : RdL ByR 1 S w (some ⟨b, o, none⟩) n xs) {k : Nat} (hk : k < n) : w.cell? ⟨b, o + k, none⟩ = some (.int .u8 (gt xs k)) ∧ gt xs k < 256 := by
  obtain ⟨hl, cs, _, ⟨h1, rfl⟩, h2⟩ := h.at hk
  have e : gt xs k = xs[k] := by unfold gt; rw [List.getD_eq_getElem?_getD, List.getElem?_eq_getElem hl]; rfl
  rw [e]
  refine ⟨?_, h1⟩
  have := h2 0 _ rfl
  rwa [Nat.mul_one, Nat.add_zero] at this
theorem by_byt {S : Nat → Prop} {w : World} {A : Option Addr} {n : Nat} {xs : List Nat} (h : RdL ByR 1 S w A n xs) : Byt xs := fun x hx => by
  obtain ⟨i, hi, rfl⟩ := List.mem_iff_getElem.1 hx
  obtain ⟨b, o, rfl, _, _⟩ := h.addr (k := i) (by rw [← h.1]; exact hi)
  obtain ⟨_, cs, _, ⟨h1, _⟩, _⟩ := h.at (k := i) (by rw [← h.1]; exact hi)
  exact h1

/-- A row of bytes at the beginning of a block. -/
structure RowIn (w : World) (g : Nat) (cur : Array Value) (xs : List Nat) : Prop where
  box : BoxAt w g cur
  len : xs.length ≤ cur.size
  cells : ∀ i, i < xs.length → cur[i]? = some (.int .u8 (gt xs i))
  byt : Byt xs
section
variable {w w' : World} {g : Nat} {cur : Array Value} {xs : List Nat}
theorem RowIn.below (h : RowIn w g cur xs) (hb : Below w.heap.size w w') : RowIn w' g cur xs := ⟨h.box.below hb, h.len, h.cells, h.byt⟩
theorem RowIn.alloc (h : RowIn w g cur xs) (o : Obj) : RowIn (w.alloc o) g cur xs := ⟨h.box.alloc o, h.len, h.cells, h.byt⟩
theorem RowIn.drew (h : RowIn w g cur xs) : RowIn w.drew g cur xs := ⟨h.box.keep rfl, h.len, h.cells, h.byt⟩
theorem RowIn.cell (h : RowIn w g cur xs) {i : Nat} (hi : i < xs.length) : w.cell? ⟨g, i, none⟩ = some (.int .u8 (gt xs i)) := (h.box.cell i).trans (h.cells i hi)
theorem RowIn.frozen (h : RowIn w g cur xs) (i : Nat) : w.frozen? ⟨g, i, none⟩ = false := h.box.frozen i
theorem gt_set (xs : List Nat) (i x : Nat) {k : Nat} (hk : k < xs.length) : gt (xs.set i x) k = if k = i then x else gt xs k := by
  unfold gt
  rw [List.getD_eq_getElem?_getD, List.getD_eq_getElem?_getD, List.getElem?_set]
  split
  · rename_i h
    subst h
    rw [if_pos rfl, if_pos hk]; rfl
  · rename_i h
    rw [if_neg (fun e => h e.symm)]
theorem byt_set {xs : List Nat} (h : Byt xs) {i x : Nat} (hx : x < 256) : Byt (xs.set i x) := fun y hy => by
  rcases List.mem_or_eq_of_mem_set hy with h1 | h1
  · exact h y h1
  · rw [h1]; exact hx
theorem RowIn.set (h : RowIn w g cur xs) {i x : Nat} (hi : i < xs.length) (hx : x < 256) : RowIn (w.setCell ⟨g, i, none⟩ (.int .u8 (x : Int))) g (cur.setIfInBounds i (.int .u8 (x : Int))) (xs.set i x) where
  box := h.box.set i _
  len := by rw [List.length_set, Array.size_setIfInBounds]; exact h.len
  cells k hk := by
    rw [List.length_set] at hk
    have hl := h.len
    rw [gt_set _ _ _ hk, Array.getElem?_setIfInBounds]
    by_cases e : k = i
    · subst e
      rw [if_pos rfl, if_pos (by omega), if_pos rfl]
    · rw [if_neg (fun h => e h.symm), if_neg e]; exact h.cells k hk
  byt := byt_set h.byt hx
theorem RowIn.rd (h : RowIn w g cur xs) {S : Nat → Prop} (hS : S g) : RdL ByR 1 S w (some ⟨g, 0, none⟩) xs.length xs := ⟨rfl, fun _ => ⟨g, 0, rfl, hS, h.box.lt, fun i x hx => by
  have hi := (List.getElem?_eq_some_iff.1 hx).1
  refine ⟨[.int .u8 (x : Int)], rfl, ⟨h.byt x (List.mem_of_getElem? hx), rfl⟩, fun j v hj => ?_⟩
  have hj0 : j = 0 := by
    have := (List.getElem?_eq_some_iff.1 hj).1
    simp at this; exact this
  subst hj0
  simp at hj
  subst hj
  rw [show 0 + i * 1 + 0 = i by omega, h.cell hi, (Option.some.inj ((gt_of_lt hi).symm.trans hx))]⟩⟩
theorem RowIn.of_own {E : TypeId} {base n : Nat} {S : Nat → Prop} {v : Value} (h : OwnL ByR E 1 base S w v n xs) (hn : 0 < n) : ∃ g cap cur, v = .slice (some ⟨g, 0, none⟩) n cap ∧ base ≤ g ∧ n ≤ cap ∧ xs.length = n ∧ RowIn w g cur xs := by
  obtain ⟨A, cap, rfl, hc, hr⟩ := h.rd (S' := fun k => base ≤ k) (fun _ hk => hk) (fun cs x hx => hx)
  obtain ⟨css, h1, h2, h3, h4, h5⟩ := h
  rcases h1.2 with ⟨_, e⟩ | ⟨g, cap', cur, e, hg, hblk, hnc, hcm, hsz, ht⟩
  · omega
  · injection e with e1 e2 e3
    subst e1; subst e3
    refine ⟨g, cap, cur, rfl, hg, hc, h2, ⟨_, hblk⟩, ?_, fun i hi => ?_, by_byt hr⟩
    · rw [hsz]; omega
    · have h7 := (by_at hr (k := i) (by omega)).1
      rw [Nat.zero_add] at h7
      rw [← h7]
      exact (BoxAt.cell (w := w) (b := g) (cs := cur) ⟨_, hblk⟩ i).symm
theorem madeCells_r (k : Nat) (v : Value) : madeCells #[v] k = Array.replicate k v := by
  apply Array.ext
  · simp [madeCells]
  · intro i h1 h2
    simp [madeCells, Nat.mod_one]
end
theorem byInfo : (Tryz.prog.info? 5).map (fun i => (i.zero, i.size, i.bytes)) = some (some (.int .u8 0), 1, 1) := by kernel_rfl
theorem makeBy (k : Nat) (hk : k ≤ 17592186043904) (w : World) : (Instr.makeSlice 68 (.int .i64 (k : Int)) (.int .i64 (k : Int))).run Tryz.prog w = .ok (.slice (some ⟨w.heap.size, 0, none⟩) k k) (w.alloc (.cells (Array.replicate k (.int .u8 0)) 5)) := by
  obtain ⟨i, hi, hz, hs, hb⟩ := info_parts byInfo
  have h := run_make (P := Tryz.prog) w 68 5 i (.int .u8 0) (by kernel_rfl) hi hz .i64 .i64 k k (by omega) (by omega) (by rw [hb]; omega) (by omega)
  simp only [Int.toNat_natCast, hs, Nat.mul_one] at h
  rw [h, show (Value.int .u8 0).cells = #[.int .u8 0] from rfl, madeCells_r]
theorem RowIn.made (w : World) (k : Nat) (t : TypeId) : RowIn (w.alloc (.cells (Array.replicate k (.int .u8 0)) t)) w.heap.size (Array.replicate k (.int .u8 0)) (List.replicate k 0) where
  box := BoxAt.new _ _ _
  len := by simp
  cells i hi := by
    rw [List.length_replicate] at hi
    rw [Array.getElem?_replicate, if_pos hi]
    unfold gt
    rw [List.getD_eq_getElem?_getD, List.getElem?_replicate, if_pos hi]; rfl
  byt x hx := by rw [(List.mem_replicate.1 hx).2]; omega
end
section

/-- A quotient. -/
def dv (a c : Nat) : Nat := gm a (inv c)
theorem xor_bits {a c : Nat} (ha : a < 256) (hc : c < 256) : bits .xor .u8 (a : Int) (c : Int) = ((a ^^^ c : Nat) : Int) := by
  unfold bits
  have h := xor_lt ha hc
  have e : (BitVec.ofInt 8 (a : Int) ^^^ BitVec.ofInt 8 (c : Int)).toNat = a ^^^ c := by
    rw [BitVec.toNat_xor, BitVec.ofInt_natCast, BitVec.ofInt_natCast, BitVec.toNat_ofNat, BitVec.toNat_ofNat, show a % 2 ^ 8 = a by omega, show c % 2 ^ 8 = c by omega]
  show IntKind.u8.wrap ((BitVec.ofInt 8 (a : Int) ^^^ BitVec.ofInt 8 (c : Int)).toNat : Int) = _
  rw [e, IntKind.wrap_u8]
  omega
theorem lg_lt {a : Nat} (h0 : a ≠ 0) (h : a < 256) : lg a < 255 := (ex_lg h0 h).2
theorem dv_eq {a c : Nat} (h0 : a ≠ 0) (ha : a < 256) (hc0 : c ≠ 0) (hc : c < 256) : ex (lg a + 255 - lg c) = dv a c := by
  have h1 := lg_lt h0 ha
  have h2 := lg_lt hc0 hc
  unfold dv gm
  rw [if_neg (fun h => h.elim h0 (inv_ne hc0 hc))]
  unfold inv
  rw [lg_ex]
  exact ex_congr (by omega)
set_option maxRecDepth 100000 in
set_option maxHeartbeats 1600000 in
theorem mul_any {w : World} {b a c : Nat} (F : Fld w b) (ha : a < 256) (hc : c < 256) :
    Calls Tryz.prog 239 #[.pointer (some ⟨b, 4, none⟩), .int .u8 (a : Int), .int .u8 (c : Int)] w fun e w' => e = .returned (.int .u8 (gm a c : Int)) ∧ Below w.heap.size w w' := by
  go_enter Tryz.func239, Tryz.ntmps239
  by_cases a0 : a = 0
  · subst a0
    rw [zero_gm]
    go_wp2_with fail
    go_ret
    exact ⟨rfl, Below.refl _ _⟩
  · have e1 : ((a : Int) == 0) = false := by simpa using (by omega : ¬ a = 0)
    by_cases c0 : c = 0
    · subst c0
      rw [gm_zero]
      go_wp2_with fail
      go_ret
      exact ⟨rfl, Below.refl _ _⟩
    · have e2 : ((c : Int) == 0) = false := by simpa using (by omega : ¬ c = 0)
      have h1 := lg_lt a0 ha
      have h2 := lg_lt c0 hc
      have l1 := F.log a a0 ha
      have l2 := F.log c c0 hc
      have x1 := F.exp (lg a + lg c) (by omega)
      have hg : gm a c = ex (lg a + lg c) := by unfold gm; rw [if_neg (fun h => h.elim a0 c0)]
      rw [← hg] at x1
      have hb := F.lt
      clear F hg
      have q1 : (a : Int) < 256 := by omega
      have q2 : (c : Int) < 256 := by omega
      have q3 : IntKind.i64.wrap ((lg a : Int) + (lg c : Int)) = ((lg a + lg c : Nat) : Int) := by rw [IntKind.wrap_i64]; omega
      have q4 : (0 : Int) ≤ ((lg a + lg c : Nat) : Int) := Int.natCast_nonneg _
      have q5 : ((lg a + lg c : Nat) : Int) < 510 := by omega
      have q6 : (0 : Int) ≤ (a : Int) := Int.natCast_nonneg _
      have q7 : (0 : Int) ≤ (c : Int) := Int.natCast_nonneg _
      go_wp2_with fail
      refine wp_region_later (by kernel_rfl) (by kernel_rfl) ?_
      repeat (go_big_quiet_step (fail))
      refine wpQuiet_nil ?_
      rintro _ ⟨z, rfl⟩
      go_wp2_with fail
      go_ret
      exact ⟨rfl, z.ok⟩

set_option maxRecDepth 100000 in
set_option maxHeartbeats 1600000 in
theorem div_any {w : World} {b a c : Nat} (F : Fld w b) (ha : a < 256) (hc0 : c ≠ 0) (hc : c < 256) :
    Calls Tryz.prog 166 #[.pointer (some ⟨b, 0, none⟩), .int .u8 (a : Int), .int .u8 (c : Int)] w fun e w' => e = .returned (.tuple #[.int .u8 (dv a c : Int), .int .i64 0]) ∧ Below w.heap.size w w' := by
  have hR := ready_any F
  have e2 : ((c : Int) == 0) = false := by simpa using hc0
  go_enter Tryz.func166, Tryz.ntmps166
  by_cases a0 : a = 0
  · subst a0
    have hz : dv 0 c = 0 := zero_gm _
    rw [hz]
    go_wp2_with (go_at_call 199; refine hR.mono ?_; rintro e w' ⟨rfl, rfl⟩)
    go_ret2
    exact ⟨rfl, Below.refl _ _⟩
  · have e1 : ((a : Int) == 0) = false := by simpa using (by omega : ¬ a = 0)
    have h1 := lg_lt a0 ha
    have h2 := lg_lt hc0 hc
    have l1 := F.log a a0 ha
    have l2 := F.log c hc0 hc
    have x1 := F.exp (lg a + 255 - lg c) (by omega)
    rw [dv_eq a0 ha hc0 hc] at x1
    have hb := F.lt
    clear F
    have q1 : (a : Int) < 256 := by omega
    have q2 : (c : Int) < 256 := by omega
    have q3 : IntKind.i64.wrap ((lg a : Int) - (lg c : Int)) = (lg a : Int) - (lg c : Int) := by rw [IntKind.wrap_i64]; omega
    have q8 : IntKind.i64.wrap ((lg a : Int) - (lg c : Int) + 255) = ((lg a + 255 - lg c : Nat) : Int) := by rw [IntKind.wrap_i64]; omega
    have q4 : (0 : Int) ≤ ((lg a + 255 - lg c : Nat) : Int) := Int.natCast_nonneg _
    have q5 : ((lg a + 255 - lg c : Nat) : Int) < 510 := by omega
    have q6 : (0 : Int) ≤ (a : Int) := Int.natCast_nonneg _
    have q7 : (0 : Int) ≤ (c : Int) := Int.natCast_nonneg _
    go_wp2_with (go_at_call 199; refine hR.mono ?_; rintro e w' ⟨rfl, rfl⟩)
    refine wp_region_later (by kernel_rfl) (by kernel_rfl) ?_
    repeat (go_big_quiet_step (fail))
    refine wpQuiet_nil ?_
    rintro _ ⟨z, rfl⟩
    go_wp2_with fail
    go_ret2
    exact ⟨rfl, z.ok⟩
theorem scale_next {c n k : Nat} {xs : List Nat} (hl : xs.length = n) (hk : k < n) : (sc c (xs.take k) ++ List.replicate (n - k) 0).set k (gm c (gt xs k)) = sc c (xs.take (k + 1)) ++ List.replicate (n - (k + 1)) 0 := by
  have hl1 : (sc c (xs.take k) ++ List.replicate (n - k) 0).length = n := by rw [List.length_append, sc_len, List.length_take, List.length_replicate]; omega
  refine gt_ext (by rw [List.length_set, hl1, List.length_append, sc_len, List.length_take, List.length_replicate]; omega) fun i hi => ?_
  rw [List.length_set, hl1] at hi
  have ht : ∀ j, i < j → gt (sc c (xs.take j)) i = gm c (gt xs i) := fun j hj => by
    rw [sc_gt]
    unfold gt
    rw [List.getD_eq_getElem?_getD, List.getD_eq_getElem?_getD, List.getElem?_take, if_pos hj]
  have hz : ∀ m j : Nat, gt (List.replicate m 0) j = 0 := fun m j => by
    unfold gt
    rw [List.getD_eq_getElem?_getD, List.getElem?_replicate]
    split <;> rfl
  rw [gt_set _ _ _ (by rw [hl1]; exact hi), gt_append, gt_append, sc_len, sc_len, List.length_take, List.length_take, hl]
  by_cases e : i = k
  · subst e
    rw [if_pos rfl, if_pos (by omega), ht _ (by omega)]
  · rw [if_neg e]
    by_cases h : i < k
    · rw [if_pos (by omega), if_pos (by omega), ht _ h, ht _ (by omega)]
    · rw [if_neg (by omega), if_neg (by omega), hz, hz]
set_option maxRecDepth 100000 in
set_option maxHeartbeats 1600000 in
/-- A row times c: new. -/
theorem scale_any {w : World} {b c n cp : Nat} {S : Nat → Prop} {A : Option Addr} {xs : List Nat} (F : Fld w b) (hc : c < 256) (R : RdL ByR 1 S w A n xs) (hn : n ≤ 1000000) :
    Calls Tryz.prog 267 #[.pointer (some ⟨b, 0, none⟩), .int .u8 (c : Int), .slice A n cp] w fun e w' => ∃ g, e = .returned (.slice (some ⟨g, 0, none⟩) n n) ∧ w.heap.size ≤ g ∧ RdL ByR 1 (fun k => w.heap.size ≤ k) w' (some ⟨g, 0, none⟩) n (sc c xs) ∧ Below w.heap.size w w' := by
  have hR := ready_any F
  have hmk := makeBy n (by omega) w
  have r0 := RowIn.made w n 5
  have b0 : Below w.heap.size w (w.alloc (.cells (Array.replicate n (.int .u8 0)) 5)) := (Below.refl _ _).alloc (Nat.le_refl _) _
  have hgl : w.heap.size < (w.alloc (.cells (Array.replicate n (.int .u8 0)) 5)).heap.size := by rw [World.size_alloc]; omega
  obtain ⟨wA, hwA⟩ : ∃ wA, w.alloc (.cells (Array.replicate n (.int .u8 0)) 5) = wA := ⟨_, rfl⟩
  rw [hwA] at hmk r0 b0 hgl
  obtain ⟨g, hg⟩ : ∃ g, w.heap.size = g := ⟨_, rfl⟩
  rw [hg] at hmk r0
  have hlen := R.1
  have HR := Lib.hid R
  have HF := Lib.hid F
  have R0 := Lib.hid r0
  have B0 := Lib.hid b0
  have HG := Lib.hid hg
  have q0 : (0 : Int) ≤ (n : Int) := Int.natCast_nonneg _
  have q1 : (n : Int) ≤ 1000000 := by omega
  have hz : sc c (xs.take 0) ++ List.replicate (n - 0) 0 = List.replicate n 0 := by simp [sc]
  rw [← hz] at R0
  clear R F r0 b0 hwA hg hz hgl
  go_enter Tryz.func267, Tryz.ntmps267
  go_wp2_with (go_at_call 199; refine hR.mono ?_; rintro e w' ⟨rfl, rfl⟩)
  clear hmk hR
  go_loopw [18] (fun vi wr => ∃ (k : Nat) (cur : Array Value), k ≤ n ∧ vi = .int .i64 k ∧ Hid (RowIn wr g cur (sc c (xs.take k) ++ List.replicate (n - k) 0)) ∧ Hid (Below w'.heap.size w' wr)) (fun vi _ => n - (intOf vi).toNat)
  case atStart => exact ⟨0, _, Nat.zero_le _, rfl, R0, B0⟩
  case round =>
    obtain ⟨k, cur, hk, rfl, RW, HB⟩ := hrel
    have p0 : (0 : Int) ≤ (k : Int) := Int.natCast_nonneg _
    by_cases hlt : k < n
    · have p1 : (k : Int) < (n : Int) := by omega
      obtain ⟨bb, o, rfl, _, hbb⟩ := HR.out.addr hlt
      obtain ⟨c1, x1⟩ := by_at HR.out hlt
      replace c1 := (HB.out.cell (p := ⟨bb, o + k, none⟩) hbb).trans c1
      have hnx : (sc c (xs.take k) ++ List.replicate (n - k) 0).set k (gm c (gt xs k)) = sc c (xs.take (k + 1)) ++ List.replicate (n - (k + 1)) 0 := scale_next hlen hlt
      have hll : (sc c (xs.take k) ++ List.replicate (n - k) 0).length = n := by rw [List.length_append, sc_len, List.length_take, List.length_replicate]; omega
      have HN := Lib.hid hnx
      have HL := Lib.hid hll
      have hmul := mul_any (HF.out.below HB.out) hc x1
      clear hnx hll
      go_wp2_with (go_at_call 239; refine hmul.mono ?_; rintro e w2 ⟨rfl, hb2⟩; have c2 := (RW.out.below hb2).cell (i := k) (by rw [HL.out]; exact hlt); have f2 := (RW.out.below hb2).frozen k; have HB2 := Lib.hid hb2; clear hmul hb2)
      have r5 := (RW.out.below HB2.out).set (i := k) (x := gm c (gt xs k)) (by rw [HL.out]; exact hlt) gm_lt
      rw [HN.out] at r5
      have b5 : Below w'.heap.size w' (w2.setCell ⟨g, k, none⟩ (.int .u8 (gm c (gt xs k) : Int))) := Below.setCell (HB.out.trans (HB2.out.mono HB.out.size)) (by show _ ≤ g; rw [HG.out]; exact Nat.le_refl _) _
      exact ⟨⟨k + 1, _, by omega, by go_num, Lib.hid r5, Lib.hid b5⟩, by simp [intOf]; omega⟩
    · have p1 : ¬ (k : Int) < (n : Int) := by omega
      obtain rfl : k = n := by omega
      go_wp2_with fail
      go_ret
      refine ⟨g, rfl, by rw [HG.out]; exact Nat.le_refl _, ?_, HB.out⟩
      have hx : sc c (xs.take k) ++ List.replicate (k - k) 0 = sc c xs := by rw [Nat.sub_self, ← hlen, List.take_length]; exact List.append_nil _
      have := RW.out.rd (S := fun k => w'.heap.size ≤ k) (by rw [HG.out]; exact Nat.le_refl _)
      rw [hx, sc_len, hlen] at this
      exact this
end
section

theorem RdL.take {X : Type} {R : (Nat → Prop) → World → List Value → X → Prop} {s : Nat} {S : Nat → Prop} {w : World} {A : Option Addr} {n : Nat} {xs : List X}
    (h : RdL R s S w A n xs) {k : Nat} (hk : k ≤ n) : RdL R s S w A k (xs.take k) := by
  refine ⟨by rw [List.length_take, h.1]; omega, fun hp => ?_⟩
  obtain ⟨b, o, h1, h2, h3, h4⟩ := h.2 (by omega)
  exact ⟨b, o, h1, h2, h3, fun i x hx => by
    rw [List.getElem?_take] at hx
    split at hx
    · exact h4 i x hx
    · cases hx⟩
theorem RdL.drop {X : Type} {R : (Nat → Prop) → World → List Value → X → Prop} {s : Nat} {S : Nat → Prop} {w : World} {b o : Nat} {n : Nat} {xs : List X}
    (h : RdL R s S w (some ⟨b, o, none⟩) n xs) {k : Nat} (hk : k ≤ n) : RdL R s S w (some ⟨b, o + k * s, none⟩) (n - k) (xs.drop k) := by
  refine ⟨by rw [List.length_drop, h.1], fun hp => ?_⟩
  obtain ⟨b', o', h1, h2, h3, h4⟩ := h.2 (by omega)
  cases h1
  refine ⟨b, o + k * s, rfl, h2, h3, fun i x hx => ?_⟩
  rw [List.getElem?_drop] at hx
  obtain ⟨cs, e1, e2, e3⟩ := h4 (k + i) x hx
  refine ⟨cs, e1, e2, fun j v hj => ?_⟩
  have := e3 j v hj
  rwa [show o + (k + i) * s + j = o + k * s + i * s + j by rw [Nat.add_mul]; omega] at this
end
section
theorem piece_pre {T E : TypeId} {z : Value} {s b : Nat} (st : SlTy Tryz.prog T E z s b) {A : Option Addr} {N c k : Nat} (hk : k ≤ c) (w : World) : (Instr.slice T (.slice A N c) none (some (.int .i64 (k : Int))) none).run Tryz.prog w = .ok (.slice A k c) w := by
  obtain ⟨i, hi, hz, hsz, hby⟩ := info_parts st.info
  have hel : Tryz.prog.elem T = E := by simp [Program.elem, st.und]
  have ht : Tryz.prog.underlying T = some (.slice (Tryz.prog.elem T)) := by rw [hel]; exact st.und
  rw [run_slice_h (t := T) (ht := ht) (h0 := Int.natCast_nonneg _) (h2 := by omega)]
  have hs : (sizeOf (Tryz.prog.elem T)).run Tryz.prog w = .ok s w := by
    rw [hel]; simp [sizeOf, typeInfo, hi, hsz]
  rw [hs]
  simp only [Result.andThen, sliced, Int.toNat_natCast, Nat.sub_zero, Nat.zero_mul]
  have e : (if c = 0 then A else Option.map (fun x : Addr => x.add 0) A) = A := by
    split
    · rfl
    · cases A <;> simp [Addr.add]
  rw [e]
theorem piece_suf {T E : TypeId} {z : Value} {s b : Nat} (st : SlTy Tryz.prog T E z s b) {A : Option Addr} {N c k : Nat} (hk : k ≤ N) (w : World) : (Instr.slice T (.slice A N c) (some (.int .i64 (k : Int))) none none).run Tryz.prog w = .ok (.slice (if c = k then A else A.map (fun x : Addr => x.add (k * s))) (N - k) (c - k)) w := by
  obtain ⟨i, hi, hz, hsz, hby⟩ := info_parts st.info
  have hel : Tryz.prog.elem T = E := by simp [Program.elem, st.und]
  have ht : Tryz.prog.underlying T = some (.slice (Tryz.prog.elem T)) := by rw [hel]; exact st.und
  rw [run_slice_l (t := T) (ht := ht) (h0 := Int.natCast_nonneg _) (h1 := by omega)]
  have hs : (sizeOf (Tryz.prog.elem T)).run Tryz.prog w = .ok s w := by
    rw [hel]; simp [sizeOf, typeInfo, hi, hsz]
  rw [hs]
  simp only [Result.andThen, sliced, Int.toNat_natCast]
theorem piece_rd {X : Type} {R : (Nat → Prop) → World → List Value → X → Prop} {s : Nat} {S : Nat → Prop} {w : World} {A : Option Addr} {n c : Nat} {xs : List X} (h : RdL R s S w A n xs) (hn : n ≤ c) {k : Nat} (hk : k ≤ n) : RdL R s S w (if c = k then A else A.map (fun x : Addr => x.add (k * s))) (n - k) (xs.drop k) := by
  by_cases hkn : k = n
  · subst hkn
    rw [Nat.sub_self, List.drop_of_length_le (by rw [h.1]; exact Nat.le_refl _)]
    exact RdL.nil
  · rw [if_neg (by omega)]
    obtain ⟨b, o, rfl, _⟩ := h.addr (k := k) (by omega)
    have e : Option.map (fun x : Addr => x.add (k * s)) (some ⟨b, o, none⟩) = some ⟨b, o + k * s, none⟩ := by
      simp only [Option.map_some, Addr.add]
      split
      · rename_i e; rw [e]; rfl
      · rfl
    rw [e]
    exact RdL.drop h hk
/-- A builtin's law at a list of operations, as a step of a region that draws its order. -/
theorem step_law {P : Program} {ops : Array Oper} {o : Oper} {a : Act} {w : World} {K : Act → World → Prop} {Q : Exit → Act → World → Prop} {X : Prop} (hgd : o.guard = none)
    (h : wpList P ops (fun e a w => e = .normal ∧ K a w) [o] a w) : if Region.wanted o (yielded ops a.tmps) = true then Oper.wp P o a w K Q else X := by
  have hw : Region.wanted o (yielded ops a.tmps) = true := by simp [Region.wanted, hgd]
  rw [if_pos hw]
  unfold wpList at h
  rw [if_pos hw] at h
  rcases h with h | ⟨_, a', w', h, _⟩
  · unfold Oper.wp at h ⊢
    generalize (execOp a.eval o).run P w = r at *
    cases r with
    | ok n w' =>
      cases n <;> simp only [Oper.upon, wpList] at h ⊢
      case value v => exact h.2
      case skip => exact h.2
      case defer d => exact h.2
      case enter f args =>
        refine Calls.mono h fun e w'' he => ?_
        cases e with
        | returned u => exact he.2
        | panicked c => cases he.1
        | outgrown => obtain ⟨_, _, he, _⟩ := he; cases he
      case row row args => exact Rows.mono h fun u w'' he => he.2
    | halt x w' =>
      cases x <;> simp only [Oper.upon] at h ⊢
      case panic v => cases h.1
  · cases h
end
section
theorem run_min_b (ts : Array TypeId) (t : TypeId) (x y : Int) (w : World) : (Builtin.min_ ts t #[.int .i64 x, .int .i64 y]).run Tryz.prog w = .ok (.int .i64 (min x y)) w := by
  rw [run_min_int2, show (if y < x then y else x) = min x y by omega]
attribute [local go_sem ↓] run_min_b

/-- A row of bytes of the call's own. -/
structure RowV (w : World) (base : Nat) (A : Option Addr) (n : Nat) (xs : List Nat) : Prop where
  len : xs.length = n
  byt : Byt xs
  row : 0 < n → ∃ g cur, A = some ⟨g, 0, none⟩ ∧ base ≤ g ∧ RowIn w g cur xs
theorem RowV.below {w w' : World} {base n : Nat} {A : Option Addr} {xs : List Nat} (h : RowV w base A n xs) (hb : Below w.heap.size w w') : RowV w' base A n xs := ⟨h.len, h.byt, fun hn => by
  obtain ⟨g, cur, h1, h2, h3⟩ := h.row hn
  exact ⟨g, cur, h1, h2, h3.below hb⟩⟩
theorem RowV.rd {w : World} {base n : Nat} {A : Option Addr} {xs : List Nat} (h : RowV w base A n xs) {S : Nat → Prop} (hS : ∀ k, base ≤ k → S k) : RdL ByR 1 S w A n xs := by
  rcases Nat.eq_zero_or_pos n with hn | hn
  · subst hn
    rw [List.length_eq_zero_iff.1 h.len]; exact RdL.nil
  · obtain ⟨g, cur, rfl, h2, h3⟩ := h.row hn
    have := h3.rd (S := S) (hS g h2)
    rwa [h.len] at this
theorem RowV.of_own {w : World} {E : TypeId} {base n c : Nat} {S : Nat → Prop} {A : Option Addr} {xs : List Nat} (h : OwnL ByR E 1 base S w (.slice A n c) n xs) : RowV w base A n xs where
  len := h.len
  byt := by
    obtain ⟨A', c', e, _, hr⟩ := h.rd (S' := fun k => base ≤ k) (fun _ hk => hk) (fun cs x hx => hx)
    exact by_byt hr
  row hn := by
    obtain ⟨g, cap, cur, e, h1, _, _, h2⟩ := RowIn.of_own h hn
    injection e with e1
    exact ⟨g, cur, e1, h1, h2⟩
theorem fd_take {c k : Nat} {xs ys : List Nat} (hk : k < xs.length) (hk2 : k < ys.length) :
    fd c (xs.take (k + 1)) ys = (fd c (xs.take k) ys).set k (gt ys k ^^^ gm c (gt xs k)) ∧ gt (fd c (xs.take k) ys) k = gt ys k := by
  have ht : ∀ j i, gt (xs.take j) i = if i < j then gt xs i else 0 := fun j i => by
    unfold gt
    rw [List.getD_eq_getElem?_getD, List.getElem?_take]
    split
    · rw [List.getD_eq_getElem?_getD]
    · rfl
  have hl : ∀ j, j ≤ k + 1 → (xs.take j).length ≤ ys.length := fun j hj => by rw [List.length_take]; omega
  refine ⟨gt_ext (by rw [fd_len, List.length_set, fd_len]) fun i hi => ?_, ?_⟩
  · rw [fd_len] at hi
    rw [fd_gt _ _ _ _ (hl _ (Nat.le_refl _)), gt_set _ _ _ (by rw [fd_len]; exact hi), ht]
    by_cases e : i = k
    · subst e
      rw [if_pos (by omega), if_pos rfl]
    · rw [if_neg e, fd_gt _ _ _ _ (hl _ (by omega)), ht]
      by_cases h : i < k
      · rw [if_pos (by omega), if_pos h]
      · rw [if_neg (by omega), if_neg h]
  · rw [fd_gt _ _ _ _ (hl _ (by omega)), ht, if_neg (by omega), gm_zero, Nat.xor_zero]
theorem fd_min {c : Nat} : ∀ (xs ys : List Nat), fd c (xs.take (min xs.length ys.length)) ys = fd c xs ys
  | [], _ => rfl
  | _ :: _, [] => rfl
  | x :: xs, y :: ys => by
    have := fd_min (c := c) xs ys
    simp only [List.length_cons, Nat.add_min_add_right, List.take_succ_cons]
    show _ :: fd c _ ys = _ :: fd c xs ys
    rw [this]

set_option maxRecDepth 100000 in
set_option maxHeartbeats 1600000 in
theorem fold_any {w : World} {b c n cp n2 cp2 : Nat} {S S2 : Nat → Prop} {A A2 : Option Addr} {xs ys : List Nat} (F : Fld w b) (hc : c < 256) (R : RdL ByR 1 S w A n xs) (hn : n ≤ 1000000) (hcp : n ≤ cp)
    (R2 : RdL ByR 1 S2 w A2 n2 ys) (hn2 : n2 ≤ 1000000) :
    Calls Tryz.prog 210 #[.pointer (some ⟨b, 0, none⟩), .int .u8 (c : Int), .slice A n cp, .slice A2 n2 cp2] w fun e w' => ∃ A' c', e = .returned (.slice A' n2 c') ∧ n2 ≤ c' ∧ RdL ByR 1 (fun k => w.heap.size ≤ k) w' A' n2 (fd c xs ys) ∧ Below w.heap.size w w' := by
  have hR := ready_any F
  have hlen := R.1
  have hlen2 := R2.1
  have HR := Lib.hid R
  have HR2 := Lib.hid R2
  have HF := Lib.hid F
  have q0 : (0 : Int) ≤ (n : Int) := Int.natCast_nonneg _
  have q1 : (n : Int) ≤ 1000000 := by omega
  have q2 : (0 : Int) ≤ (n2 : Int) := Int.natCast_nonneg _
  have q3 : (n2 : Int) ≤ 1000000 := by omega
  obtain ⟨m, hm⟩ : ∃ m, m = min n n2 := ⟨_, rfl⟩
  have e1 : min (n : Int) (n2 : Int) = (m : Int) := by omega
  have hpc := fun w => piece_pre sl_by (A := A) (N := n) (c := cp) (k := m) (by omega) w
  clear R F R2
  go_enter Tryz.func210, Tryz.ntmps210
  go_wp2_with (first | (go_at_call 199; refine hR.mono ?_; rintro e w' ⟨rfl, rfl⟩) | (at_builtin; refine wpList_appL ByR.stable ByR.one sl_by rfl (by exact rfl) (base := w'.heap.size) (S := fun _ => True) (n := 0) (v := .slice none 0 0) (xs := []) (by exact rfl) OwnL.nil_ (by exact rfl) HR2.out (fun _ _ h => h) (by unfold maxLen; omega) (by omega) (Nat.le_refl _) ?_; intro A3 c3 w3 hc3 hown3 hg3 hat; simp only [Nat.zero_add, List.nil_append] at hc3 hown3 ⊢))
  have V0 := Lib.hid (RowV.of_own hown3)
  have B0 := Lib.hid (show Below w'.heap.size w' w3 from ⟨hg3.os, hg3.tape, hg3.output, hg3.size, fun k hk => hg3.block k hk (by intro h; cases h)⟩)
  clear hown3 hg3 hat hR
  go_loopw [27] (fun vi wr => ∃ (k : Nat), k ≤ m ∧ vi = .int .i64 k ∧ Hid (RowV wr w'.heap.size A3 n2 (fd c (xs.take k) ys)) ∧ Hid (Below w'.heap.size w' wr)) (fun vi _ => m - (intOf vi).toNat)
  case atStart => exact ⟨0, Nat.zero_le _, rfl, by rw [List.take_zero]; exact V0, B0⟩
  case round =>
    obtain ⟨k, hk, rfl, RW, HB⟩ := hrel
    have p0 : (0 : Int) ≤ (k : Int) := Int.natCast_nonneg _
    by_cases hlt : k < m
    · have p1 : (k : Int) < (m : Int) := by omega
      have p2 : (k : Int) < (n2 : Int) := by omega
      have p9 : k < min n n2 := by omega
      have hkn : k < n := by omega
      have hkn2 : k < n2 := by omega
      obtain ⟨bb, o, rfl, _, hbb⟩ := HR.out.addr hkn
      obtain ⟨c1, x1⟩ := by_at HR.out hkn
      replace c1 := (HB.out.cell (p := ⟨bb, o + k, none⟩) hbb).trans c1
      obtain ⟨g, cur, rfl, hgb, RI⟩ := RW.out.row (by omega)
      obtain ⟨t1, t2⟩ := fd_take (c := c) (xs := xs) (ys := ys) (k := k) (by omega) (by omega)
      have hfl : (fd c (xs.take k) ys).length = n2 := by rw [fd_len, hlen2]
      have c0 := RI.cell (i := k) (by rw [hfl]; exact hkn2)
      rw [t2] at c0
      have f0 := RI.frozen k
      have y1 : gt ys k < 256 := gt_lt (by_byt HR2.out) k
      have HRI := Lib.hid RI
      have HT := Lib.hid t1
      have HL := Lib.hid hfl
      have HGB := Lib.hid hgb
      have hxb := xor_bits y1 (gm_lt (a := c) (b := gt xs k))
      have hmul := mul_any ((HF.out.below HB.out).keep (w' := wr.drew) rfl) hc x1
      clear t1 t2 hfl RI hgb hm e1 hkn
      go_wp2_with fail
      refine wp_region_L (S := fun w' => w'.cell? ⟨g, k, none⟩ = some (.int .u8 (gt ys k : Int)) ∧ w'.frozen? ⟨g, k, none⟩ = false) [12] (by kernel_rfl) (by first | exact ⟨c0, f0⟩ | exact ⟨c2, f2⟩) (fun hHeld => ?_)
      refine tkL 0 rfl ?_
      refine tkL 1 rfl ?_
      refine tkL 2 rfl ?_
      refine tkL 3 rfl ?_
      refine tkL 4 rfl ?_
      refine tkL 5 rfl ?_
      refine tkL 6 rfl ?_
      refine tkL 7 rfl ?_
      refine tkL 8 rfl ?_
      refine rdL 9 rfl fun K hK => ?_
      try simp (maxSteps := 2000000) only [zz1, zz2, zz3]
      go_simp
      go_at_call 239
      refine hmul.mono ?_
      rintro e w2 ⟨rfl, hb2⟩
      have c2 := (hb2.cell (p := ⟨g, k, none⟩) HRI.out.box.lt).trans c0
      have f2 := (HRI.out.drew.below hb2).frozen k
      have HB2 := Lib.hid hb2
      clear hmul hb2
      try (go_wp2_with fail)
      refine hK.out _ _ (by first | exact ⟨c0, f0⟩ | exact ⟨c2, f2⟩) (fun hHeld => ?_)
      clear hK K
      try simp (maxSteps := 2000000) only [zz1, zz2, zz3, Act.put, zz4, zz5, zz6]
      refine tkL 10 rfl ?_
      refine tkL 11 rfl ?_
      refine lsL 12 rfl fun K hK => ?_
      try simp (maxSteps := 2000000) only [zz1, zz2, zz3]
      go_simp
      refine hK.out _ _ ?_
      clear hK K
      try simp (maxSteps := 2000000) only [zz1, zz2, zz3, Act.put, zz4, zz5, zz6]
      refine wpAnyL_done (by kernel_rfl) ?_ _
      have r5 := (HRI.out.drew.below HB2.out).set (i := k) (x := gt ys k ^^^ gm c (gt xs k)) (by rw [HL.out]; exact hkn2) (xor_lt y1 gm_lt)
      rw [← HT.out] at r5
      have hb3 : Below w'.heap.size w' w2 := HB.out.drew.trans (HB2.out.mono HB.out.size)
      have b5 : Below w'.heap.size w' (w2.setCell ⟨g, k, none⟩ (.int .u8 ((gt ys k ^^^ gm c (gt xs k) : Nat) : Int))) := Below.setCell hb3 HGB.out _
      have hv : RowV (w2.setCell ⟨g, k, none⟩ (.int .u8 ((gt ys k ^^^ gm c (gt xs k) : Nat) : Int))) w'.heap.size (some ⟨g, 0, none⟩) n2 (fd c (xs.take (k + 1)) ys) := ⟨by rw [fd_len, hlen2], r5.byt, fun _ => ⟨g, _, rfl, HGB.out, r5⟩⟩
      have V5 := Lib.hid hv
      have B5 := Lib.hid b5
      clear hv b5 r5 hb3 c2 f2 c0 f0 hHeld
      go_wp2_with fail
      exact ⟨⟨k + 1, by omega, by go_num, V5, B5⟩, by simp [intOf]; omega⟩
    · have p9 : ¬ k < min n n2 := by omega
      have p1 : ¬ (k : Int) < (m : Int) := by omega
      obtain rfl : k = m := by omega
      rw [hm, ← hlen, ← hlen2, fd_min, hlen2] at RW
      clear hpc e1 hm
      go_wp2_with fail
      go_ret
      exact ⟨A3, c3, rfl, hc3, RW.out.rd (fun _ h => h), HB.out⟩
end
section

theorem within_any {w : World} (n : Int) : Calls Tryz.prog 162 #[.int .i64 n] w fun e w' => e = .returned (.bool (decide (1 ≤ n ∧ n ≤ 255))) ∧ w' = w := by
  go_enter Tryz.func162, Tryz.ntmps162
  by_cases h1 : 1 ≤ n
  · by_cases h2 : n ≤ 255
    · have e : decide (1 ≤ n ∧ n ≤ 255) = true := by simp; omega
      rw [e]
      have h3 : n ≥ 1 := h1
      go_wp2_with fail
      go_ret
      exact ⟨rfl, rfl⟩
    · have e : decide (1 ≤ n ∧ n ≤ 255) = false := by simp; omega
      rw [e]
      have h3 : n ≥ 1 := h1
      go_wp2_with fail
      go_ret
      exact ⟨rfl, rfl⟩
  · have e : decide (1 ≤ n ∧ n ≤ 255) = false := by simp; omega
    rw [e]
    have h3 : ¬ n ≥ 1 := h1
    go_wp2_with fail
    go_ret
    exact ⟨rfl, rfl⟩

/-- Row by row. -/
def flatU (f : Nat → Nat → Nat) (cols i j : Nat) : List Nat := ((List.range i).flatMap fun a => (List.range cols).map (f a)) ++ (List.range j).map (f i)
def flatF (f : Nat → Nat → Nat) (rows cols : Nat) : List Nat := (List.range rows).flatMap fun a => (List.range cols).map (f a)
theorem flatU_zero (f : Nat → Nat → Nat) (cols i : Nat) : flatU f cols i 0 = flatF f i cols := by unfold flatU flatF; simp
theorem flatU_next (f : Nat → Nat → Nat) (cols i j : Nat) : flatU f cols i (j + 1) = flatU f cols i j ++ [f i j] := by unfold flatU; rw [List.range_succ, List.map_append, List.append_assoc]; rfl
theorem flatU_row (f : Nat → Nat → Nat) (cols i : Nat) : flatU f cols i cols = flatF f (i + 1) cols := by unfold flatU flatF; rw [List.range_succ, List.flatMap_append]; simp

structure FilI (w0 wr : World) (rb q rows cols n : Nat) (A : Option Addr) (c : Nat) (xs : List Nat) : Prop where
  own : OwnL ByR 5 1 (rb + 1) (fun _ => True) wr (.slice A n c) n xs
  bq : BoxAt wr q #[.int .i64 rows, .int .i64 cols, .slice A n c]
  br : BoxAt wr rb #[.int .i64 0, .int .i64 0, .slice none 0 0]
  nq : some q ≠ (Value.slice A n c).ownBlock
  nr : some rb ≠ (Value.slice A n c).ownBlock
  qr : rb ≠ q
  hr : w0.heap.size ≤ rb
  hq : w0.heap.size ≤ q
  bel : Below w0.heap.size w0 wr
theorem FilI.below {w0 wr w2 : World} {rb q rows cols n : Nat} {A : Option Addr} {c : Nat} {xs : List Nat} (h : FilI w0 wr rb q rows cols n A c xs) (hb : Below wr.heap.size wr w2) : FilI w0 w2 rb q rows cols n A c xs :=
  ⟨h.own.keep ByR.stable hb, h.bq.below hb, h.br.below hb, h.nq, h.nr, h.qr, h.hr, h.hq, h.bel.trans (hb.mono h.bel.size)⟩
theorem FilI.pushed {w0 w2 : World} {rb q rows cols n : Nat} {A A' : Option Addr} {c c' : Nat} {xs : List Nat} {y : Nat} (h : FilI w0 w2 rb q rows cols n A c xs) (u : Grw (Value.slice A n c).ownBlock w2)
    (hown : OwnL ByR 5 1 (rb + 1) (fun _ => True) u.to (.slice A' (n + 1) c') (n + 1) (xs ++ [y])) (hb : Below (rb + 1) w2 u.to)
    (hat : Value.ownBlock (.slice A' (n + 1) c') = (Value.slice A n c).ownBlock ∨ Value.ownBlock (.slice A' (n + 1) c') = some (w2.heap.size + 1)) :
    FilI w0 (u.to.setCell ⟨q, 2, none⟩ (.slice A' (n + 1) c')) rb q rows cols (n + 1) A' c' (xs ++ [y]) := by
  have hl := h.bq.lt
  have hl2 := h.br.lt
  have hne : ∀ k, k < w2.heap.size → some k ≠ (Value.slice A n c).ownBlock → some k ≠ Value.ownBlock (.slice A' (n + 1) c') := fun k hk h1 => by
    rcases hat with e | e
    · rw [e]; exact h1
    · rw [e]; intro h2; injection h2 with h2; omega
  refine ⟨?_, ?_, ?_, hne q hl h.nq, hne rb hl2 h.nr, h.qr, h.hr, h.hq, (h.bel.trans (hb.mono (by have := h.hr; omega))).setCell h.hq _⟩
  · obtain ⟨css, h1, h2, h3, h4, h5⟩ := hown
    refine ⟨css, h1.kept (row := some q) ⟨rfl, rfl, rfl, by simp, fun k _ hk => Below.heap_setCell _ _ _ _ (fun e => hk (by rw [e]))⟩ ?_, h2, h3, h4, fun i cs x hc hx => h5 i cs x hc hx⟩
    exact .inr fun e => hne q hl h.nq e.symm
  · have := (h.bq.grw u.ok h.nq).set 2 (.slice A' (n + 1) c')
    simpa using this
  · exact (h.br.grw u.ok h.nr).set_other (by exact h.qr) _

set_option maxRecDepth 100000 in
set_option maxHeartbeats 4000000 in
theorem filled_any {w : World} {rows cols : Nat} (hrows : rows ≤ 255) (hcols : cols ≤ 255) {g : FuncId} {cap : Array Value} {f : Nat → Nat → Nat} (hg : Hid (∀ args w, (callFunc g args).run Tryz.prog w = .ok (.enter g args) w))
    (hstep : Hid (∀ i j W, i < rows → j < cols → Below w.heap.size w W → Calls Tryz.prog g (#[.int .i64 (i : Int), .int .i64 (j : Int)] ++ cap) W fun e W' => e = .returned (.int .u8 (f i j : Int)) ∧ f i j < 256 ∧ Below W.heap.size W W')) :
    Calls Tryz.prog 164 #[.int .i64 (rows : Int), .int .i64 (cols : Int), .func (.func g) #[] cap] w fun e w' => ∃ A c, e = .returned (.agg #[.int .i64 (rows : Int), .int .i64 (cols : Int), .slice A (rows * cols) c]) ∧ rows * cols ≤ c ∧
      RdL ByR 1 (fun k => w.heap.size ≤ k) w' A (rows * cols) (flatF f rows cols) ∧ Below w.heap.size w w' := by
  have hgg := hg.out
  have q0 : (0 : Int) ≤ (rows : Int) := Int.natCast_nonneg _
  have q1 : (0 : Int) ≤ (cols : Int) := Int.natCast_nonneg _
  have q2 : (rows : Int) ≤ 255 := by omega
  have q3 : (cols : Int) ≤ 255 := by omega
  have hmx : rows * cols ≤ 65025 := Nat.mul_le_mul hrows hcols
  have q4 : IntKind.i64.wrap ((rows : Int) * (cols : Int)) = ((rows * cols : Nat) : Int) := by
    rw [IntKind.wrap_i64, ← Int.natCast_mul]; omega
  go_enter Tryz.func164, Tryz.ntmps164
  go_wp2_with (at_make; refine wpList_make0 ByR (fun _ => True) sl_by rfl rfl (base := w.heap.size + 1) rfl rfl (rows * cols) (by omega) (by omega) (by unfold maxLen; omega) (by (first | (with_reducible exact Nat.le_refl _) | omega | (simp only [World.size_alloc, World.size_setCell, World.size_drew] <;> omega))) ?_; intro y hys hown; have hyb : Below w.heap.size w y.to := ((Below.refl _ _).alloc (Nat.le_refl _) _).trans (y.ok.mono (by rw [World.size_alloc]; omega)))
  obtain ⟨q, hq⟩ : ∃ q, y.to.heap.size = q := ⟨_, rfl⟩
  obtain ⟨rb, hrb⟩ : ∃ rb, w.heap.size = rb := ⟨_, rfl⟩
  have hF0 : FilI w (y.to.alloc (.cells #[.int .i64 (rows : Int), .int .i64 (cols : Int), .slice (some ⟨w.heap.size + 1, 0, none⟩) 0 (rows * cols)] 181)) rb q rows cols 0 (some ⟨w.heap.size + 1, 0, none⟩) (rows * cols) [] := by
    have hyl := y.ok.size
    simp only [World.size_alloc] at hown hys hyl
    refine ⟨OwnL.alloc ByR.stable (hrb ▸ hown) _, hq ▸ BoxAt.new _ _ _, hrb ▸ ((BoxAt.new w _ _).below y.ok).alloc _, ?_, ?_, by omega, by omega, by omega, hyb.alloc hyb.size _⟩
    · intro e; injection e with e; dsimp only at e; omega
    · intro e; injection e with e; dsimp only at e; omega
  rw [hrb, hq]
  rw [hrb] at hF0
  have HF0 := Lib.hid hF0
  have HRB := Lib.hid hrb
  clear hF0 hown hys hyb hq hrb
  generalize hwB : (y.to.alloc _) = wB at *
  clear hwB
  go_loopw [18] (fun vi wr => ∃ (i : Nat) (A : Option Addr) (c : Nat), i ≤ rows ∧ vi = .int .i64 i ∧ Hid (FilI w wr rb q rows cols (i * cols) A c (flatF f i cols))) (fun vi _ => rows - (intOf vi).toNat)
  case atStart => exact ⟨0, _, _, Nat.zero_le _, rfl, by rw [Nat.zero_mul]; exact HF0⟩
  case round =>
    obtain ⟨wo, rfl⟩ : ∃ wo, wo = wr := ⟨_, rfl⟩
    clear HF0
    obtain ⟨i, A, c, hi, rfl, HI⟩ := hrel
    have p0 : (0 : Int) ≤ (i : Int) := Int.natCast_nonneg _
    by_cases hlt : i < rows
    · have p1 : (i : Int) < (rows : Int) := by omega
      go_wp2_with fail
      go_loopw [22] (fun vi wr => ∃ (j : Nat) (A : Option Addr) (c : Nat), j ≤ cols ∧ vi = .int .i64 j ∧ Hid (FilI w wr rb q rows cols (i * cols + j) A c (flatU f cols i j))) (fun vi _ => cols - (intOf vi).toNat)
      case atStart => exact ⟨0, A, c, Nat.zero_le _, rfl, by rw [flatU_zero]; exact HI⟩
      case round =>
        clear HI A c
        obtain ⟨j, A, c, hj, rfl, HI⟩ := hrel
        have p2 : (0 : Int) ≤ (j : Int) := Int.natCast_nonneg _
        by_cases hlj : j < cols
        · have p3 : (j : Int) < (cols : Int) := by omega
          have hnx : i * cols + j < 65025 := by
            have := Nat.mul_le_mul (show i + 1 ≤ rows from hlt) (Nat.le_refl cols)
            rw [Nat.succ_mul] at this
            omega
          have c0 := HI.out.bq.cell 2
          have s0 : wr.drew.cell? ⟨q, 2, none⟩ = some (.slice A (i * cols + j) c) ∧ q < wr.drew.heap.size := ⟨c0, HI.out.bq.lt⟩
          have HD := Lib.hid (HI.out.below (w2 := wr.drew) (Below.refl _ _).drew)
          have hst := hstep.out i j wr.drew hlt hlj HD.out.bel
          clear c0
          go_wp2_with fail
          refine wp_region_L (S := fun w' => w'.cell? ⟨q, 2, none⟩ = some (.slice A (i * cols + j) c) ∧ q < w'.heap.size) [9] (by kernel_rfl) (by first | exact s0 | exact s2 | exact s9 | exact ⟨(World.cell?_alloc_past _ _ _ s2.2).trans s2.1, by rw [World.size_alloc]; exact Nat.lt_succ_of_lt s2.2⟩) (fun hHeld => ?_)
          refine tkL 0 rfl ?_
          refine tkL 1 rfl ?_
          refine tkL 2 rfl ?_
          refine tkL 3 rfl ?_
          refine tkL 4 rfl ?_
          refine rdL 5 rfl fun K hK => ?_
          try simp (maxSteps := 2000000) only [zz1, zz2, zz3]
          go_simp
          refine hst.mono ?_
          rintro e w2 ⟨rfl, hv, hb2⟩
          have HI2 := Lib.hid (HD.out.below hb2)
          have s2 : w2.cell? ⟨q, 2, none⟩ = some (.slice A (i * cols + j) c) ∧ q < w2.heap.size := ⟨HI2.out.bq.cell 2, HI2.out.bq.lt⟩
          have HV := Lib.hid hv
          clear hst hb2 hv
          try (go_wp2_with fail)
          refine hK.out _ _ (by first | exact s0 | exact s2 | exact s9 | exact ⟨(World.cell?_alloc_past _ _ _ s2.2).trans s2.1, by rw [World.size_alloc]; exact Nat.lt_succ_of_lt s2.2⟩) (fun hHeld => ?_)
          clear hK K
          try simp (maxSteps := 2000000) only [zz1, zz2, zz3, Act.put, zz4, zz5, zz6]
          refine rdL 6 rfl fun K hK => ?_
          try simp (maxSteps := 2000000) only [zz1, zz2, zz3]
          go_simp
          refine hK.out _ _ (by first | exact s0 | exact s2 | exact s9 | exact ⟨(World.cell?_alloc_past _ _ _ s2.2).trans s2.1, by rw [World.size_alloc]; exact Nat.lt_succ_of_lt s2.2⟩) (fun hHeld => ?_)
          clear hK K
          try simp (maxSteps := 2000000) only [zz1, zz2, zz3, Act.put, zz4, zz5, zz6]
          refine rdL 7 rfl fun K hK => ?_
          refine step_law (by rfl) (wpList_push1 ByR.stable ByR.one sl_by (by rfl) (by rfl) (base := rb + 1) (S := fun _ => True) (cs := #[.int .u8 (f i j : Int)]) (y := f i j) (by rfl) (by rfl) HI2.out.own (by rfl) ⟨HV.out, rfl⟩ (by unfold maxLen; omega) (by omega) HI2.out.br.lt ?_)
          intro A8 c8 u8 hc8 own9 hlt8 hb8 hat8
          refine And.intro rfl ?_
          have B9 := HI2.out.bq.grw u8.ok HI2.out.nq
          have s9 : u8.to.cell? ⟨q, 2, none⟩ = some (.slice A (i * cols + j) c) ∧ q < u8.to.heap.size := ⟨B9.cell 2, B9.lt⟩
          have f9 := B9.frozen 2
          have HP := Lib.hid (HI2.out.pushed u8 own9 hb8 hat8)
          clear own9 hb8 hat8 B9
          refine hK.out _ _ (by first | exact s0 | exact s2 | exact s9 | exact ⟨(World.cell?_alloc_past _ _ _ s2.2).trans s2.1, by rw [World.size_alloc]; exact Nat.lt_succ_of_lt s2.2⟩) (fun hHeld => ?_)
          clear hK K
          try simp (maxSteps := 2000000) only [zz1, zz2, zz3, Act.put, zz4, zz5, zz6]
          refine tkL 8 rfl ?_
          refine lsL 9 rfl fun K hK => ?_
          try simp (maxSteps := 2000000) only [zz1, zz2, zz3]
          go_simp
          refine hK.out _ _ ?_
          clear hK K
          try simp (maxSteps := 2000000) only [zz1, zz2, zz3, Act.put, zz4, zz5, zz6]
          refine wpAnyL_done (by kernel_rfl) ?_ _
          clear f9 s9 s2 hHeld
          rw [← flatU_next] at HP
          go_wp2_with fail
          exact ⟨⟨j + 1, A8, c8, by omega, by go_num, HP⟩, by simp [intOf]; omega⟩
        · have p3 : ¬ (j : Int) < (cols : Int) := by omega
          obtain rfl : j = cols := by omega
          rw [flatU_row, ← Nat.succ_mul] at HI
          go_wp2_with fail
          exact ⟨⟨i + 1, A, c, by omega, by go_num, HI⟩, by simp [intOf]; omega⟩
    · have p1 : ¬ (i : Int) < (rows : Int) := by omega
      obtain rfl : i = rows := by omega
      have b0 := HI.out.bq.cell 0
      have b1 := HI.out.bq.cell 1
      have b2 := HI.out.bq.cell 2
      have r0 := HI.out.br.cell 0
      have r1 := HI.out.br.cell 1
      have r2 := HI.out.br.cell 2
      have f0 := HI.out.br.frozen 0
      have f1 := HI.out.br.frozen 1
      have f2 := HI.out.br.frozen 2
      go_wp2_with fail
      refine bodyPost_ret (v := .agg #[.int .i64 (i : Int), .int .i64 (cols : Int), .slice A (i * cols) c]) (by simp [results, Tryz.results164, go_sem, *]) rfl ?_
      obtain ⟨A', c', e1, hc, hr⟩ := HI.out.own.rd (S' := fun k => rb < k) (fun _ hk => hk) (fun cs x hx => hx)
      injection e1 with e1 _ e2
      subst e1; subst e2
      have hrl : ∀ {w' : World} {p : Addr} {v : Value}, p.block = rb → RdL ByR 1 (fun k => rb < k) w' A (i * cols) (flatF f i cols) → RdL ByR 1 (fun k => rb < k) (w'.setCell p v) A (i * cols) (flatF f i cols) := fun hp h => h.setCell ByR.stable (by rw [hp]; exact Nat.lt_irrefl _) _
      have hbl : ∀ {w' : World} {p : Addr} {v : Value}, p.block = rb → Below w.heap.size w w' → Below w.heap.size w (w'.setCell p v) := fun hp h => h.setCell (by rw [hp]; exact HI.out.hr) _
      refine ⟨A, c, rfl, hc, RdL.weaken ByR.stable (S := fun k => rb < k) ?_ (fun k hk => Nat.le_trans HI.out.hr (Nat.le_of_lt hk)), ?_⟩
      · repeat (first | exact hr | refine hrl rfl ?_)
      · repeat (first | exact HI.out.bel | refine hbl rfl ?_)
end
section

theorem dv_11 : dv 1 1 = 1 := by decide +kernel
set_option maxRecDepth 100000 in
set_option maxHeartbeats 1600000 in
/-- The first quotient: the tables are made. -/
theorem div_new {w : World} {b : Nat} (F : FldNew w b) :
    Calls Tryz.prog 166 #[.pointer (some ⟨b, 0, none⟩), .int .u8 1, .int .u8 1] w fun e w' => e = .returned (.tuple #[.int .u8 1, .int .i64 0]) ∧ Fld w' b ∧ Keep (· = b) w w' := by
  have hR := ready_new F
  clear F
  go_enter Tryz.func166, Tryz.ntmps166
  go_wp2_with (go_at_call 199; refine hR.mono ?_; rintro e w2 ⟨rfl, F, K⟩; have HK := Lib.hid K; have HF := Lib.hid F; clear K hR; have l1 : w2.cell? ⟨b, 515, none⟩ = some (.int .i64 0) := F.log 1 (by decide) (by decide); have x1 : w2.cell? ⟨b, 259, none⟩ = some (.int .u8 1) := (F.exp 255 (by decide)).trans (by rw [ex_255]; rfl); have hbl := F.lt; clear F)
  refine wp_region_later (by kernel_rfl) (by kernel_rfl) ?_
  repeat (go_big_quiet_step (fail))
  refine wpQuiet_nil ?_
  rintro _ ⟨z, rfl⟩
  go_wp2_with fail
  go_ret2
  exact ⟨rfl, HF.out.below z.ok, HK.out.trans (Keep.of_below (F := fun _ => False) z.ok) (fun _ h => h.elim)⟩
set_option maxRecDepth 100000 in
theorem nobody_new {w : World} {b : Nat} (F : FldNew w b) :
    Calls Tryz.prog 161 #[.pointer (some ⟨b, 0, none⟩)] w fun e w' => e = .returned (.bool false) ∧ Fld w' b ∧ Keep (· = b) w w' := by
  have hD := div_new F
  clear F
  go_enter Tryz.func161, Tryz.ntmps161
  go_wp2_with (go_at_call 166; refine hD.mono ?_; rintro e w2 ⟨rfl, F, K⟩; have HF := Lib.hid F; have HK := Lib.hid K; clear F K hD)
  go_ret
  exact ⟨rfl, HF.out, HK.out⟩
set_option maxRecDepth 100000 in
theorem nobody_any {w : World} {b : Nat} (F : Fld w b) :
    Calls Tryz.prog 161 #[.pointer (some ⟨b, 0, none⟩)] w fun e w' => e = .returned (.bool false) ∧ Below w.heap.size w w' := by
  have hD := div_any F (a := 1) (c := 1) (by decide) (by decide) (by decide)
  rw [dv_11] at hD
  clear F
  go_enter Tryz.func161, Tryz.ntmps161
  go_wp2_with (go_at_call 166; refine hD.mono ?_; rintro e w2 ⟨rfl, hb⟩; have HK := Lib.hid hb; clear hb hD)
  go_ret
  exact ⟨rfl, HK.out⟩

set_option maxRecDepth 100000 in
theorem right_ok {w : World} {rows cols c : Nat} {A : Option Addr} (h1 : 1 ≤ rows) (h2 : rows ≤ 255) (h3 : 1 ≤ cols) (h4 : cols ≤ 255) :
    Calls Tryz.prog 237 #[.agg #[.int .i64 (rows : Int), .int .i64 (cols : Int), .slice A (rows * cols) c]] w fun e w' => e = .returned (.bool true) ∧ Below w.heap.size w w' := by
  have hmx : rows * cols ≤ 65025 := Nat.mul_le_mul h2 h4
  have q4 : IntKind.i64.wrap ((rows : Int) * (cols : Int)) = ((rows * cols : Nat) : Int) := by
    rw [IntKind.wrap_i64, ← Int.natCast_mul]; omega
  have d1 : decide (1 ≤ (rows : Int) ∧ (rows : Int) ≤ 255) = true := by simp; omega
  have d2 : decide (1 ≤ (cols : Int) ∧ (cols : Int) ≤ 255) = true := by simp; omega
  go_enter Tryz.func237, Tryz.ntmps237
  go_wp2_with (go_at_call 162; refine (within_any _).mono ?_; rintro e w' ⟨rfl, rfl⟩; try rw [d1]; try rw [d2])
  go_ret
  exact ⟨by simp, (by repeat (first | (with_reducible exact Below.refl _ _) | (with_reducible assumption) | (with_reducible refine Below.drew ?_) | (with_reducible refine Below.setCell ?_ ?_ _) | (with_reducible refine Below.alloc ?_ ?_ _) | (with_reducible refine Below.later ?_ ?_ _) | (first | (with_reducible exact Nat.le_refl _) | omega | (simp only [World.size_alloc, World.size_setCell, World.size_drew] <;> omega))))⟩
theorem piece3 {T E : TypeId} {z : Value} {s b : Nat} (st : SlTy Tryz.prog T E z s b) {A : Option Addr} {N c l h : Nat} (h1 : l < h) (h2 : h ≤ c) (w : World) : (Instr.slice T (.slice A N c) (some (.int .i64 (l : Int))) (some (.int .i64 (h : Int))) (some (.int .i64 (h : Int)))).run Tryz.prog w = .ok (.slice (A.map (fun x : Addr => x.add (l * s))) (h - l) (h - l)) w := by
  obtain ⟨i, hi, hz, hsz, hby⟩ := info_parts st.info
  have hel : Tryz.prog.elem T = E := by simp [Program.elem, st.und]
  have ht : Tryz.prog.underlying T = some (.slice (Tryz.prog.elem T)) := by rw [hel]; exact st.und
  have e1 : ((h : Int)).toNat = h := Int.toNat_natCast _
  simp only [Instr.slice, Sem.run_bind, run_underlying ht, Result.andThen, Instr.sliceBounds]
  have hs : (sizeOf E).run Tryz.prog w = .ok s w := by
    simp [sizeOf, typeInfo, hi, hsz]
  have a1 : (l : Int) ≤ (h : Int) := by omega
  have a2 : (h : Int) ≤ (c : Int) := by omega
  have a3 : (0 : Int) ≤ (l : Int) := Int.natCast_nonneg _
  have a4 : (0 : Int) ≤ (h : Int) := Int.natCast_nonneg _
  have a5 : ¬ h = l := by omega
  simp [run_sliceBound, hs, Result.andThen, *]
theorem row_any {w : World} {cols i n c : Nat} {A : Option Addr} (hn : (i + 1) * cols ≤ n) (hc : n ≤ c) (hi : i ≤ 255) (hcols : cols ≤ 255) (h0 : 1 ≤ cols) :
    Calls Tryz.prog 238 #[.slice A n c, .int .i64 (cols : Int), .int .i64 (i : Int)] w fun e w' => e = .returned (.slice (A.map fun x : Addr => x.add (i * cols)) cols cols) ∧ w' = w := by
  have hmx : i * cols ≤ 65025 := Nat.mul_le_mul hi hcols
  have hsm : (i + 1) * cols = i * cols + cols := Nat.succ_mul _ _
  have q1 : IntKind.i64.wrap ((i : Int) * (cols : Int)) = ((i * cols : Nat) : Int) := by
    rw [IntKind.wrap_i64, ← Int.natCast_mul]; omega
  have q2 : IntKind.i64.wrap (((i : Int) + 1) * (cols : Int)) = (((i + 1) * cols : Nat) : Int) := by
    rw [IntKind.wrap_i64, show ((i : Int) + 1) = ((i + 1 : Nat) : Int) by omega, ← Int.natCast_mul]; omega
  have q3 : (i : Int) ≤ 255 := by omega
  have q4 : (0 : Int) ≤ (i : Int) := Int.natCast_nonneg _
  have hp := fun w => piece3 sl_by (A := A) (N := n) (c := c) (l := i * cols) (h := (i + 1) * cols) (by omega) (by omega) w
  rw [show (i + 1) * cols - i * cols = cols by omega, Nat.mul_one, Int.natCast_mul, Int.natCast_mul, show ((i + 1 : Nat) : Int) = (i : Int) + 1 by omega] at hp
  rw [Int.natCast_mul] at q1
  rw [Int.natCast_mul, show ((i + 1 : Nat) : Int) = (i : Int) + 1 by omega] at q2
  clear hmx hsm
  go_enter Tryz.func238, Tryz.ntmps238
  go_wp2_with fail
  go_ret
  exact ⟨rfl, rfl⟩

set_option maxRecDepth 100000 in
set_option maxHeartbeats 1600000 in
theorem at_any {w : World} {rows cols c : Nat} {A : Option Addr} {S : Nat → Prop} {xs : List Nat} (h1 : 1 ≤ rows) (h2 : rows ≤ 255) (h3 : 1 ≤ cols) (h4 : cols ≤ 255) (R : RdL ByR 1 S w A (rows * cols) xs) (hc : rows * cols ≤ c) {i j : Nat} (hi : i < rows) (hj : j < cols) :
    Calls Tryz.prog 212 #[.agg #[.int .i64 (rows : Int), .int .i64 (cols : Int), .slice A (rows * cols) c], .int .i64 (i : Int), .int .i64 (j : Int)] w fun e w' => e = .returned (.int .u8 (gt xs (i * cols + j) : Int)) ∧ Below w.heap.size w w' := by
  have hmul : (i + 1) * cols ≤ rows * cols := Nat.mul_le_mul hi (Nat.le_refl _)
  have hsm : (i + 1) * cols = i * cols + cols := Nat.succ_mul _ _
  obtain ⟨bb, o, rfl, _, hbb⟩ := R.addr (k := i * cols + j) (by omega)
  have hv := (by_at R (k := i * cols + j) (by omega)).1
  have hR := fun w' => right_ok (w := w') (A := some ⟨bb, o, none⟩) (c := c) h1 h2 h3 h4
  have hrow := fun w' => row_any (w := w') (n := rows * cols) (c := c) (A := some ⟨bb, o, none⟩) hmul hc (by omega : i ≤ 255) h4 h3
  have ha : Option.map (fun x : Addr => x.add (i * cols)) (some ⟨bb, o, none⟩) = some ⟨bb, o + i * cols, none⟩ := by
    simp only [Option.map_some, Addr.add]
    split
    · rename_i e; rw [e]; rfl
    · rfl
  rw [ha] at hrow
  have hv2 : w.cell? ⟨bb, o + i * cols + j, none⟩ = some (.int .u8 (gt xs (i * cols + j) : Int)) := by rw [Nat.add_assoc]; exact hv
  have HV := Lib.hid hv2
  have q1 : (i : Int) < (rows : Int) := by omega
  have q2 : (j : Int) < (cols : Int) := by omega
  have q3 : (0 : Int) ≤ (i : Int) := Int.natCast_nonneg _
  have q4 : (0 : Int) ≤ (j : Int) := Int.natCast_nonneg _
  obtain ⟨wA, hwA⟩ : ∃ wA, w.alloc (.cells #[.int .i64 (rows : Int), .int .i64 (cols : Int), .slice (some ⟨bb, o, none⟩) (rows * cols) c] 181) = wA := ⟨_, rfl⟩
  have bx := BoxAt.new w #[.int .i64 (rows : Int), .int .i64 (cols : Int), .slice (some ⟨bb, o, none⟩) (rows * cols) c] 181
  have b0 : Below w.heap.size w (w.alloc (.cells #[.int .i64 (rows : Int), .int .i64 (cols : Int), .slice (some ⟨bb, o, none⟩) (rows * cols) c] 181)) := (Below.refl _ _).alloc (Nat.le_refl _) _
  rw [hwA] at bx b0
  have k0 := bx.cell 0
  have k1 := bx.cell 1
  have k2 := bx.cell 2
  have BX := Lib.hid bx
  have B0 := Lib.hid b0
  clear hmul hsm hv ha hv2 bx b0 R
  go_enter Tryz.func212, Tryz.ntmps212
  go_wp2_with (first | (go_at_call 237; refine (hR _).mono ?_; rintro e w2 ⟨rfl, hb2⟩; have BX2 := BX.out.below hb2; replace k0 := BX2.cell 0; replace k1 := BX2.cell 1; replace k2 := BX2.cell 2; have hx := (((B0.out.trans (hb2.mono B0.out.size)).cell (p := ⟨bb, o + i * cols + j, none⟩) hbb).trans HV.out); have HB2 := Lib.hid (B0.out.trans (hb2.mono B0.out.size)); clear hb2) | (go_at_call 238; refine (hrow _).mono ?_; rintro e w3 ⟨rfl, rfl⟩))
  go_ret
  exact ⟨rfl, HB2.out⟩

/-- A row of bytes. -/
def RowR (S : Nat → Prop) (w : World) (cs : List Value) (x : List Nat) : Prop := ∃ A n c, cs = [.slice A n c] ∧ n ≤ c ∧ RdL ByR 1 S w A n x
theorem RowR.stable : Stable RowR := fun S S' w w' cs x h hk => by
  obtain ⟨A, n, c, rfl, h1, h2⟩ := h
  exact ⟨A, n, c, rfl, h1, h2.stable ByR.stable hk⟩
theorem RowR.one : ∀ S w cs x, RowR S w cs x → ∀ u ∈ cs, u.oneCell' = true := by
  rintro S w cs x ⟨A, n, c, rfl, _, _⟩ u hu
  simp at hu
  subst hu; rfl
theorem row_at {S : Nat → Prop} {w : World} {b o n : Nat} {l : Rws} (h : RdL RowR 1 S w (some ⟨b, o, none⟩) n l) {k : Nat} (hk : k < n) :
    ∃ A m c, w.cell? ⟨b, o + k, none⟩ = some (.slice A m c) ∧ m ≤ c ∧ RdL ByR 1 S w A m (ra l k) := by
  obtain ⟨hl, cs, _, ⟨A, m, c, rfl, h1, h2⟩, h3⟩ := h.at hk
  refine ⟨A, m, c, ?_, h1, ?_⟩
  · have := h3 0 _ rfl
    rwa [Nat.mul_one, Nat.add_zero] at this
  · rwa [ra_some (List.getElem?_eq_getElem hl)]
/-- Which bytes were met. -/
def MetI (w : World) (b : Nat) (seen : List Nat) : Prop := ∃ cur : Array Value, BoxAt w b cur ∧ ∀ c, c < 256 → cur[c]? = some (.bool (decide (c ∈ seen)))
theorem MetI.new (w : World) (t : TypeId) (cur : Array Value) (h : ∀ c, c < 256 → cur[c]? = some (.bool false)) : MetI (w.alloc (.cells cur t)) w.heap.size [] := ⟨cur, BoxAt.new _ _ _, fun c hc => by rw [h c hc]; simp⟩
theorem MetI.below {w w' : World} {b : Nat} {seen : List Nat} (h : MetI w b seen) (hb : Below w.heap.size w w') : MetI w' b seen := by
  obtain ⟨cur, h1, h2⟩ := h
  exact ⟨cur, h1.below hb, h2⟩
theorem MetI.set {w : World} {b c : Nat} {seen : List Nat} (h : MetI w b seen) (hc : c < 256) : MetI (w.setCell ⟨b, c, none⟩ (.bool true)) b (seen ++ [c]) := by
  obtain ⟨cur, h1, h2⟩ := h
  have hl : c < cur.size := by
    have := h2 c hc
    exact (Array.getElem?_eq_some_iff.1 this).1
  refine ⟨_, h1.set c (.bool true), fun d hd => ?_⟩
  by_cases e : d = c
  · subst e
    rw [set_eq hl]; simp
  · rw [set_ne (fun h => e h.symm), h2 d hd]
    simp [e]
theorem zero256 : Tryz.zeroCells278 = Array.replicate 256 (.bool false) := by kernel_rfl
theorem flatten_take {ls : Rws} {k : Nat} (hk : k < ls.length) : (ls.take (k + 1)).flatten = (ls.take k).flatten ++ ra ls k := by
  rw [List.take_add_one, ra_of_lt hk, List.flatten_append]; simp
theorem take_gt {l : List Nat} {j : Nat} (hj : j < l.length) : l.take (j + 1) = l.take j ++ [gt l j] := by
  rw [List.take_add_one, gt_of_lt hj]; rfl
theorem nodup_at {ls : Rws} {k j : Nat} (hk : k < ls.length) (hj : j < (ra ls k).length) (h : ls.flatten.Nodup) : gt (ra ls k) j ∉ (ls.take k).flatten ++ (ra ls k).take j := by
  have h1 : ls.flatten = (ls.take (k + 1)).flatten ++ (ls.drop (k + 1)).flatten := by rw [← List.flatten_append, List.take_append_drop]
  rw [h1, flatten_take hk, List.nodup_append] at h
  have h2 := h.1
  rw [← List.take_append_drop (j + 1) (ra ls k), take_gt hj, ← List.append_assoc, ← List.append_assoc] at h2
  have h3 := (List.nodup_append.1 h2).1
  have h4 := List.nodup_append.1 h3
  intro hm
  exact h4.2.2 _ hm _ (List.mem_singleton.2 rfl) rfl
set_option maxRecDepth 100000 in
set_option maxHeartbeats 4000000 in
theorem twice_any {w : World} {n c : Nat} {A : Option Addr} {S : Nat → Prop} {ls : Rws} (R : RdL RowR 1 S w A n ls) (hn : n ≤ 1000000) (hlen : ∀ l ∈ ls, l.length ≤ 1000000) (hnd : ls.flatten.Nodup) :
    Calls Tryz.prog 163 #[.slice A n c] w fun e w' => e = .returned (.bool false) ∧ Below w.heap.size w w' := by
  have HR := Lib.hid R
  have hl := R.1
  have q0 : (n : Int) ≤ 1000000 := by omega
  clear R
  go_enter Tryz.func163, Tryz.ntmps163
  go_wp2_with fail
  have hm0 := MetI.new w 278 Tryz.zeroCells278 (fun c hc => by rw [zero256, Array.getElem?_replicate, if_pos hc])
  have hb0 : Below w.heap.size w (w.alloc (.cells Tryz.zeroCells278 278)) := (Below.refl _ _).alloc (Nat.le_refl _) _
  generalize w.alloc (.cells Tryz.zeroCells278 278) = wA at *
  have M0 := Lib.hid hm0
  have B0 := Lib.hid hb0
  clear hm0 hb0
  go_loopw [10] (fun vi wr => ∃ k : Nat, k ≤ n ∧ vi = .int .i64 k ∧ Hid (MetI wr w.heap.size (ls.take k).flatten) ∧ Hid (Below w.heap.size w wr)) (fun vi _ => n - (intOf vi).toNat)
  case atStart => exact ⟨0, Nat.zero_le _, rfl, M0, B0⟩
  case round =>
    obtain ⟨wo, rfl⟩ : ∃ wo, wo = wr := ⟨_, rfl⟩
    clear M0 B0
    obtain ⟨k, hk, rfl, HM, HB⟩ := hrel
    have p0 : (0 : Int) ≤ (k : Int) := Int.natCast_nonneg _
    by_cases hlt : k < n
    · have p1 : (k : Int) < (n : Int) := by omega
      obtain ⟨bb, o, rfl, _, hbb⟩ := HR.out.addr hlt
      obtain ⟨A1, m1, c1, hv, hmc, hr⟩ := row_at HR.out hlt
      replace hv := (HB.out.cell (p := ⟨bb, o + k, none⟩) hbb).trans hv
      have HR1 := Lib.hid hr
      have hrl := hr.1
      have hkl : k < ls.length := by omega
      have p2 : (m1 : Int) ≤ 1000000 := by have := hlen _ (ra_mem hkl); omega
      have HLT := Lib.hid hlt
      clear hr hlt
      go_wp2_with fail
      go_loopw [16] (fun vi wr => ∃ j : Nat, j ≤ m1 ∧ vi = .int .i64 j ∧ Hid (MetI wr w.heap.size ((ls.take k).flatten ++ (ra ls k).take j)) ∧ Hid (Below w.heap.size w wr)) (fun vi _ => m1 - (intOf vi).toNat)
      case atStart => exact ⟨0, Nat.zero_le _, rfl, by rw [List.take_zero, List.append_nil]; exact HM, HB⟩
      case round =>
        clear HM HB hv
        obtain ⟨j, hj, rfl, HM, HB⟩ := hrel
        have p3 : (0 : Int) ≤ (j : Int) := Int.natCast_nonneg _
        by_cases hlj : j < m1
        · have p4 : (j : Int) < (m1 : Int) := by omega
          obtain ⟨b2, o2, rfl, _, hb2⟩ := HR1.out.addr hlj
          obtain ⟨c2, x2⟩ := by_at HR1.out hlj
          replace c2 := (HB.out.cell (p := ⟨b2, o2 + j, none⟩) hb2).trans c2
          have hni := nodup_at hkl (j := j) (by omega) hnd
          have hset := HM.out.set x2
          obtain ⟨cur, h1, h2⟩ := HM.out
          have m2 := (h1.cell (gt (ra ls k) j)).trans (h2 _ x2)
          rw [decide_eq_false hni] at m2
          have f2 := h1.frozen (gt (ra ls k) j)
          rw [List.append_assoc, ← take_gt (by omega)] at hset
          have p5 : ((gt (ra ls k) j : Nat) : Int) < 256 := by omega
          have p6 : (0 : Int) ≤ ((gt (ra ls k) j : Nat) : Int) := Int.natCast_nonneg _
          have HS := Lib.hid hset
          have HB3 := Lib.hid (HB.out.setCell (p := ⟨w.heap.size, gt (ra ls k) j, none⟩) (Nat.le_refl _) (.bool true))
          clear hset h1 h2 hni
          go_wp2_with fail
          exact ⟨⟨j + 1, by omega, by go_num, HS, HB3⟩, by simp [intOf]; omega⟩
        · have p4 : ¬ (j : Int) < (m1 : Int) := by omega
          obtain rfl : j = m1 := by omega
          rw [← hrl, List.take_length, ← flatten_take hkl] at HM
          have hlt2 := HLT.out
          go_wp2_with fail
          exact ⟨⟨k + 1, by omega, by go_num, HM, HB⟩, by simp [intOf]; omega⟩
    · have p1 : ¬ (k : Int) < (n : Int) := by omega
      go_wp2_with fail
      go_ret
      exact ⟨rfl, HB.out⟩
end
end Go.Proofs.YtihnlhfngmbglaaGreat
