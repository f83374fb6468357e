/-
  Least; a pool's small questions.
  A pool: the small questions, Free, places.
  A pool: generations; Take.
  A pool gives out places; a new pool.
  A new pool; a pool's copy.
  Blobs: how many stripes, their names, pieces.
  Places and generations for a value.
  A value is put.
  Whether a blob may be; how long its stripes should be.
-/
import Derived.Test.YtcliejdiaohamaaGreatBb12
set_option linter.unusedSimpArgs false
set_option linter.unusedVariables false
namespace Go.Proofs.YtcliejdiaohamaaGreat
open Go.RowKit Go.Cib
attribute [local go_sem] cell_set Later.cell Later.frozen Grw.cell Grw.frozen
theorem _root_.Go.Cib.RdL.bound1 {X : Type} {R : (Nat → Prop) → World → List Value → X → Prop} (hR : Stable R) {s : Nat} {S : Nat → Prop} {w : World} {A : Option Addr} {n : Nat} {xs : List X} (h : RdL R s S w A n xs) : RdL R s (fun j => S j ∧ j < w.heap.size) w A n xs := h.stable hR fun j hj hl => ⟨⟨hj, hl⟩, rfl⟩
theorem int_at1 {S : Nat → Prop} {w : World} {b o n : Nat} {xs : List Int} (h : RdL IntR 1 S w (some ⟨b, o, none⟩) n xs) {k : Nat} (hk : k < n) : ∃ x, xs[k]? = some x ∧ w.cell? ⟨b, o + k, none⟩ = some (.int .i64 x) := by
  obtain ⟨hl, cs, _, rfl, h2⟩ := h.at hk
  refine ⟨xs[k], List.getElem?_eq_getElem hl, ?_⟩
  have := h2 0 _ rfl
  rwa [Nat.mul_one, Nat.add_zero] at this
def LeastE (w : World) (xs : List Int) (e : Ending) (w' : World) : Prop := ∃ A c, e = .returned (.slice A xs.length c) ∧ xs.length ≤ c ∧ RdL IntR 1 (fun j => w.heap.size ≤ j) w' A xs.length xs ∧ Below w.heap.size w w'
section
variable {w w' : World} {o g n : Nat} {ws : List Nat}
theorem blen_b (h : BmAt w o g n ws) : Calls Tryz.prog 114 #[.pointer (some ⟨o, 0, none⟩)] w fun e w' => e = .returned (.int .i64 (n : Int)) ∧ Below w.heap.size w w' := (blen_any h).mono fun e w' ⟨h1, h2⟩ => ⟨h1, by rw [h2]; exact Below.refl _ _⟩
theorem bcount_b (h : BmAt w o g n ws) : Calls Tryz.prog 115 #[.pointer (some ⟨o, 0, none⟩)] w fun e w' => e = .returned (.int .i64 (cntT ws n : Nat)) ∧ Below w.heap.size w w' := (bcount_any h).mono fun e w' ⟨h1, h2⟩ => ⟨h1, by rw [h2]; exact Below.refl _ _⟩
theorem intInfo : (Tryz.prog.info? 3).map (fun i => (i.zero, i.size, i.bytes)) = some (some (.int .i64 0), 1, 8) := by kernel_rfl
theorem makeInts0 (k : Nat) (hk : k ≤ 1000000) (w : World) : (Instr.makeSlice 46 (.int .i64 0) (.int .i64 (k : Int))).run Tryz.prog w = .ok (.slice (some ⟨w.heap.size, 0, none⟩) 0 k) (w.alloc (.cells (Array.replicate k (.int .i64 0)) 3)) := by
  obtain ⟨i, hi, hz, hs, hb⟩ := info_parts intInfo
  have h := run_make (P := Tryz.prog) w 46 3 i (.int .i64 0) (by kernel_rfl) hi hz .i64 .i64 0 k (by omega) (by omega) (by rw [hb]; omega) (by omega)
  simp only [Int.toNat_natCast, hs, Nat.mul_one] at h
  rw [h, show (Value.int .i64 0).cells = #[.int .i64 0] from rfl, madeCells_r]; rfl
set_option maxRecDepth 100000 in
set_option maxHeartbeats 8000000 in
theorem least_any (h : BmAt w o g n ws) {many : Nat} (h1 : 1 ≤ many) (hm : many ≤ (freeL ws n).length) :
    Calls Tryz.prog 215 #[.pointer (some ⟨o, 0, none⟩), .int .i64 (many : Int)] w fun e w' => LeastE w ((frI ws n).take many) e w' := by
  obtain ⟨xs, hxs⟩ : ∃ xs, (frI ws n).take many = xs := ⟨_, rfl⟩
  rw [hxs]
  have HXS := Lib.hid hxs
  clear hxs
  have hfl := freeL_len ws n
  have hn1 := h.n1
  have hct := cntT_le ws n
  obtain ⟨ct, hcte⟩ : ∃ ct, cntT ws n = ct := ⟨_, rfl⟩
  have hb0 : Below w.heap.size w (w.alloc (.cells #[.int .i64 (many : Int)] 3)) := (Below.refl _ _).alloc (Nat.le_refl _) _
  have bM := BoxAt.new w #[.int .i64 (many : Int)] 3
  obtain ⟨w1, hw1⟩ : ∃ w1, w.alloc (.cells #[.int .i64 (many : Int)] 3) = w1 := ⟨_, rfl⟩
  have hsz : w1.heap.size = w.heap.size + 1 := by rw [← hw1, World.size_alloc]
  obtain ⟨mb, hmb⟩ : ∃ mb, w.heap.size = mb := ⟨_, rfl⟩
  rw [hw1] at hb0 bM
  rw [hmb] at bM
  have hb1 := h.below hb0
  have hln := fun (y : Later w1.heap.size w1) => blen_b (hb1.below y.ok)
  have hcn := fun (y : Later w1.heap.size w1) => bcount_b (hb1.below y.ok)
  rw [hcte] at hcn hfl hct
  have cM := bM.cell 0
  have hml := bM.lt
  have q0 : (0 : Int) ≤ (many : Int) := Int.natCast_nonneg _
  have q1 : (1 : Int) ≤ (many : Int) := by omega
  have q2 : (many : Int) ≤ (n : Int) - (ct : Int) := by omega
  have q3 : (n : Int) ≤ 60000 := by omega
  have q4 : (ct : Int) ≤ (n : Int) := by omega
  have f1 : decide ((many : Int) < 1) = false := decide_eq_false (by omega)
  have f2 : decide ((many : Int) > (n : Int) - (ct : Int)) = false := decide_eq_false (by omega)
  have f3 : IntKind.i64.wrap ((n : Int) - (ct : Int)) = (n : Int) - (ct : Int) := by rw [IntKind.wrap_i64]; omega
  have H1 := Lib.hid hb1
  have BM := Lib.hid bM
  have HB0 := Lib.hid hb0
  have HH := Lib.hid h
  have HMB := Lib.hid hmb
  have hmk := fun w => makeInts0 many (by omega) w
  have HM := Lib.hid hm
  clear h hb1 bM hb0 hfl hct hcte hm
  go_enter Tryz.func215, Tryz.ntmps215
  go_wp2_with fail
  refine wp_region_later (by kernel_rfl) (by kernel_rfl) ?_
  repeat (go_big_quiet_step (first | (go_at_call 114; exact Later.call _ (hln _) (Nat.le_refl _)) | (go_at_call 115; exact Later.call _ (hcn _) (Nat.le_refl _))))
  refine wpQuiet_nil ?_
  rintro _ ⟨z, rfl⟩
  clear hln hcn
  have bMz := BM.out.below z.ok
  have Hz := Lib.hid (H1.out.below z.ok)
  have HBz := Lib.hid (HB0.out.trans (z.ok.mono (by omega)))
  have hmz := bMz.lt
  have hoz := Hz.out.box.lt
  have hgz := Hz.out.row.lt
  have cz := bMz.cell 0
  have ow := OwnL.made (R := IntR) (E := 3) (s := 1) (base := z.to.heap.size) (S := fun _ => False) (w := z.to) (Array.replicate many (.int .i64 0)) many (Nat.le_refl _) (by unfold maxLen; omega) (by simp)
  have hmk2 := hmk z.to
  have hbm : Below z.to.heap.size z.to (z.to.alloc (.cells (Array.replicate many (.int .i64 0)) 3)) := (Below.refl _ _).alloc (Nat.le_refl _) _
  obtain ⟨w2, hw2⟩ : ∃ w2, z.to.alloc (.cells (Array.replicate many (.int .i64 0)) 3) = w2 := ⟨_, rfl⟩
  have hs2 : w2.heap.size = z.to.heap.size + 1 := by rw [← hw2, World.size_alloc]
  rw [hw2] at ow hmk2 hbm
  obtain ⟨g0, hg0⟩ : ∃ g0, z.to.heap.size = g0 := ⟨_, rfl⟩
  rw [hg0] at ow hmk2 hs2
  have bL := BoxAt.new w2 #[.slice (some ⟨g0, 0, none⟩) 0 many] 46
  have ow3 := ow.alloc IntR.stable (.cells #[.slice (some ⟨g0, 0, none⟩) 0 many] 46)
  have hb3 : Below z.to.heap.size z.to (w2.alloc (.cells #[.slice (some ⟨g0, 0, none⟩) 0 many] 46)) := hbm.alloc (by omega) _
  obtain ⟨w3, hw3⟩ : ∃ w3, w2.alloc (.cells #[.slice (some ⟨g0, 0, none⟩) 0 many] 46) = w3 := ⟨_, rfl⟩
  obtain ⟨lb, hlb⟩ : ∃ lb, w2.heap.size = lb := ⟨_, rfl⟩
  rw [hw3] at bL ow3 hb3
  rw [hlb] at bL
  obtain rfl : lb = g0 + 1 := by omega
  have hJ : LsJ (g0 + 1) mb g0 many [] (.slice (some ⟨g0, 0, none⟩) 0 many) w3 := ⟨bL, bMz.below hb3, ow3, by simp only [Value.ownBlock, ne_eq, Option.some.injEq]; omega, by omega, by omega, by have := hb3.size; omega⟩
  have hwk := walk_least (Hz.out.below hb3) (by omega) (by omega) hJ h1 HM.out
  have HZB := Lib.hid hb3
  have HG0 := Lib.hid hg0
  rw [HXS.out] at hwk
  clear ow ow3 hbm hJ Hz bMz
  go_wp2_with fail
  refine hwk.mono ?_
  clear hwk hmk hmk2 hw2 hw3
  rintro e w4 ⟨rfl, ⟨v', hJ⟩, hb4⟩
  obtain ⟨A, c, rfl, hc⟩ := hJ.own.form
  have c4 := hJ.out.cell 0
  have HJ := Lib.hid hJ
  have HB4 := Lib.hid (HBz.out.trans ((HZB.out.trans (hb4.mono (by omega))).mono HBz.out.size))
  clear hJ hb4 hg0
  go_wp2_with fail
  go_ret
  obtain ⟨A', c', e, _, hr⟩ := HJ.out.own.rd (S' := fun j => w.heap.size ≤ j) (fun j hj => by have := HBz.out.size; have := HG0.out; omega) (fun cs x hx => hx)
  injection e with e1 _ e2
  subst e1; subst e2
  exact ⟨A, c, rfl, hc, hr, HB4.out⟩
set_option maxRecDepth 100000 in
set_option maxHeartbeats 4000000 in
theorem least_zero (o : Nat) : Calls Tryz.prog 215 #[.pointer (some ⟨o, 0, none⟩), .int .i64 0] w fun e w' => LeastE w [] e w' := by
  have hb0 : Below w.heap.size w (w.alloc (.cells #[.int .i64 0] 3)) := (Below.refl _ _).alloc (Nat.le_refl _) _
  have bM := BoxAt.new w #[.int .i64 0] 3
  obtain ⟨w1, hw1⟩ : ∃ w1, w.alloc (.cells #[.int .i64 0] 3) = w1 := ⟨_, rfl⟩
  obtain ⟨mb, hmb⟩ : ∃ mb, w.heap.size = mb := ⟨_, rfl⟩
  rw [hw1] at hb0 bM
  rw [hmb] at bM
  have cM := bM.cell 0
  have hml := bM.lt
  have HB0 := Lib.hid hb0
  have HMB := Lib.hid hmb
  clear hb0 bM
  go_enter Tryz.func215, Tryz.ntmps215
  go_wp2_with fail
  refine wp_region_later (by kernel_rfl) (by kernel_rfl) ?_
  repeat (go_big_quiet_step (fail))
  refine wpQuiet_nil ?_
  rintro _ ⟨z, rfl⟩
  go_wp2_with fail
  go_ret
  exact ⟨none, 0, rfl, Nat.le_refl _, RdL.nil, HB0.out.trans (z.ok.mono HB0.out.size)⟩
theorem least_all (h : BmAt w o g n ws) {many : Nat} (hm : many ≤ (freeL ws n).length) : Calls Tryz.prog 215 #[.pointer (some ⟨o, 0, none⟩), .int .i64 (many : Int)] w fun e w' => LeastE w ((frI ws n).take many) e w' := by
  by_cases h0 : many = 0
  · subst h0
    exact least_zero o
  · exact least_any h (by omega) hm
end
end Go.Proofs.YtcliejdiaohamaaGreat

set_option linter.unusedSimpArgs false
set_option linter.unusedVariables false
namespace Go.Proofs.YtcliejdiaohamaaGreat
open Go.RowKit Go.Cib
attribute [local go_sem] cell_set Later.cell Later.frozen Grw.cell Grw.frozen
/-- A pool in memory. -/
structure PoolAt (w : World) (p o l go gl ep ct fs n : Nat) (wo wl : List Nat) : Prop where
  box : BoxAt w p #[.int .u64 (ep : Int), .int .i64 (ct : Int), .int .i64 (fs : Int), .pointer (some ⟨o, 0, none⟩), .pointer (some ⟨l, 0, none⟩)]
  out : BmAt w o go n wo
  lim : BmAt w l gl n wl
  ne : p ≠ o ∧ p ≠ go ∧ p ≠ l ∧ p ≠ gl ∧ go ≠ l ∧ go ≠ gl ∧ gl ≠ o
  fsn : fs + n ≤ 600
  n1 : 1 ≤ n
def PoolB (p o l go gl : Nat) (j : Nat) : Prop := j = p ∨ j = o ∨ j = l ∨ j = go ∨ j = gl
section
variable {w w' : World} {p o l go gl ep ct fs n : Nat} {wo wl : List Nat}
theorem PoolAt.keep {F : Nat → Prop} (h : PoolAt w p o l go gl ep ct fs n wo wl) (hK : Keep F w w') (hF : ∀ j, PoolB p o l go gl j → ¬ F j) : PoolAt w' p o l go gl ep ct fs n wo wl :=
  ⟨h.box.keeps hK (hF p (.inl rfl)), h.out.keep hK (hF o (.inr (.inl rfl))) (hF go (.inr (.inr (.inr (.inl rfl))))), h.lim.keep hK (hF l (.inr (.inr (.inl rfl)))) (hF gl (.inr (.inr (.inr (.inr rfl))))), h.ne, h.fsn, h.n1⟩
theorem PoolAt.below (h : PoolAt w p o l go gl ep ct fs n wo wl) (hb : Below w.heap.size w w') : PoolAt w' p o l go gl ep ct fs n wo wl := ⟨h.box.below hb, h.out.below hb, h.lim.below hb, h.ne, h.fsn, h.n1⟩
theorem PoolAt.kp {X : Nat → Prop} (h : PoolAt w p o l go gl ep ct fs n wo wl) (hK : ∀ j, X j → w'.heap[j]? = w.heap[j]?) (hX : ∀ j, PoolB p o l go gl j → X j) : PoolAt w' p o l go gl ep ct fs n wo wl :=
  ⟨h.box.keep (hK p (hX p (.inl rfl))), h.out.kp hK (hX o (.inr (.inl rfl))) (hX go (.inr (.inr (.inr (.inl rfl))))), h.lim.kp hK (hX l (.inr (.inr (.inl rfl)))) (hX gl (.inr (.inr (.inr (.inr rfl))))), h.ne, h.fsn, h.n1⟩
theorem PoolAt.cells (h : PoolAt w p o l go gl ep ct fs n wo wl) : w.cell? ⟨p, 0, none⟩ = some (.int .u64 (ep : Int)) ∧ w.cell? ⟨p, 1, none⟩ = some (.int .i64 (ct : Int)) ∧ w.cell? ⟨p, 2, none⟩ = some (.int .i64 (fs : Int)) ∧ w.cell? ⟨p, 3, none⟩ = some (.pointer (some ⟨o, 0, none⟩)) ∧ w.cell? ⟨p, 4, none⟩ = some (.pointer (some ⟨l, 0, none⟩)) := ⟨h.box.cell 0, h.box.cell 1, h.box.cell 2, h.box.cell 3, h.box.cell 4⟩
set_option maxRecDepth 100000 in
theorem pnone_any (h : PoolAt w p o l go gl ep ct fs n wo wl) : Calls Tryz.prog 113 #[.pointer (some ⟨p, 0, none⟩)] w fun e w' => e = .returned (.bool false) ∧ w' = w := by
  obtain ⟨k0, k1, k2, k3, k4⟩ := h.cells
  clear h
  go_enter Tryz.func113, Tryz.ntmps113
  go_wp2_with fail
  go_ret
  exact ⟨rfl, rfl⟩
def freeN (wo : List Nat) (n : Nat) : Nat := n - cntT wo n
set_option maxRecDepth 100000 in
set_option maxHeartbeats 4000000 in
theorem pfree_any (h : PoolAt w p o l go gl ep ct fs n wo wl) : Calls Tryz.prog 42 #[.pointer (some ⟨p, 0, none⟩)] w fun e w' => e = .returned (.int .i64 (freeN wo n : Nat)) ∧ Below w.heap.size w w' := by
  obtain ⟨k0, k1, k2, k3, k4⟩ := h.cells
  have hno := pnone_any h
  have hln := fun (y : Later w.heap.size w) => blen_b (h.out.below y.ok)
  have hcn := fun (y : Later w.heap.size w) => bcount_b (h.out.below y.ok)
  have hct := cntT_le wo n
  have hn1 := h.out.n1
  have hpl := h.box.lt
  obtain ⟨c, hc⟩ : ∃ c, cntT wo n = c := ⟨_, rfl⟩
  have HF := Lib.hid (show (n : Int) - (c : Int) = (freeN wo n : Nat) by unfold freeN; omega)
  rw [hc] at hcn hct
  have q3 : (n : Int) ≤ 60000 := by omega
  have q4 : (c : Int) ≤ (n : Int) := by omega
  have f3 : IntKind.i64.wrap ((n : Int) - (c : Int)) = (n : Int) - (c : Int) := by rw [IntKind.wrap_i64]; omega
  clear h hc
  go_enter Tryz.func42, Tryz.ntmps42
  go_wp2_with fail
  refine hno.mono ?_
  rintro e w1 ⟨rfl, hw1⟩
  rw [hw1]
  clear hw1 hno
  go_wp2_with fail
  refine wp_region_later (by kernel_rfl) (by kernel_rfl) ?_
  repeat (go_big_quiet_step (first | (go_at_call 114; exact Later.call _ (hln _) (Nat.le_refl _)) | (go_at_call 115; exact Later.call _ (hcn _) (Nat.le_refl _))))
  refine wpQuiet_nil ?_
  rintro _ ⟨z, rfl⟩
  clear hln hcn
  go_wp2_with fail
  go_ret
  exact ⟨by rw [← HF.out]; rfl, z.ok⟩
set_option maxRecDepth 100000 in
set_option maxHeartbeats 4000000 in
theorem places_any (h : PoolAt w p o l go gl ep ct fs n wo wl) {A : Option Addr} {g c : Nat} {S : Nat → Prop} {xs : List Int} (R : RdL IntR 1 S w A g xs) (hg : g ≤ 100000) (hx : ∀ x ∈ xs, 0 ≤ x ∧ x ≤ 60000) :
    Calls Tryz.prog 216 #[.pointer (some ⟨p, 0, none⟩), .slice A g c] w fun e w' => LeastE w (xs.map fun x => x + (fs : Int)) e w' := by
  obtain ⟨k0, k1, k2, k3, k4⟩ := h.cells
  have hpl := h.box.lt
  have HH := Lib.hid h
  have HR := Lib.hid R
  have hgl := R.1
  have HX := Lib.hid hx
  have hfs := h.fsn
  have HGL := Lib.hid hgl
  have hmk := makeInts0 g (by omega) w
  have ow := OwnL.made (R := IntR) (E := 3) (s := 1) (base := w.heap.size) (S := fun _ => False) (w := w) (Array.replicate g (.int .i64 0)) g (Nat.le_refl _) (by unfold maxLen; omega) (by simp)
  have hbm : Below w.heap.size w (w.alloc (.cells (Array.replicate g (.int .i64 0)) 3)) := (Below.refl _ _).alloc (Nat.le_refl _) _
  obtain ⟨w1, hw1⟩ : ∃ w1, w.alloc (.cells (Array.replicate g (.int .i64 0)) 3) = w1 := ⟨_, rfl⟩
  rw [hw1] at hmk ow hbm
  have HOW := Lib.hid ow
  have HBM := Lib.hid hbm
  have q2 : (g : Int) ≤ 100000 := by omega
  have q5 : (fs : Int) ≤ 600 := by omega
  have q6 : (0 : Int) ≤ (fs : Int) := Int.natCast_nonneg _
  clear h R hgl hx ow hbm
  go_enter Tryz.func216, Tryz.ntmps216
  go_wp2_with fail
  clear hmk hw1
  go_loopw [5, 13] (fun vo vi wr => ∃ (i : Nat) (A2 : Option Addr) (c2 : Nat), i ≤ g ∧ vi = .int .i64 (i : Int) ∧ vo = .slice A2 i c2 ∧ i ≤ c2 ∧ Hid (OwnL IntR 3 1 w.heap.size (fun _ => False) wr (.slice A2 i c2) i ((xs.take i).map fun x => x + (fs : Int))) ∧ Hid (Below w.heap.size w wr)) (fun _ vi _ => g - (intOf vi).toNat)
  case atStart => exact ⟨0, _, _, Nat.zero_le _, rfl, rfl, Nat.zero_le _, HOW, HBM⟩
  case round =>
    obtain ⟨i, A2, c2, hi, rfl, rfl, hc2, HO, HB⟩ := hrel
    have p0 : (0 : Int) ≤ (i : Int) := Int.natCast_nonneg _
    by_cases hlt : i < g
    · have p1 : (i : Int) < (g : Int) := by omega
      obtain ⟨ba, oa, rfl, _, hba⟩ := HR.out.addr hlt
      obtain ⟨x, hxx, v1⟩ := int_at1 HR.out hlt
      have v1' := (HB.out.cell (p := ⟨ba, oa + i, none⟩) hba).trans v1
      have hbx := HX.out x (List.mem_of_getElem? hxx)
      have kr := (HB.out.cell (p := ⟨p, 2, none⟩) hpl).trans k2
      have hszr := HB.out.size
      have HTK := Lib.hid (show (xs.take (i + 1)).map (fun x => x + (fs : Int)) = (xs.take i).map (fun x => x + (fs : Int)) ++ [x + (fs : Int)] by rw [List.take_add_one, hxx, List.map_append]; rfl)
      have f3 : IntKind.i64.wrap (x + (fs : Int)) = x + (fs : Int) := by rw [IntKind.wrap_i64]; omega
      clear v1 hxx HOW HBM
      go_wp2_with (at_builtin; go_must (refine wpList_push1 IntR.stable IntR.one sl_intB (by rfl) (by rfl) (base := w.heap.size) (S := fun _ => False) (cs := #[.int .i64 (x + (fs : Int))]) (y := x + (fs : Int)) (by rfl) (by rfl) HO.out (by rfl) (by rfl) (by unfold maxLen; omega) (by omega) hszr ?_); intro A8 c8 ug hc8 own9 hlt8 hb8 hat8; rw [← HTK.out] at own9; have HO9 := Lib.hid own9; have HB9 := Lib.hid (HB.out.trans hb8); clear own9 hb8 hat8 hlt8)
      exact ⟨⟨i + 1, A8, c8, by omega, by go_num, rfl, hc8, HO9, HB9⟩, by simp [intOf]; omega⟩
    · have p1 : ¬ (i : Int) < (g : Int) := by omega
      obtain rfl : i = g := by omega
      have HT := Lib.hid (List.take_of_length_le (l := xs) (i := i) (by have := HGL.out; omega))
      go_wp2_with fail
      go_ret
      rw [HT.out] at HO
      obtain ⟨A', c', e, _, hr⟩ := HO.out.rd (S' := fun j => w.heap.size ≤ j) (fun j hj => hj) (fun cs x hx => hx)
      injection e with e1 _ e2
      subst e1; subst e2
      have hml : (xs.map fun x => x + (fs : Int)).length = i := by rw [List.length_map, HGL.out]
      exact ⟨A2, c2, by rw [hml]; rfl, by rw [hml]; exact hc2, by rw [hml]; exact hr, HB.out⟩
end
end Go.Proofs.YtcliejdiaohamaaGreat

set_option linter.unusedSimpArgs false
set_option linter.unusedVariables false
namespace Go.Proofs.YtcliejdiaohamaaGreat
open Go.RowKit Go.Cib
attribute [local go_sem] cell_set Later.cell Later.frozen Grw.cell Grw.frozen
theorem or_b64 {a c : Nat} (ha : a < 2 ^ 64) (hc : c < 2 ^ 64) : bits .or .u64 (a : Int) (c : Int) = ((a ||| c : Nat) : Int) := by
  unfold bits
  have h := Nat.or_lt_two_pow (n := 64) ha hc
  have e : (BitVec.ofInt 64 (a : Int) ||| BitVec.ofInt 64 (c : Int)).toNat = a ||| c := by
    rw [BitVec.toNat_or, BitVec.ofInt_natCast, BitVec.ofInt_natCast, BitVec.toNat_ofNat, BitVec.toNat_ofNat, Nat.mod_eq_of_lt ha, Nat.mod_eq_of_lt hc]
  show IntKind.u64.wrap ((BitVec.ofInt 64 (a : Int) ||| BitVec.ofInt 64 (c : Int)).toNat : Int) = _
  rw [e, IntKind.wrap_u64]
  omega
theorem or_gen {ep ct : Nat} (hc : ct < 1048576) : (ep * 1048576) ||| ct = ep * 1048576 + ct := by
  have h := Nat.shiftLeft_add_eq_or_of_lt (a := ep) (b := ct) (i := 20) hc
  rw [Nat.shiftLeft_eq] at h
  exact h.symm
set_option maxRecDepth 100000 in
theorem gen_any {w : World} {ep ct : Nat} (he : ep < 1099511627776) (hc : ct < 1048576) : Calls Tryz.prog 81 #[.int .u64 (ep : Int), .int .i64 (ct : Int)] w fun e w' => e = .returned (.tuple #[.int .u64 ((ep * 1048576 + ct : Nat) : Int), .int .i64 0]) ∧ w' = w := by
  have h1 := or_b64 (a := ep * 1048576) (c := ct) (by omega) (by omega)
  rw [or_gen hc] at h1
  have q0 : (0 : Int) ≤ (ep : Int) := Int.natCast_nonneg _
  have g1 : decide ((ep : Int) ≥ 1099511627776) = false := decide_eq_false (by omega)
  have HE := Lib.hid he
  have q2 : (0 : Int) ≤ (ct : Int) := Int.natCast_nonneg _
  have g3 : decide ((ct : Int) ≥ 1048576) = false := decide_eq_false (by omega)
  have HC := Lib.hid hc
  have f1 : IntKind.u64.wrap ((ep : Int) * 1048576) = ((ep * 1048576 : Nat) : Int) := by rw [IntKind.wrap_u64]; omega
  have f2 : IntKind.u64.wrap (ct : Int) = (ct : Int) := by rw [IntKind.wrap_u64]; omega
  have f1' : IntKind.u64.wrap ((ep : Int) * 2 ^ 20) = ((ep * 1048576 : Nat) : Int) := f1
  obtain ⟨x, hx⟩ : ∃ x, ep * 1048576 = x := ⟨_, rfl⟩
  obtain ⟨y, hy⟩ : ∃ y, ep * 1048576 + ct = y := ⟨_, rfl⟩
  rw [hy] at h1 ⊢
  rw [hx] at f1 f1' h1
  clear hx hy he hc
  go_enter Tryz.func81, Tryz.ntmps81
  go_wp2_with fail
  go_ret2
  exact ⟨rfl, rfl⟩
section
variable {w w' : World} {p o l go gl ep ct fs n : Nat} {wo wl : List Nat}
/-- The count turned. -/
theorem PoolAt.count (h : PoolAt w p o l go gl ep ct fs n wo wl) (c : Nat) : PoolAt (w.setCell ⟨p, 1, none⟩ (.int .i64 (c : Int))) p o l go gl ep c fs n wo wl := by
  obtain ⟨n1, n2, n3, n4, n5, n6, n7⟩ := h.ne
  refine ⟨h.box.set 1 _, ⟨h.out.box.set_other (p := ⟨p, 1, none⟩) (fun e => n1 e.symm) _, h.out.row.set_other (p := ⟨p, 1, none⟩) (fun e => n2 e.symm) _, h.out.ok, h.out.ne, h.out.n1⟩, ⟨h.lim.box.set_other (p := ⟨p, 1, none⟩) (fun e => n3 e.symm) _, h.lim.row.set_other (p := ⟨p, 1, none⟩) (fun e => n4 e.symm) _, h.lim.ok, h.lim.ne, h.lim.n1⟩, h.ne, h.fsn, h.n1⟩
set_option maxRecDepth 100000 in
theorem pnext_any (h : PoolAt w p o l go gl ep ct fs n wo wl) {m : Nat} (he : ep < 1099511627776) (hm : ct + m ≤ 1048576) :
    Calls Tryz.prog 217 #[.pointer (some ⟨p, 0, none⟩), .int .i64 (m : Int)] w fun e w' => e = .returned (.tuple #[.int .u64 ((ep * 1048576 + ct : Nat) : Int), .int .i64 0]) ∧ PoolAt w' p o l go gl ep (ct + m) fs n wo wl ∧ Keep (fun j => j = p) w w' := by
  obtain ⟨k0, k1, k2, k3, k4⟩ := h.cells
  have hf1 := h.box.frozen 1
  have hpl := h.box.lt
  have hge := gen_any (w := w) (ct := 0) he (by omega)
  have HFIN := Lib.hid (h.count (ct + m))
  have q0 : (0 : Int) ≤ (ep : Int) := Int.natCast_nonneg _
  have q2 : (0 : Int) ≤ (ct : Int) := Int.natCast_nonneg _
  have q3 : (0 : Int) ≤ (m : Int) := Int.natCast_nonneg _
  have f1 : IntKind.i64.wrap (1048576 - (ct : Int)) = 1048576 - (ct : Int) := by rw [IntKind.wrap_i64]; omega
  have f2 : decide ((m : Int) > 1048576 - (ct : Int)) = false := decide_eq_false (by omega)
  have f3 : IntKind.u64.wrap (ct : Int) = (ct : Int) := by rw [IntKind.wrap_u64]; omega
  have f4 : IntKind.u64.wrap (((ep * 1048576 + 0 : Nat) : Int) + (ct : Int)) = ((ep * 1048576 + ct : Nat) : Int) := by rw [IntKind.wrap_u64]; omega
  have f5 : IntKind.i64.wrap ((ct : Int) + (m : Int)) = ((ct + m : Nat) : Int) := by rw [IntKind.wrap_i64]; omega
  have f6 : decide ((m : Int) < 0) = false := decide_eq_false (by omega)
  obtain ⟨x, hx⟩ : ∃ x, ep * 1048576 + 0 = x := ⟨_, rfl⟩
  obtain ⟨y, hy⟩ : ∃ y, ep * 1048576 + ct = y := ⟨_, rfl⟩
  obtain ⟨z, hz⟩ : ∃ z, ct + m = z := ⟨_, rfl⟩
  rw [hx] at hge f4
  rw [hy] at f4 ⊢
  rw [hz] at f5 HFIN ⊢
  clear h hx hy hz he hm
  have hge2 : Calls Tryz.prog 81 #[.int .u64 (ep : Int), .int .i64 0] w fun e w' => e = .returned (.tuple #[.int .u64 (x : Int), .int .i64 0]) ∧ w' = w := hge
  clear hge
  go_enter Tryz.func217, Tryz.ntmps217
  go_wp2_with fail
  refine hge2.mono ?_
  clear hge2
  rintro e w1 ⟨rfl, hw1⟩
  rw [hw1]
  clear hw1
  go_wp2_with fail
  go_ret2
  exact ⟨rfl, HFIN.out, Keep.setCell (Keep.refl (fun j => j = p) w) (p := ⟨p, 1, none⟩) (fun _ => rfl) _⟩
set_option maxRecDepth 100000 in
theorem gens_any (h : PoolAt w p o l go gl ep ct fs n wo wl) {m : Nat} (he : ep < 1099511627776) (hm : ct + m ≤ 1048576) :
    Calls Tryz.prog 174 #[.pointer (some ⟨p, 0, none⟩), .int .i64 (m : Int)] w fun e w' => e = .returned (.tuple #[.int .u64 ((ep * 1048576 + ct : Nat) : Int), .int .i64 0]) ∧ PoolAt w' p o l go gl ep (ct + m) fs n wo wl ∧ Keep (fun j => j = p) w w' := by
  obtain ⟨k0, k1, k2, k3, k4⟩ := h.cells
  have hno := pnone_any h
  have hnx := pnext_any h he hm
  obtain ⟨y, hy⟩ : ∃ y, ep * 1048576 + ct = y := ⟨_, rfl⟩
  rw [hy] at hnx ⊢
  clear h he hm hy
  go_enter Tryz.func174, Tryz.ntmps174
  go_wp2_with fail
  refine hno.mono ?_
  clear hno
  rintro e w1 ⟨rfl, hw1⟩
  rw [hw1]
  clear hw1
  go_wp2_with fail
  refine hnx.mono ?_
  clear hnx
  rintro e w1 ⟨rfl, hP, hK⟩
  have HP := Lib.hid hP
  have HK := Lib.hid hK
  clear hP hK
  go_wp2_with fail
  go_ret2
  exact ⟨rfl, HP.out, HK.out⟩
end
end Go.Proofs.YtcliejdiaohamaaGreat

set_option linter.unusedSimpArgs false
set_option linter.unusedVariables false
namespace Go.Proofs.YtcliejdiaohamaaGreat
open Go.RowKit Go.Cib
attribute [local go_sem] cell_set Later.cell Later.frozen Grw.cell Grw.frozen
/-- Places that are taken, one after another. -/
def takeW (n : Nat) (ws : List Nat) : List Int → List Nat
  | [] => ws
  | x :: l => takeW n (setW n ws x true) l
theorem takeW_snoc (n : Nat) : ∀ (l : List Int) (ws : List Nat) (x : Int), takeW n ws (l ++ [x]) = setW n (takeW n ws l) x true
  | [], _, _ => rfl
  | y :: l, ws, x => takeW_snoc n l (setW n ws y true) x
section
variable {w w' : World} {p o l go gl ep ct fs n : Nat} {wo wl : List Nat}
theorem PoolAt.withOut (h : PoolAt w p o l go gl ep ct fs n wo wl) {wo' : List Nat} (hb : BmAt w' o go n wo') (hK : Keep (fun j => j = go) w w') : PoolAt w' p o l go gl ep ct fs n wo' wl := by
  obtain ⟨n1, n2, n3, n4, n5, n6, n7⟩ := h.ne
  exact ⟨h.box.keeps hK n2, hb, h.lim.keep hK (fun e => n5 e.symm) (fun e => n6 e.symm), h.ne, h.fsn, h.n1⟩
def TakeE (w : World) (p o l go gl ep ct fs n m : Nat) (wo wl : List Nat) (e : Ending) (w' : World) : Prop :=
  ∃ A c, e = .returned (.tuple #[.slice A m c, .int .i64 0]) ∧ m ≤ c ∧ RdL IntR 1 (fun j => w.heap.size ≤ j) w' A m (((frI wo n).take m).map fun x => x + (fs : Int)) ∧ PoolAt w' p o l go gl ep ct fs n (takeW n wo ((frI wo n).take m)) wl ∧ Keep (fun j => j = go) w w'
set_option maxRecDepth 100000 in
set_option maxHeartbeats 8000000 in
theorem ptake_any (h : PoolAt w p o l go gl ep ct fs n wo wl) {m : Nat} (hm : m ≤ (freeL wo n).length) :
    Calls Tryz.prog 173 #[.pointer (some ⟨p, 0, none⟩), .int .i64 (m : Int)] w fun e w' => TakeE w p o l go gl ep ct fs n m wo wl e w' := by
  obtain ⟨k0, k1, k2, k3, k4⟩ := h.cells
  have hno := pnone_any h
  have hfr := pfree_any h
  have hfl := freeL_len wo n
  have hn1 := h.out.n1
  have hpl := h.box.lt
  obtain ⟨f, hf⟩ : ∃ f, freeN wo n = f := ⟨_, rfl⟩
  have hmf : m ≤ f := by rw [← hf]; unfold freeN; omega
  rw [hf] at hfr
  have H := Lib.hid h
  have hlt := fun (w1 : World) (hb : Below w.heap.size w w1) => least_all (h.out.below hb) hm
  have HLT := Lib.hid hlt
  obtain ⟨xs, hxs⟩ : ∃ xs, (frI wo n).take m = xs := ⟨_, rfl⟩
  have hxl : xs.length = m := by rw [← hxs, List.length_take, frI_len]; omega
  have hxb : ∀ x ∈ xs, 0 ≤ x ∧ x ≤ 60000 := fun x hx => by
    rw [← hxs] at hx
    obtain ⟨j, hj, rfl⟩ := List.mem_map.1 (List.mem_of_mem_take hx)
    have := List.mem_range.1 (List.mem_filter.1 hj).1
    omega
  unfold TakeE
  rw [hxs]
  have HXS := Lib.hid hxs
  have HXL := Lib.hid hxl
  have HXB := Lib.hid hxb
  have q0 : (0 : Int) ≤ (m : Int) := Int.natCast_nonneg _
  have q1 : ¬ (m : Int) > (f : Int) := by omega
  have q2 : (m : Int) ≤ 60000 := by omega
  have q3 : ¬ (m : Int) < 0 := by omega
  clear h hlt hxs hxl hxb hfl hm hf
  go_enter Tryz.func173, Tryz.ntmps173
  go_wp2_with fail
  refine hno.mono ?_
  clear hno
  rintro e w1 ⟨rfl, hw1⟩
  rw [hw1]
  clear hw1
  go_wp2_with fail
  refine hfr.mono ?_
  clear hfr
  rintro e w2 ⟨rfl, hb2⟩
  have HB2 := Lib.hid hb2
  have hl2 := HLT.out w2 hb2
  rw [HXS.out] at hl2
  have kb3 := (hb2.cell (p := ⟨p, 3, none⟩) hpl).trans k3
  clear hb2
  go_wp2_with fail
  refine hl2.mono ?_
  clear hl2
  rintro e w3 ⟨A, c, rfl, hc, hr, hb3⟩
  rw [HXL.out] at hc hr ⊢
  have HR3 := Lib.hid (RdL.bound1 IntR.stable hr)
  have HB3 := Lib.hid (HB2.out.trans (hb3.mono HB2.out.size))
  have hsz2 := HB2.out.size
  clear hr hb3 kb3
  go_wp2_with fail
  go_loopw [28] (fun vi wr => ∃ i : Nat, i ≤ m ∧ vi = .int .i64 (i : Int) ∧ Hid (PoolAt wr p o l go gl ep ct fs n (takeW n wo (xs.take i)) wl) ∧ Hid (Keep (fun j => j = go) w3 wr)) (fun vi _ => m - (intOf vi).toNat)
  case atStart => exact ⟨0, Nat.zero_le _, rfl, Lib.hid (H.out.below HB3.out), Lib.hid (Keep.refl _ _)⟩
  case round =>
    obtain ⟨i, hi, rfl, HP, HK⟩ := hrel
    have p0 : (0 : Int) ≤ (i : Int) := Int.natCast_nonneg _
    have hgw : go < w.heap.size := H.out.out.row.lt
    have hrd := HR3.out.keep IntR.stable HK.out (fun j hj => by omega)
    have HRD := Lib.hid hrd
    by_cases hlt : i < m
    · have p1 : (i : Int) < (m : Int) := by omega
      obtain ⟨ba, oa, rfl, _, hba⟩ := hrd.addr hlt
      obtain ⟨x, hxx, v1⟩ := int_at1 hrd hlt
      obtain ⟨r0, r1, r2, r3, r4⟩ := HP.out.cells
      have hse := bset_any HP.out.out x true
      have HTK := Lib.hid (show takeW n wo (xs.take (i + 1)) = setW n (takeW n wo (xs.take i)) x true by rw [List.take_add_one, hxx]; exact takeW_snoc ..)
      clear hrd hxx HRD
      go_wp2_with fail
      refine hse.mono ?_
      clear hse
      rintro e w4 ⟨rfl, hb4, hK4⟩
      rw [← HTK.out] at hb4
      have HP4 := Lib.hid (HP.out.withOut hb4 hK4)
      have HK4 := Lib.hid (HK.out.trans hK4 (fun j hj _ => hj))
      clear hb4 hK4 HP HK
      go_wp2_with fail
      exact ⟨⟨i + 1, by omega, by go_num, HP4, HK4⟩, by simp [intOf]; omega⟩
    · have p1 : ¬ (i : Int) < (m : Int) := by omega
      obtain rfl : i = m := by omega
      have hpa := places_any (c := c) HP.out HRD.out (by omega) HXB.out
      have htk : xs.take i = xs := List.take_of_length_le (by rw [HXL.out]; exact Nat.le_refl _)
      rw [htk] at HP
      obtain ⟨ys, hys⟩ : ∃ ys, xs.map (fun x => x + (fs : Int)) = ys := ⟨_, rfl⟩
      have hyl : ys.length = i := by rw [← hys, List.length_map, HXL.out]
      rw [hys] at hpa
      have HYS := Lib.hid hys
      have HYL := Lib.hid hyl
      clear hrd htk hys hyl
      go_wp2_with fail
      refine hpa.mono ?_
      clear hpa
      rintro e w5 ⟨A5, c5, rfl, hc5, hr5, hb5⟩
      rw [HYL.out] at hc5 hr5 ⊢
      have HP5 := Lib.hid (HP.out.below hb5)
      have hsr := HK.out.size
      have hs3 := HB3.out.size
      have HK5 := Lib.hid (show Keep (fun j => j = go) w w5 from (Keep.of_below (F := fun j => j = go) HB3.out).trans (HK.out.trans (Keep.of_below (F := fun j => j = go) hb5) (fun j hj _ => hj)) (fun j hj _ => hj))
      have HR5 := Lib.hid (hr5.weaken IntR.stable (S' := fun j => w.heap.size ≤ j) (fun j hj => by have hj2 : wr.heap.size ≤ j := hj; show w.heap.size ≤ j; omega))
      clear hr5 hb5
      go_wp2_with fail
      go_ret2
      exact ⟨A5, c5, rfl, hc5, by rw [HYS.out]; exact HR5.out, HP5.out, HK5.out⟩
set_option maxRecDepth 100000 in
set_option maxHeartbeats 4000000 in
theorem ptake_bad (h : PoolAt w p o l go gl ep ct fs n wo wl) {m : Nat} (hm : freeN wo n < m) :
    Calls Tryz.prog 173 #[.pointer (some ⟨p, 0, none⟩), .int .i64 (m : Int)] w fun e w' => e = .returned (.tuple #[.slice none 0 0, .int .i64 140]) ∧ Below w.heap.size w w' := by
  have hno := pnone_any h
  have hfr := pfree_any h
  obtain ⟨f, hf⟩ : ∃ f, freeN wo n = f := ⟨_, rfl⟩
  rw [hf] at hfr hm
  have q0 : (0 : Int) ≤ (m : Int) := Int.natCast_nonneg _
  have q1 : (m : Int) > (f : Int) := by omega
  have q3 : ¬ (m : Int) < 0 := by omega
  clear h hm hf
  go_enter Tryz.func173, Tryz.ntmps173
  go_wp2_with fail
  refine hno.mono ?_
  clear hno
  rintro e w1 ⟨rfl, hw1⟩
  rw [hw1]
  clear hw1
  go_wp2_with fail
  refine hfr.mono ?_
  clear hfr
  rintro e w2 ⟨rfl, hb2⟩
  go_wp2_with fail
  go_ret2
  exact ⟨rfl, hb2⟩
end
end Go.Proofs.YtcliejdiaohamaaGreat

set_option linter.unusedSimpArgs false
set_option linter.unusedVariables false
namespace Go.Proofs.YtcliejdiaohamaaGreat
open Go.RowKit Go.Cib
attribute [local go_sem] cell_set Later.cell Later.frozen Grw.cell Grw.frozen
section
variable {w w' : World}
set_option maxRecDepth 100000 in
set_option maxHeartbeats 4000000 in
theorem pnew_any {fs n : Nat} (h1 : 1 ≤ n) (h4 : n ≤ 400) (hf : fs + n ≤ 600) : Calls Tryz.prog 106 #[.int .i64 (fs : Int), .int .i64 (n : Int)] w fun e w' => ∃ p o l go gl, e = .returned (.pointer (some ⟨p, 0, none⟩)) ∧ PoolAt w' p o l go gl 0 0 fs n (List.replicate ((n + 63) / 64) 0) (List.replicate ((n + 63) / 64) 0) ∧ (∀ j, PoolB p o l go gl j → w.heap.size ≤ j ∧ j < w'.heap.size) ∧ Below w.heap.size w w' := by
  have hbn := fun w => bnew_any (w := w) (n := n) (by omega)
  have q0 : (0 : Int) ≤ (fs : Int) := Int.natCast_nonneg _
  have q1 : (1 : Int) ≤ (n : Int) := by omega
  have q2 : (n : Int) ≤ 400 := by omega
  have q3 : (fs : Int) ≤ 600 - (n : Int) := by omega
  have f3 : IntKind.i64.wrap (600 - (n : Int)) = 600 - (n : Int) := by rw [IntKind.wrap_i64]; omega
  have f1 : decide ((fs : Int) < 0) = false := decide_eq_false (by omega)
  have f2 : decide ((n : Int) < 1) = false := decide_eq_false (by omega)
  have f4 : decide ((n : Int) > 400) = false := decide_eq_false (by omega)
  have f5 : decide ((fs : Int) > 600 - (n : Int)) = false := decide_eq_false (by omega)
  have HF := Lib.hid hf
  have HN := Lib.hid h1
  clear hf h1 h4
  go_enter Tryz.func106, Tryz.ntmps106
  go_wp2_with fail
  refine (hbn _).mono ?_
  rintro e w1 ⟨o, go, rfl, hB1, ho, hg, hb1⟩
  have HB1 := Lib.hid hB1
  have HW1 := Lib.hid hb1
  clear hB1 hb1
  go_wp2_with fail
  refine (hbn _).mono ?_
  rintro e w2 ⟨l, gl, rfl, hB2, hl, hgl, hb2⟩
  have HO := Lib.hid (HB1.out.below hb2)
  have HL := Lib.hid hB2
  have HW2 := Lib.hid (HW1.out.trans (hb2.mono HW1.out.size))
  have hs1 := HW1.out.size
  have hs2 := hb2.size
  have ol := HB1.out.box.lt
  have gll := HB1.out.row.lt
  clear hB2 hb2 hbn
  go_wp2_with fail
  go_ret
  have hbx := BoxAt.new w2 #[.int .u64 0, .int .i64 0, .int .i64 (fs : Int), .pointer (some ⟨o, 0, none⟩), .pointer (some ⟨l, 0, none⟩)] 211
  have hal : Below w2.heap.size w2 (w2.alloc (.cells #[.int .u64 0, .int .i64 0, .int .i64 (fs : Int), .pointer (some ⟨o, 0, none⟩), .pointer (some ⟨l, 0, none⟩)] 211)) := (Below.refl _ _).alloc (Nat.le_refl _) _
  have o2 := HO.out.box.lt
  have g2 := HO.out.row.lt
  have l2 := HL.out.box.lt
  have gl2 := HL.out.row.lt
  have n1 := HL.out.ne
  refine ⟨w2.heap.size, o, l, go, gl, rfl, ⟨hbx, HO.out.below hal, HL.out.below hal, ⟨by omega, by omega, by omega, by omega, by omega, by omega, by omega⟩, HF.out, HN.out⟩, fun j hj => ?_, HW2.out.trans (hal.mono HW2.out.size)⟩
  rw [World.size_alloc]
  rcases hj with h | h | h | h | h <;> omega
theorem words_rd {g : Nat} {ws : List Nat} (h : BoxAt w g (ws.map fun v : Nat => Value.int .u64 (v : Int)).toArray) : RdL U64R 1 (fun _ => True) w (some ⟨g, 0, none⟩) ws.length (ws.map fun v : Nat => (v : Int)) := by
  refine ⟨by rw [List.length_map], fun _ => ⟨g, 0, rfl, trivial, h.lt, fun i x hi => ⟨[.int .u64 x], rfl, rfl, fun j v hj => ?_⟩⟩⟩
  rcases j with _ | j
  · simp at hj; subst hj
    rw [show 0 + i * 1 + 0 = i by omega, h.cell i]
    rw [List.getElem?_map] at hi
    simp
    cases hw : ws[i]? with
    | none => rw [hw] at hi; cases hi
    | some y => rw [hw] at hi; injection hi with hi; exact ⟨y, rfl, by rw [← hi]⟩
  · simp at hj
theorem sl_u64B : SlTy Tryz.prog 221 22 (.int .u64 0) 1 8 := ⟨by kernel_rfl, by kernel_rfl, rfl, by decide⟩
set_option maxRecDepth 100000 in
set_option maxHeartbeats 4000000 in
theorem bcopy_any {o g n : Nat} {ws : List Nat} (h : BmAt w o g n ws) : Calls Tryz.prog 172 #[.pointer (some ⟨o, 0, none⟩)] w fun e w' => ∃ z, e = .returned (.pointer (some ⟨z, 0, none⟩)) ∧ Below w.heap.size w w' := by
  obtain ⟨k0, k1, k2⟩ := h.cells
  have hno := bnone_any h
  have hr := words_rd h.row
  have HR := Lib.hid hr
  obtain ⟨m, hm⟩ : ∃ m, ws.length = m := ⟨_, rfl⟩
  have hm2 : m ≤ 1000 := by have := h.n1; rw [← hm, h.ok.len]; omega
  rw [hm] at k1 HR
  have s0 : w.drew.cell? ⟨o, 0, none⟩ = some (.int .i64 (n : Int)) ∧ w.drew.cell? ⟨o, 1, none⟩ = some (.slice (some ⟨g, 0, none⟩) m m) := ⟨k0, k1⟩
  have hol := h.box.lt
  clear h hr hm
  go_enter Tryz.func172, Tryz.ntmps172
  go_wp2_with fail
  refine hno.mono ?_
  clear hno
  rintro e w1 ⟨rfl, hw1⟩
  rw [hw1]
  clear hw1
  go_wp2_with fail
  have HRD := Lib.hid (HR.out.below U64R.stable (w' := w.drew) (Below.refl _ _).drew)
  refine wp_region_held_drew (S := fun w' => w'.cell? ⟨o, 0, none⟩ = some (.int .i64 (n : Int)) ∧ w'.cell? ⟨o, 1, none⟩ = some (.slice (some ⟨g, 0, none⟩) m m)) (by kernel_rfl) (by first | exact s0 | exact s5 | exact s6 _) (fun hHeld => ?_)
  refine wpAnyH_take (i := 0) (v := ?_) rfl (by kernel_rfl) (by kernel_rfl) (by kernel_rfl) (fun _ _ _ h => h) (Or.inl ⟨by first | kernel_rfl | rfl, ?_⟩) (by assumption) ?_
  rotate_left
  · (intro wq hSw; (try dsimp only at hSw); (try simp (maxSteps := 2000000) only [zz1, zz2, zz3]); go_simp); try with_reducible rfl
  try simp (maxSteps := 2000000) only [zz1, zz2, zz3, Act.put, zz4, zz5, zz6]
  refine wpAnyH_take (i := 1) (v := ?_) rfl (by kernel_rfl) (by kernel_rfl) (by kernel_rfl) (fun _ _ _ h => h) (Or.inl ⟨by first | kernel_rfl | rfl, ?_⟩) (by assumption) ?_
  rotate_left
  · (intro wq hSw; (try dsimp only at hSw); (try simp (maxSteps := 2000000) only [zz1, zz2, zz3]); go_simp); try with_reducible rfl
  try simp (maxSteps := 2000000) only [zz1, zz2, zz3, Act.put, zz4, zz5, zz6]
  refine wpAnyH_take (i := 2) (v := ?_) rfl (by kernel_rfl) (by kernel_rfl) (by kernel_rfl) (fun _ _ _ h => h) (Or.inl ⟨by first | kernel_rfl | rfl, ?_⟩) (by assumption) ?_
  rotate_left
  · (intro wq hSw; (try dsimp only at hSw); (try simp (maxSteps := 2000000) only [zz1, zz2, zz3]); go_simp); try with_reducible rfl
  try simp (maxSteps := 2000000) only [zz1, zz2, zz3, Act.put, zz4, zz5, zz6]
  refine wpAnyH_take (i := 3) (v := ?_) rfl (by kernel_rfl) (by kernel_rfl) (by kernel_rfl) (fun _ _ _ h => h) (Or.inl ⟨by first | kernel_rfl | rfl, ?_⟩) (by assumption) ?_
  rotate_left
  · (intro wq hSw; (try dsimp only at hSw); (try simp (maxSteps := 2000000) only [zz1, zz2, zz3]); go_simp); try with_reducible rfl
  try simp (maxSteps := 2000000) only [zz1, zz2, zz3, Act.put, zz4, zz5, zz6]
  refine wpAnyH_take (i := 4) (v := ?_) rfl (by kernel_rfl) (by kernel_rfl) (by kernel_rfl) (fun _ _ _ h => h) (Or.inl ⟨by first | kernel_rfl | rfl, ?_⟩) (by assumption) ?_
  rotate_left
  · (intro wq hSw; (try dsimp only at hSw); (try simp (maxSteps := 2000000) only [zz1, zz2, zz3]); go_simp); try with_reducible rfl
  try simp (maxSteps := 2000000) only [zz1, zz2, zz3, Act.put, zz4, zz5, zz6]
  refine wpAnyH_take (i := 5) (v := ?_) rfl (by kernel_rfl) (by kernel_rfl) (by kernel_rfl) (fun _ _ _ h => h) (Or.inl ⟨by first | kernel_rfl | rfl, ?_⟩) (by assumption) ?_
  rotate_left
  · (intro wq hSw; (try dsimp only at hSw); (try simp (maxSteps := 2000000) only [zz1, zz2, zz3]); go_simp); try with_reducible rfl
  try simp (maxSteps := 2000000) only [zz1, zz2, zz3, Act.put, zz4, zz5, zz6]
  refine wpAnyH_take (i := 6) (v := ?_) rfl (by kernel_rfl) (by kernel_rfl) (by kernel_rfl) (fun _ _ _ h => h) (Or.inl ⟨by first | kernel_rfl | rfl, ?_⟩) (by assumption) ?_
  rotate_left
  · (intro wq hSw; (try dsimp only at hSw); (try simp (maxSteps := 2000000) only [zz1, zz2, zz3]); go_simp); try with_reducible rfl
  try simp (maxSteps := 2000000) only [zz1, zz2, zz3, Act.put, zz4, zz5, zz6]
  refine wpAnyH_take (i := 7) (v := ?_) rfl (by kernel_rfl) (by kernel_rfl) (by kernel_rfl) (fun _ _ _ h => h) (Or.inl ⟨by first | kernel_rfl | rfl, ?_⟩) (by assumption) ?_
  rotate_left
  · (intro wq hSw; (try dsimp only at hSw); (try simp (maxSteps := 2000000) only [zz1, zz2, zz3]); go_simp); try with_reducible rfl
  try simp (maxSteps := 2000000) only [zz1, zz2, zz3, Act.put, zz4, zz5, zz6]
  refine wpAnyH_ready (rs := [8]) (by kernel_rfl) (by simp) ?_
  refine AllReadyH.cons rfl (fun K hK => ?_) AllReadyH.nil
  refine step_law (by rfl) (wpList_appL U64R.stable U64R.one sl_u64B (by rfl) (by rfl) (base := w.drew.heap.size) (S := fun _ => True) (n := 0) (v := .slice none 0 0) (xs := []) (by exact rfl) OwnL.nil_ (by exact rfl) HRD.out (fun _ _ h => h) (by unfold maxLen; omega) (by omega) (Nat.le_refl _) ?_)
  intro A3 c3 w5 hc3 hown hg3 hat
  refine ⟨rfl, ?_⟩
  have hb5 : Below w.drew.heap.size w.drew w5 := (Below.refl _ _).grown hg3 (Nat.le_refl _) (fun k hk => by cases hk)
  have s5 : w5.cell? ⟨o, 0, none⟩ = some (.int .i64 (n : Int)) ∧ w5.cell? ⟨o, 1, none⟩ = some (.slice (some ⟨g, 0, none⟩) m m) := ⟨(hb5.cell (p := ⟨o, 0, none⟩) hol).trans s0.1, (hb5.cell (p := ⟨o, 1, none⟩) hol).trans s0.2⟩
  have s6 : ∀ ob : Obj, (w5.alloc ob).cell? ⟨o, 0, none⟩ = some (.int .i64 (n : Int)) ∧ (w5.alloc ob).cell? ⟨o, 1, none⟩ = some (.slice (some ⟨g, 0, none⟩) m m) := fun ob => by
    have hb6 := hb5.alloc hb5.size ob
    exact ⟨(hb6.cell (p := ⟨o, 0, none⟩) hol).trans s0.1, (hb6.cell (p := ⟨o, 1, none⟩) hol).trans s0.2⟩
  have HB5 := Lib.hid hb5
  clear hown hg3 hat hb5
  rw [Nat.zero_add]
  refine hK.out _ _ (by first | exact s0 | exact s5 | exact s6 _) (fun hHeld => ?_)
  clear hK K
  try simp (maxSteps := 2000000) only [zz1, zz2, zz3, Act.put, zz4, zz5, zz6]
  refine wpAnyH_take (i := 9) (v := ?_) rfl (by kernel_rfl) (by kernel_rfl) (by kernel_rfl) (fun _ _ _ h => h) (Or.inl ⟨by first | kernel_rfl | rfl, ?_⟩) (by assumption) ?_
  rotate_left
  · (intro wq hSw; (try dsimp only at hSw); (try simp (maxSteps := 2000000) only [zz1, zz2, zz3]); go_simp); try with_reducible rfl
  try simp (maxSteps := 2000000) only [zz1, zz2, zz3, Act.put, zz4, zz5, zz6]
  refine wpAnyH_ready (rs := [10]) (by kernel_rfl) (by simp) ?_
  refine AllReadyH.cons rfl (fun K hK => ?_) AllReadyH.nil
  try simp (maxSteps := 2000000) only [zz1, zz2, zz3]
  go_simp
  refine hK.out _ _ (by first | exact s0 | exact s5 | exact s6 _) (fun hHeld => ?_)
  clear hK K
  try simp (maxSteps := 2000000) only [zz1, zz2, zz3, Act.put, zz4, zz5, zz6]
  refine wpAnyH_take (i := 11) (v := ?_) rfl (by kernel_rfl) (by kernel_rfl) (by kernel_rfl) (fun _ _ _ h => h) (Or.inl ⟨by first | kernel_rfl | rfl, ?_⟩) (by assumption) ?_
  rotate_left
  · (intro wq hSw; (try dsimp only at hSw); (try simp (maxSteps := 2000000) only [zz1, zz2, zz3]); go_simp); try with_reducible rfl
  try simp (maxSteps := 2000000) only [zz1, zz2, zz3, Act.put, zz4, zz5, zz6]
  refine wpAnyH_done (by kernel_rfl) ?_ _
  clear s0 s5 s6 hHeld
  go_wp2_with fail
  go_ret
  exact ⟨_, rfl, ((Below.refl w.heap.size w).drew.trans HB5.out).alloc HB5.out.size _⟩
section
variable {p o l go gl ep ct fs n : Nat} {wo wl : List Nat}
set_option maxRecDepth 100000 in
set_option maxHeartbeats 4000000 in
theorem pcopy_any (h : PoolAt w p o l go gl ep ct fs n wo wl) : Calls Tryz.prog 108 #[.pointer (some ⟨p, 0, none⟩)] w fun e w' => ∃ z, e = .returned (.pointer (some ⟨z, 0, none⟩)) ∧ Below w.heap.size w w' := by
  obtain ⟨k0, k1, k2, k3, k4⟩ := h.cells
  have hno := pnone_any h
  have hco := fun (W : World) (hb : Below w.heap.size w W) => bcopy_any (h.out.below hb)
  have hcl := fun (W : World) (hb : Below w.heap.size w W) => bcopy_any (h.lim.below hb)
  have hpl := h.box.lt
  have mk : ∀ W, Below w.heap.size w W → W.cell? ⟨p, 0, none⟩ = some (.int .u64 (ep : Int)) ∧ W.cell? ⟨p, 1, none⟩ = some (.int .i64 (ct : Int)) ∧ W.cell? ⟨p, 2, none⟩ = some (.int .i64 (fs : Int)) ∧ W.cell? ⟨p, 3, none⟩ = some (.pointer (some ⟨o, 0, none⟩)) ∧ W.cell? ⟨p, 4, none⟩ = some (.pointer (some ⟨l, 0, none⟩)) := fun W hb =>
    ⟨(hb.cell (p := ⟨p, 0, none⟩) hpl).trans k0, (hb.cell (p := ⟨p, 1, none⟩) hpl).trans k1, (hb.cell (p := ⟨p, 2, none⟩) hpl).trans k2, (hb.cell (p := ⟨p, 3, none⟩) hpl).trans k3, (hb.cell (p := ⟨p, 4, none⟩) hpl).trans k4⟩
  have hb0 : Below w.heap.size w w.drew := (Below.refl _ _).drew
  have s0 := mk _ hb0
  have MK := Lib.hid mk
  clear h mk
  go_enter Tryz.func108, Tryz.ntmps108
  go_wp2_with fail
  refine hno.mono ?_
  clear hno
  rintro e w1 ⟨rfl, hw1⟩
  rw [hw1]
  clear hw1
  go_wp2_with fail
  refine wp_region_held_drew (S := fun w' => w'.cell? ⟨p, 0, none⟩ = some (.int .u64 (ep : Int)) ∧ w'.cell? ⟨p, 1, none⟩ = some (.int .i64 (ct : Int)) ∧ w'.cell? ⟨p, 2, none⟩ = some (.int .i64 (fs : Int)) ∧ w'.cell? ⟨p, 3, none⟩ = some (.pointer (some ⟨o, 0, none⟩)) ∧ w'.cell? ⟨p, 4, none⟩ = some (.pointer (some ⟨l, 0, none⟩))) (by kernel_rfl) (by first | exact s0 | exact s1 | exact s2 | exact s3 _) (fun hHeld => ?_)
  refine wpAnyH_take (i := 0) (v := ?_) rfl (by kernel_rfl) (by kernel_rfl) (by kernel_rfl) (fun _ _ _ h => h) (Or.inl ⟨by first | kernel_rfl | rfl, ?_⟩) (by assumption) ?_
  rotate_left
  · (intro wq hSw; (try dsimp only at hSw); (try simp (maxSteps := 2000000) only [zz1, zz2, zz3]); go_simp); try with_reducible rfl
  try simp (maxSteps := 2000000) only [zz1, zz2, zz3, Act.put, zz4, zz5, zz6]
  refine wpAnyH_take (i := 1) (v := ?_) rfl (by kernel_rfl) (by kernel_rfl) (by kernel_rfl) (fun _ _ _ h => h) (Or.inl ⟨by first | kernel_rfl | rfl, ?_⟩) (by assumption) ?_
  rotate_left
  · (intro wq hSw; (try dsimp only at hSw); (try simp (maxSteps := 2000000) only [zz1, zz2, zz3]); go_simp); try with_reducible rfl
  try simp (maxSteps := 2000000) only [zz1, zz2, zz3, Act.put, zz4, zz5, zz6]
  refine wpAnyH_take (i := 2) (v := ?_) rfl (by kernel_rfl) (by kernel_rfl) (by kernel_rfl) (fun _ _ _ h => h) (Or.inl ⟨by first | kernel_rfl | rfl, ?_⟩) (by assumption) ?_
  rotate_left
  · (intro wq hSw; (try dsimp only at hSw); (try simp (maxSteps := 2000000) only [zz1, zz2, zz3]); go_simp); try with_reducible rfl
  try simp (maxSteps := 2000000) only [zz1, zz2, zz3, Act.put, zz4, zz5, zz6]
  refine wpAnyH_take (i := 3) (v := ?_) rfl (by kernel_rfl) (by kernel_rfl) (by kernel_rfl) (fun _ _ _ h => h) (Or.inl ⟨by first | kernel_rfl | rfl, ?_⟩) (by assumption) ?_
  rotate_left
  · (intro wq hSw; (try dsimp only at hSw); (try simp (maxSteps := 2000000) only [zz1, zz2, zz3]); go_simp); try with_reducible rfl
  try simp (maxSteps := 2000000) only [zz1, zz2, zz3, Act.put, zz4, zz5, zz6]
  refine wpAnyH_take (i := 4) (v := ?_) rfl (by kernel_rfl) (by kernel_rfl) (by kernel_rfl) (fun _ _ _ h => h) (Or.inl ⟨by first | kernel_rfl | rfl, ?_⟩) (by assumption) ?_
  rotate_left
  · (intro wq hSw; (try dsimp only at hSw); (try simp (maxSteps := 2000000) only [zz1, zz2, zz3]); go_simp); try with_reducible rfl
  try simp (maxSteps := 2000000) only [zz1, zz2, zz3, Act.put, zz4, zz5, zz6]
  refine wpAnyH_take (i := 5) (v := ?_) rfl (by kernel_rfl) (by kernel_rfl) (by kernel_rfl) (fun _ _ _ h => h) (Or.inl ⟨by first | kernel_rfl | rfl, ?_⟩) (by assumption) ?_
  rotate_left
  · (intro wq hSw; (try dsimp only at hSw); (try simp (maxSteps := 2000000) only [zz1, zz2, zz3]); go_simp); try with_reducible rfl
  try simp (maxSteps := 2000000) only [zz1, zz2, zz3, Act.put, zz4, zz5, zz6]
  refine wpAnyH_take (i := 6) (v := ?_) rfl (by kernel_rfl) (by kernel_rfl) (by kernel_rfl) (fun _ _ _ h => h) (Or.inl ⟨by first | kernel_rfl | rfl, ?_⟩) (by assumption) ?_
  rotate_left
  · (intro wq hSw; (try dsimp only at hSw); (try simp (maxSteps := 2000000) only [zz1, zz2, zz3]); go_simp); try with_reducible rfl
  try simp (maxSteps := 2000000) only [zz1, zz2, zz3, Act.put, zz4, zz5, zz6]
  refine wpAnyH_take (i := 7) (v := ?_) rfl (by kernel_rfl) (by kernel_rfl) (by kernel_rfl) (fun _ _ _ h => h) (Or.inl ⟨by first | kernel_rfl | rfl, ?_⟩) (by assumption) ?_
  rotate_left
  · (intro wq hSw; (try dsimp only at hSw); (try simp (maxSteps := 2000000) only [zz1, zz2, zz3]); go_simp); try with_reducible rfl
  try simp (maxSteps := 2000000) only [zz1, zz2, zz3, Act.put, zz4, zz5, zz6]
  refine wpAnyH_take (i := 8) (v := ?_) rfl (by kernel_rfl) (by kernel_rfl) (by kernel_rfl) (fun _ _ _ h => h) (Or.inl ⟨by first | kernel_rfl | rfl, ?_⟩) (by assumption) ?_
  rotate_left
  · (intro wq hSw; (try dsimp only at hSw); (try simp (maxSteps := 2000000) only [zz1, zz2, zz3]); go_simp); try with_reducible rfl
  try simp (maxSteps := 2000000) only [zz1, zz2, zz3, Act.put, zz4, zz5, zz6]
  refine wpAnyH_take (i := 9) (v := ?_) rfl (by kernel_rfl) (by kernel_rfl) (by kernel_rfl) (fun _ _ _ h => h) (Or.inl ⟨by first | kernel_rfl | rfl, ?_⟩) (by assumption) ?_
  rotate_left
  · (intro wq hSw; (try dsimp only at hSw); (try simp (maxSteps := 2000000) only [zz1, zz2, zz3]); go_simp); try with_reducible rfl
  try simp (maxSteps := 2000000) only [zz1, zz2, zz3, Act.put, zz4, zz5, zz6]
  refine wpAnyH_take (i := 10) (v := ?_) rfl (by kernel_rfl) (by kernel_rfl) (by kernel_rfl) (fun _ _ _ h => h) (Or.inl ⟨by first | kernel_rfl | rfl, ?_⟩) (by assumption) ?_
  rotate_left
  · (intro wq hSw; (try dsimp only at hSw); (try simp (maxSteps := 2000000) only [zz1, zz2, zz3]); go_simp); try with_reducible rfl
  try simp (maxSteps := 2000000) only [zz1, zz2, zz3, Act.put, zz4, zz5, zz6]
  refine wpAnyH_take (i := 11) (v := ?_) rfl (by kernel_rfl) (by kernel_rfl) (by kernel_rfl) (fun _ _ _ h => h) (Or.inl ⟨by first | kernel_rfl | rfl, ?_⟩) (by assumption) ?_
  rotate_left
  · (intro wq hSw; (try dsimp only at hSw); (try simp (maxSteps := 2000000) only [zz1, zz2, zz3]); go_simp); try with_reducible rfl
  try simp (maxSteps := 2000000) only [zz1, zz2, zz3, Act.put, zz4, zz5, zz6]
  refine wpAnyH_take (i := 13) (v := ?_) rfl (by kernel_rfl) (by kernel_rfl) (by kernel_rfl) (fun _ _ _ h => h) (Or.inl ⟨by first | kernel_rfl | rfl, ?_⟩) (by assumption) ?_
  rotate_left
  · (intro wq hSw; (try dsimp only at hSw); (try simp (maxSteps := 2000000) only [zz1, zz2, zz3]); go_simp); try with_reducible rfl
  try simp (maxSteps := 2000000) only [zz1, zz2, zz3, Act.put, zz4, zz5, zz6]
  refine wpAnyH_take (i := 14) (v := ?_) rfl (by kernel_rfl) (by kernel_rfl) (by kernel_rfl) (fun _ _ _ h => h) (Or.inl ⟨by first | kernel_rfl | rfl, ?_⟩) (by assumption) ?_
  rotate_left
  · (intro wq hSw; (try dsimp only at hSw); (try simp (maxSteps := 2000000) only [zz1, zz2, zz3]); go_simp); try with_reducible rfl
  try simp (maxSteps := 2000000) only [zz1, zz2, zz3, Act.put, zz4, zz5, zz6]
  refine wpAnyH_take (i := 15) (v := ?_) rfl (by kernel_rfl) (by kernel_rfl) (by kernel_rfl) (fun _ _ _ h => h) (Or.inl ⟨by first | kernel_rfl | rfl, ?_⟩) (by assumption) ?_
  rotate_left
  · (intro wq hSw; (try dsimp only at hSw); (try simp (maxSteps := 2000000) only [zz1, zz2, zz3]); go_simp); try with_reducible rfl
  try simp (maxSteps := 2000000) only [zz1, zz2, zz3, Act.put, zz4, zz5, zz6]
  refine wpAnyH_take (i := 16) (v := ?_) rfl (by kernel_rfl) (by kernel_rfl) (by kernel_rfl) (fun _ _ _ h => h) (Or.inl ⟨by first | kernel_rfl | rfl, ?_⟩) (by assumption) ?_
  rotate_left
  · (intro wq hSw; (try dsimp only at hSw); (try simp (maxSteps := 2000000) only [zz1, zz2, zz3]); go_simp); try with_reducible rfl
  try simp (maxSteps := 2000000) only [zz1, zz2, zz3, Act.put, zz4, zz5, zz6]
  refine wpAnyH_ready (rs := [12]) (by kernel_rfl) (by simp) ?_
  refine AllReadyH.cons rfl (fun K hK => ?_) AllReadyH.nil
  try simp (maxSteps := 2000000) only [zz1, zz2, zz3]
  go_simp
  refine (hco _ hb0).mono ?_
  rintro e v1 ⟨z1, rfl, hc1⟩
  have hb1 := hb0.trans (hc1.mono hb0.size)
  have s1 := MK.out _ hb1
  clear hc1
  try (go_wp2_with fail)
  refine hK.out _ _ (by first | exact s0 | exact s1 | exact s2 | exact s3 _) (fun hHeld => ?_)
  clear hK K
  try simp (maxSteps := 2000000) only [zz1, zz2, zz3, Act.put, zz4, zz5, zz6]
  refine wpAnyH_ready (rs := [17]) (by kernel_rfl) (by simp) ?_
  refine AllReadyH.cons rfl (fun K hK => ?_) AllReadyH.nil
  try simp (maxSteps := 2000000) only [zz1, zz2, zz3]
  go_simp
  refine (hcl _ hb1).mono ?_
  rintro e v2 ⟨z2, rfl, hc2⟩
  have hb2 := hb1.trans (hc2.mono hb1.size)
  have s2 := MK.out _ hb2
  clear hc2
  try (go_wp2_with fail)
  refine hK.out _ _ (by first | exact s0 | exact s1 | exact s2 | exact s3 _) (fun hHeld => ?_)
  clear hK K
  try simp (maxSteps := 2000000) only [zz1, zz2, zz3, Act.put, zz4, zz5, zz6]
  refine wpAnyH_take (i := 18) (v := ?_) rfl (by kernel_rfl) (by kernel_rfl) (by kernel_rfl) (fun _ _ _ h => h) (Or.inl ⟨by first | kernel_rfl | rfl, ?_⟩) (by assumption) ?_
  rotate_left
  · (intro wq hSw; (try dsimp only at hSw); (try simp (maxSteps := 2000000) only [zz1, zz2, zz3]); go_simp); try with_reducible rfl
  try simp (maxSteps := 2000000) only [zz1, zz2, zz3, Act.put, zz4, zz5, zz6]
  have s3 : ∀ ob : Obj, _ := fun ob => MK.out _ (hb2.alloc hb2.size ob)
  refine wpAnyH_ready (rs := [19]) (by kernel_rfl) (by simp) ?_
  refine AllReadyH.cons rfl (fun K hK => ?_) AllReadyH.nil
  try simp (maxSteps := 2000000) only [zz1, zz2, zz3]
  go_simp
  refine hK.out _ _ (by first | exact s0 | exact s1 | exact s2 | exact s3 _) (fun hHeld => ?_)
  clear hK K
  try simp (maxSteps := 2000000) only [zz1, zz2, zz3, Act.put, zz4, zz5, zz6]
  refine wpAnyH_take (i := 20) (v := ?_) rfl (by kernel_rfl) (by kernel_rfl) (by kernel_rfl) (fun _ _ _ h => h) (Or.inl ⟨by first | kernel_rfl | rfl, ?_⟩) (by assumption) ?_
  rotate_left
  · (intro wq hSw; (try dsimp only at hSw); (try simp (maxSteps := 2000000) only [zz1, zz2, zz3]); go_simp); try with_reducible rfl
  try simp (maxSteps := 2000000) only [zz1, zz2, zz3, Act.put, zz4, zz5, zz6]
  refine wpAnyH_done (by kernel_rfl) ?_ _
  clear s0 s1 s2 s3 hHeld
  have HB2 := Lib.hid hb2
  clear hb0 hb1 hb2
  go_wp2_with fail
  go_ret
  exact ⟨_, rfl, HB2.out.alloc HB2.out.size _⟩
end
end
end Go.Proofs.YtcliejdiaohamaaGreat

set_option linter.unusedSimpArgs false
set_option linter.unusedVariables false
namespace Go.Proofs.YtcliejdiaohamaaGreat
open Go.RowKit Go.Cib
attribute [local go_sem] cell_set Later.cell Later.frozen Grw.cell Grw.frozen
def cntI (k : Nat) (size : Int) : Int := if size ≤ 0 then 0 else (size - 1) / ((k * 44 : Nat) : Int) + 1
set_option maxRecDepth 100000 in
set_option maxHeartbeats 4000000 in
theorem bcnt_any {w : World} {cb bf k m : Nat} (h : CodAt w cb bf k m) {size : Int} (hs : Hid (size < 9223372036854775808)) :
    Calls Tryz.prog 35 #[.pointer (some ⟨cb, 0, none⟩), .int .i64 size] w fun e w' => e = .returned (.int .i64 (cntI k size)) ∧ w' = w := by
  have hrm := room_any h
  have hk1 := h.k1
  have hkm := h.km
  obtain ⟨r, hr⟩ : ∃ r, k * 44 = r := ⟨_, rfl⟩
  have hr1 : 44 ≤ r ∧ r ≤ 11220 := by omega
  unfold cntI
  rw [hr] at hrm ⊢
  have e0 : ((r : Int) == 0) = false := by simp; omega
  clear h hr
  by_cases h0 : size ≤ 0
  · rw [if_pos h0]
    have f0 : decide (size ≤ 0) = true := decide_eq_true h0
    go_enter Tryz.func35, Tryz.ntmps35
    go_wp2_with fail
    refine hrm.mono ?_
    clear hrm
    rintro e w1 ⟨rfl, hw1⟩
    rw [hw1]
    clear hw1
    go_wp2_with fail
    go_ret
    exact ⟨rfl, rfl⟩
  · rw [if_neg h0]
    have f0 : decide (size ≤ 0) = false := decide_eq_false h0
    have hq : (size - 1) / (r : Int) ≤ size - 1 := Int.ediv_le_self _ (by omega)
    have hq0 : 0 ≤ (size - 1) / (r : Int) := Int.ediv_nonneg (by omega) (by omega)
    have f1 : IntKind.i64.wrap (size - 1) = size - 1 := by rw [IntKind.wrap_i64]; have := hs.out; omega
    have f2 : Int.tdiv (size - 1) (r : Int) = (size - 1) / (r : Int) := Int.tdiv_eq_ediv_of_nonneg (by omega)
    obtain ⟨q, hqe⟩ : ∃ q, (size - 1) / (r : Int) = q := ⟨_, rfl⟩
    rw [hqe] at hq hq0 f2 ⊢
    have f3 : IntKind.i64.wrap q = q := by rw [IntKind.wrap_i64]; have := hs.out; omega
    have f4 : IntKind.i64.wrap (q + 1) = q + 1 := by rw [IntKind.wrap_i64]; have := hs.out; omega
    have hs1 : ¬ size ≤ 0 := h0
    clear hq h0
    go_enter Tryz.func35, Tryz.ntmps35
    go_wp2_with fail
    refine hrm.mono ?_
    clear hrm
    rintro e w1 ⟨rfl, hw1⟩
    rw [hw1]
    clear hw1
    go_wp2_with fail
    go_ret
    exact ⟨rfl, rfl⟩
def blobC (A : Option Addr) (n c : Nat) (gen size : Int) : Array Value := #[.slice A n c, .int .u64 gen, .int .i64 size]
def u64w (x : Int) : Int := x % 18446744073709551616
set_option maxRecDepth 100000 in
set_option maxHeartbeats 4000000 in
theorem name_any {w : World} {A : Option Addr} {n c : Nat} {gen size : Int} {S : Nat → Prop} {ps : List Int} (R : RdL IntR 1 S w A n ps) {i : Nat} (hi : i < n) (hn : n ≤ 1000000) {x : Int} (hx : ps[i]? = some x) :
    Calls Tryz.prog 104 #[.agg (blobC A n c gen size), .int .i64 (i : Int)] w fun e w' => e = .returned (.agg #[.int .u8 3, .int .i64 x, .int .u64 (u64w (gen + (i : Int)))]) ∧ Below w.heap.size w w' := by
  obtain ⟨ba, oa, rfl, _, hba⟩ := R.addr hi
  obtain ⟨x', hx', v1⟩ := int_at1 R hi
  obtain rfl : x' = x := Option.some.inj (hx'.symm.trans hx)
  have q0 : (0 : Int) ≤ (i : Int) := Int.natCast_nonneg _
  have q1 : (i : Int) < (n : Int) := by omega
  have q2 : (n : Int) ≤ 1000000 := by omega
  have f1 : IntKind.u64.wrap (i : Int) = (i : Int) := by rw [IntKind.wrap_u64]; omega
  have f2 : IntKind.u64.wrap (gen + (i : Int)) = u64w (gen + (i : Int)) := by rw [IntKind.wrap_u64]; rfl
  have bB := BoxAt.new w (blobC (some ⟨ba, oa, none⟩) n c gen size) 61
  have hb1 : Below w.heap.size w (w.alloc (.cells (blobC (some ⟨ba, oa, none⟩) n c gen size) 61)) := (Below.refl _ _).alloc (Nat.le_refl _) _
  clear hx hx' R
  obtain ⟨w1, hw1⟩ : ∃ w1, w.alloc (.cells (blobC (some ⟨ba, oa, none⟩) n c gen size) 61) = w1 := ⟨_, rfl⟩
  have hs1 : w1.heap.size = w.heap.size + 1 := by rw [← hw1, World.size_alloc]
  rw [hw1] at bB hb1
  have bR := BoxAt.new w1 #[.int .u8 0, .int .i64 0, .int .u64 0] 41
  have hb2 : Below w.heap.size w (w1.alloc (.cells #[.int .u8 0, .int .i64 0, .int .u64 0] 41)) := hb1.alloc hb1.size _
  have bB2 := bB.alloc (.cells #[.int .u8 0, .int .i64 0, .int .u64 0] 41)
  obtain ⟨w2, hw2⟩ : ∃ w2, w1.alloc (.cells #[.int .u8 0, .int .i64 0, .int .u64 0] 41) = w2 := ⟨_, rfl⟩
  rw [hw2] at bR hb2 bB2
  obtain ⟨q, hq⟩ : ∃ q, w.heap.size = q := ⟨_, rfl⟩
  rw [hq] at bB2 hs1
  rw [hs1] at bR
  have v2 := (hb2.cell (p := ⟨ba, oa + i, none⟩) hba).trans v1
  have s0 : w2.drew.cell? ⟨q, 0, none⟩ = some (.slice (some ⟨ba, oa, none⟩) n c) ∧ w2.drew.cell? ⟨q, 1, none⟩ = some (.int .u64 gen) ∧ w2.drew.cell? ⟨ba, oa + i, none⟩ = some (.int .i64 x') := ⟨bB2.cell 0, bB2.cell 1, v2⟩
  have r0 := bR.cell 0
  have r1 := bR.cell 1
  have r2 := bR.cell 2
  have z0 := bR.frozen 0
  have z1 := bR.frozen 1
  have z2 := bR.frozen 2
  have BR := Lib.hid bR
  have HB2 := Lib.hid hb2
  have HQ := Lib.hid hq
  clear bB hb1 v1 bR bB2 hb2
  unfold blobC at hw1 ⊢
  go_enter Tryz.func104, Tryz.ntmps104
  go_wp2_with fail
  clear hw1 hw2 hq
  refine wp_region_L (S := fun w' => w'.cell? ⟨q, 0, none⟩ = some (.slice (some ⟨ba, oa, none⟩) n c) ∧ w'.cell? ⟨q, 1, none⟩ = some (.int .u64 gen) ∧ w'.cell? ⟨ba, oa + i, none⟩ = some (.int .i64 x')) [11] (by kernel_rfl) (by exact s0) (fun hHeld => ?_)
  refine wpAnyL_take (i := 0) (v := ?_) rfl (by kernel_rfl) (by kernel_rfl) (by kernel_rfl) (by kernel_rfl) (fun _ _ _ h => h) (Or.inl ⟨by first | kernel_rfl | rfl, ?_⟩) (by assumption) ?_
  rotate_left
  · (intro wq0 hSw; (try dsimp only at hSw); (try simp (maxSteps := 2000000) only [zz1, zz2, zz3]); go_simp); try with_reducible rfl
  try simp (maxSteps := 2000000) only [zz1, zz2, zz3, Act.put, zz4, zz5, zz6]
  refine wpAnyL_take (i := 1) (v := ?_) rfl (by kernel_rfl) (by kernel_rfl) (by kernel_rfl) (by kernel_rfl) (fun _ _ _ h => h) (Or.inl ⟨by first | kernel_rfl | rfl, ?_⟩) (by assumption) ?_
  rotate_left
  · (intro wq0 hSw; (try dsimp only at hSw); (try simp (maxSteps := 2000000) only [zz1, zz2, zz3]); go_simp); try with_reducible rfl
  try simp (maxSteps := 2000000) only [zz1, zz2, zz3, Act.put, zz4, zz5, zz6]
  refine wpAnyL_take (i := 2) (v := ?_) rfl (by kernel_rfl) (by kernel_rfl) (by kernel_rfl) (by kernel_rfl) (fun _ _ _ h => h) (Or.inl ⟨by first | kernel_rfl | rfl, ?_⟩) (by assumption) ?_
  rotate_left
  · (intro wq0 hSw; (try dsimp only at hSw); (try simp (maxSteps := 2000000) only [zz1, zz2, zz3]); go_simp); try with_reducible rfl
  try simp (maxSteps := 2000000) only [zz1, zz2, zz3, Act.put, zz4, zz5, zz6]
  refine wpAnyL_take (i := 3) (v := ?_) rfl (by kernel_rfl) (by kernel_rfl) (by kernel_rfl) (by kernel_rfl) (fun _ _ _ h => h) (Or.inl ⟨by first | kernel_rfl | rfl, ?_⟩) (by assumption) ?_
  rotate_left
  · (intro wq0 hSw; (try dsimp only at hSw); (try simp (maxSteps := 2000000) only [zz1, zz2, zz3]); go_simp); try with_reducible rfl
  try simp (maxSteps := 2000000) only [zz1, zz2, zz3, Act.put, zz4, zz5, zz6]
  refine wpAnyL_take (i := 4) (v := ?_) rfl (by kernel_rfl) (by kernel_rfl) (by kernel_rfl) (by kernel_rfl) (fun _ _ _ h => h) (Or.inl ⟨by first | kernel_rfl | rfl, ?_⟩) (by assumption) ?_
  rotate_left
  · (intro wq0 hSw; (try dsimp only at hSw); (try simp (maxSteps := 2000000) only [zz1, zz2, zz3]); go_simp); try with_reducible rfl
  try simp (maxSteps := 2000000) only [zz1, zz2, zz3, Act.put, zz4, zz5, zz6]
  refine wpAnyL_take (i := 5) (v := ?_) rfl (by kernel_rfl) (by kernel_rfl) (by kernel_rfl) (by kernel_rfl) (fun _ _ _ h => h) (Or.inl ⟨by first | kernel_rfl | rfl, ?_⟩) (by assumption) ?_
  rotate_left
  · (intro wq0 hSw; (try dsimp only at hSw); (try simp (maxSteps := 2000000) only [zz1, zz2, zz3]); go_simp); try with_reducible rfl
  try simp (maxSteps := 2000000) only [zz1, zz2, zz3, Act.put, zz4, zz5, zz6]
  refine wpAnyL_take (i := 6) (v := ?_) rfl (by kernel_rfl) (by kernel_rfl) (by kernel_rfl) (by kernel_rfl) (fun _ _ _ h => h) (Or.inl ⟨by first | kernel_rfl | rfl, ?_⟩) (by assumption) ?_
  rotate_left
  · (intro wq0 hSw; (try dsimp only at hSw); (try simp (maxSteps := 2000000) only [zz1, zz2, zz3]); go_simp); try with_reducible rfl
  try simp (maxSteps := 2000000) only [zz1, zz2, zz3, Act.put, zz4, zz5, zz6]
  refine wpAnyL_take (i := 7) (v := ?_) rfl (by kernel_rfl) (by kernel_rfl) (by kernel_rfl) (by kernel_rfl) (fun _ _ _ h => h) (Or.inl ⟨by first | kernel_rfl | rfl, ?_⟩) (by assumption) ?_
  rotate_left
  · (intro wq0 hSw; (try dsimp only at hSw); (try simp (maxSteps := 2000000) only [zz1, zz2, zz3]); go_simp); try with_reducible rfl
  try simp (maxSteps := 2000000) only [zz1, zz2, zz3, Act.put, zz4, zz5, zz6]
  refine wpAnyL_take (i := 8) (v := ?_) rfl (by kernel_rfl) (by kernel_rfl) (by kernel_rfl) (by kernel_rfl) (fun _ _ _ h => h) (Or.inl ⟨by first | kernel_rfl | rfl, ?_⟩) (by assumption) ?_
  rotate_left
  · (intro wq0 hSw; (try dsimp only at hSw); (try simp (maxSteps := 2000000) only [zz1, zz2, zz3]); go_simp); try with_reducible rfl
  try simp (maxSteps := 2000000) only [zz1, zz2, zz3, Act.put, zz4, zz5, zz6]
  refine wpAnyL_take (i := 9) (v := ?_) rfl (by kernel_rfl) (by kernel_rfl) (by kernel_rfl) (by kernel_rfl) (fun _ _ _ h => h) (Or.inl ⟨by first | kernel_rfl | rfl, ?_⟩) (by assumption) ?_
  rotate_left
  · (intro wq0 hSw; (try dsimp only at hSw); (try simp (maxSteps := 2000000) only [zz1, zz2, zz3]); go_simp); try with_reducible rfl
  try simp (maxSteps := 2000000) only [zz1, zz2, zz3, Act.put, zz4, zz5, zz6]
  refine wpAnyL_take (i := 10) (v := ?_) rfl (by kernel_rfl) (by kernel_rfl) (by kernel_rfl) (by kernel_rfl) (fun _ _ _ h => h) (Or.inl ⟨by first | kernel_rfl | rfl, ?_⟩) (by assumption) ?_
  rotate_left
  · (intro wq0 hSw; (try dsimp only at hSw); (try simp (maxSteps := 2000000) only [zz1, zz2, zz3]); go_simp); try with_reducible rfl
  try simp (maxSteps := 2000000) only [zz1, zz2, zz3, Act.put, zz4, zz5, zz6]
  refine wpAnyL_ready (rs := [11]) (by kernel_rfl) (by simp) ?_
  refine AllReadyL.last rfl (by decide) (fun K hK => ?_) AllReadyL.nil
  try simp (maxSteps := 2000000) only [zz1, zz2, zz3]
  go_simp
  refine hK.out _ _ ?_
  clear hK K
  try simp (maxSteps := 2000000) only [zz1, zz2, zz3, Act.put, zz4, zz5, zz6]
  refine wpAnyL_done (by kernel_rfl) ?_ _
  clear s0 hHeld
  go_wp2_with fail
  refine bodyPost_ret (v := .agg #[.int .u8 3, .int .i64 x', .int .u64 (u64w (gen + (i : Int)))]) (by simp [results, Tryz.results104, go_sem, *]) rfl ?_
  have hle : w.heap.size ≤ q + 1 := by have := HQ.out; omega
  refine ⟨rfl, ?_⟩
  have hb := HB2.out
  exact ((((hb.setCell (p := ⟨q + 1, 0, none⟩) hle _).setCell (p := ⟨q + 1, 1, none⟩) hle _).setCell (p := ⟨q + 1, 2, none⟩) hle _)).drew
theorem piece_mid {T E : TypeId} {z : Value} {s b : Nat} (st : SlTy Tryz.prog T E z s b) {A : Option Addr} {N c k j : Nat} (hk : k ≤ j) (hj : j ≤ c) (w : World) : (Instr.slice T (.slice A N c) (some (.int .i64 (k : Int))) (some (.int .i64 (j : Int))) none).run Tryz.prog w = .ok (.slice (if c = k then A else A.map (fun x : Addr => x.add (k * s))) (j - k) (c - k)) w := by
  obtain ⟨i, hi, hz, hsz, hby⟩ := info_parts st.info
  have hel : Tryz.prog.elem T = E := by simp [Program.elem, st.und]
  have ht : Tryz.prog.underlying T = some (.slice (Tryz.prog.elem T)) := by rw [hel]; exact st.und
  rw [run_slice_lh (t := T) (ht := ht) (h0 := Int.natCast_nonneg _) (h1 := by omega) (h2 := by omega)]
  have hs : (sizeOf (Tryz.prog.elem T)).run Tryz.prog w = .ok s w := by
    rw [hel]; simp [sizeOf, typeInfo, hi, hsz]
  rw [hs]
  simp only [Result.andThen, sliced, Int.toNat_natCast]
theorem piece_one {S : Nat → Prop} {w : World} {A : Option Addr} {n c : Nat} {xs : List Nat} (h : RdL ByR 1 S w A n xs) (hn : n ≤ c) {k j : Nat} (hk : k ≤ j) (hj : j ≤ n) : RdL ByR 1 S w (if c = k then A else A.map (fun x : Addr => x.add (k * 1))) (j - k) ((xs.drop k).take (j - k)) := by
  exact RdL.take (piece_rd h hn (k := k) (by omega)) (k := j - k) (by omega)
attribute [local go_sem ↓] run_min_b
set_option maxRecDepth 100000 in
set_option maxHeartbeats 4000000 in
theorem bpiece_any {w : World} {S : Nat → Prop} {A : Option Addr} {n c rm i : Nat} {xs : List Nat} (R : RdL ByR 1 S w A n xs) (hc : n ≤ c) (hn : n ≤ 1000000) (hi : i * rm ≤ n) (hr : rm ≤ 20000) :
    Calls Tryz.prog 110 #[.slice A n c, .int .i64 (rm : Int), .int .i64 (i : Int)] w fun e w' => ∃ A' l' c', e = .returned (.slice A' l' c') ∧ l' ≤ c' ∧ RdL ByR 1 S w A' l' ((xs.drop (i * rm)).take rm) ∧ l' = min rm (n - i * rm) ∧ w' = w := by
  obtain ⟨k, hk⟩ : ∃ k, i * rm = k := ⟨_, rfl⟩
  have hkI : (i : Int) * (rm : Int) = (k : Int) := by rw [← hk]; push_cast; rfl
  obtain ⟨j, hj⟩ : ∃ j, min n (k + rm) = j := ⟨_, rfl⟩
  have hjI : min (n : Int) ((k : Int) + (rm : Int)) = (j : Int) := by omega
  rw [hk] at hi ⊢
  have hjk : k ≤ j ∧ j ≤ n := by omega
  have hsl := piece_mid (sl_by) (A := A) (N := n) hjk.1 (show j ≤ c by omega) w
  have hrd := piece_one R hc hjk.1 hjk.2
  have htk : (xs.drop k).take (j - k) = (xs.drop k).take rm := by
    have hl := R.1
    by_cases h : k + rm ≤ n
    · rw [show j - k = rm by omega]
    · rw [List.take_of_length_le (by rw [List.length_drop]; omega), List.take_of_length_le (by rw [List.length_drop]; omega)]
  rw [htk] at hrd
  obtain ⟨A', hA'⟩ : ∃ A', (if c = k then A else A.map (fun x : Addr => x.add (k * 1))) = A' := ⟨_, rfl⟩
  rw [hA'] at hsl hrd
  have HRD := Lib.hid hrd
  have HL := Lib.hid (show j - k = min rm (n - k) by omega)
  have HC := Lib.hid (show j - k ≤ c - k by omega)
  obtain ⟨l', hl'⟩ : ∃ l', j - k = l' := ⟨_, rfl⟩
  obtain ⟨c', hc'⟩ : ∃ c', c - k = c' := ⟨_, rfl⟩
  rw [hl', hc'] at hsl HC
  rw [hl'] at HL HRD
  clear hA' hl' hc'
  have f1 : IntKind.i64.wrap (k : Int) = (k : Int) := by rw [IntKind.wrap_i64]; omega
  have f2 : IntKind.i64.wrap ((k : Int) + (rm : Int)) = (k : Int) + (rm : Int) := by rw [IntKind.wrap_i64]; omega
  clear hk hj R hrd htk hi hn hr hjk hc
  go_enter Tryz.func110, Tryz.ntmps110
  go_wp2_with fail
  go_ret
  exact ⟨_, _, _, rfl, HC.out, HRD.out, HL.out, rfl⟩
end Go.Proofs.YtcliejdiaohamaaGreat

set_option linter.unusedSimpArgs false
set_option linter.unusedVariables false
namespace Go.Proofs.YtcliejdiaohamaaGreat
open Go.RowKit Go.Cib
attribute [local go_sem] cell_set Later.cell Later.frozen Grw.cell Grw.frozen
def cntN (k size : Nat) : Nat := (size + k * 44 - 1) / (k * 44)
theorem cntI_nat {k : Nat} (hk : 1 ≤ k) (size : Nat) : cntI k (size : Int) = (cntN k size : Nat) := by
  unfold cntI cntN
  have hr : 0 < k * 44 := by omega
  obtain ⟨r, hre⟩ : ∃ r, k * 44 = r := ⟨_, rfl⟩
  rw [hre] at hr ⊢
  by_cases h0 : size = 0
  · subst h0
    rw [if_pos (by omega), Nat.div_eq_of_lt (by omega)]; rfl
  · rw [if_neg (by omega)]
    obtain ⟨s, rfl⟩ : ∃ s, size = s + 1 := ⟨size - 1, by omega⟩
    rw [show s + 1 + r - 1 = s + r by omega, Nat.add_div_right _ hr]
    push_cast
    congr 2
    omega
theorem cntN_le {k : Nat} (hk : 1 ≤ k) (size : Nat) : cntN k size ≤ size := by
  unfold cntN
  by_cases h0 : size = 0
  · subst h0; rw [Nat.div_eq_of_lt (by omega)]; exact Nat.le_refl _
  · obtain ⟨s, rfl⟩ : ∃ s, size = s + 1 := ⟨size - 1, by omega⟩
    rw [show s + 1 + k * 44 - 1 = s + k * 44 by omega, Nat.add_div_right _ (by omega)]
    have := Nat.div_le_self s (k * 44)
    omega
section
variable {w w' : World} {p o l go gl ep ct fs n cb bf k m : Nat} {wo wl : List Nat}
theorem PoolAt.ltB (h : PoolAt w p o l go gl ep ct fs n wo wl) {j : Nat} (hj : PoolB p o l go gl j) : j < w.heap.size := by
  rcases hj with h1 | h1 | h1 | h1 | h1 <;> subst h1
  · exact h.box.lt
  · exact h.out.box.lt
  · exact h.lim.box.lt
  · exact h.out.row.lt
  · exact h.lim.row.lt
def TkE (w : World) (p o l go gl ep ct fs n M size : Nat) (wo wl : List Nat) (e : Ending) (w' : World) : Prop :=
  ∃ A c, e = .returned (.tuple #[.agg (blobC A M c ((ep * 1048576 + ct : Nat) : Int) (size : Int)), .int .i64 0]) ∧ M ≤ c ∧ RdL IntR 1 (fun j => w.heap.size ≤ j) w' A M (((frI wo n).take M).map fun x => x + (fs : Int)) ∧ PoolAt w' p o l go gl ep (ct + M) fs n (takeW n wo ((frI wo n).take M)) wl ∧ Keep (fun j => j = go ∨ j = p) w w'
set_option maxRecDepth 100000 in
set_option maxHeartbeats 8000000 in
theorem taken_any (h : CodAt w cb bf k m) (hP : PoolAt w p o l go gl ep ct fs n wo wl) {size : Nat} (hs : size ≤ 100000) (he : ep < 1099511627776) (hct : ct + cntN k size ≤ 1048576) (hfr : cntN k size ≤ (freeL wo n).length) :
    Calls Tryz.prog 109 #[.pointer (some ⟨cb, 0, none⟩), .pointer (some ⟨p, 0, none⟩), .int .i64 (size : Int)] w fun e w' => TkE w p o l go gl ep ct fs n (cntN k size) size wo wl e w' := by
  have hb0 : Below w.heap.size w (w.alloc (.cells #[.slice none 0 0, .int .u64 0, .int .i64 0] 61)) := (Below.refl _ _).alloc (Nat.le_refl _) _
  have bB := BoxAt.new w #[.slice none 0 0, .int .u64 0, .int .i64 0] 61
  obtain ⟨w1, hw1⟩ : ∃ w1, w.alloc (.cells #[.slice none 0 0, .int .u64 0, .int .i64 0] 61) = w1 := ⟨_, rfl⟩
  obtain ⟨q, hq⟩ : ∃ q, w.heap.size = q := ⟨_, rfl⟩
  rw [hw1] at hb0 bB
  rw [hq] at bB
  have hcn := bcnt_any (h.below hb0) (size := (size : Int)) (Lib.hid (by omega))
  rw [cntI_nat h.k1] at hcn
  obtain ⟨M, hM⟩ : ∃ M, cntN k size = M := ⟨_, rfl⟩
  rw [hM] at hcn hct hfr ⊢
  obtain ⟨G, hG⟩ : ∃ G, ep * 1048576 + ct = G := ⟨_, rfl⟩
  have HG := Lib.hid hG
  unfold TkE
  rw [hG]
  clear hG
  have hP1 := hP.below hb0
  have htk := ptake_any hP1 hfr
  have hgo := hP.out.row.lt
  have HPB := Lib.hid (fun j (hj : PoolB p o l go gl j) => hP.ltB hj)
  have hpp := hP.box.lt
  have HE := Lib.hid he
  have HCT := Lib.hid hct
  have HB0 := Lib.hid hb0
  have BB := Lib.hid bB
  have HQ := Lib.hid hq
  clear h hP hP1 he hct hfr hM hb0 bB
  go_enter Tryz.func109, Tryz.ntmps109
  go_wp2_with fail
  refine hcn.mono ?_
  clear hcn
  rintro e w2 ⟨rfl, hw2⟩
  rw [hw2]
  clear hw2
  go_wp2_with fail
  refine htk.mono ?_
  clear htk hw1
  rintro e w3 ⟨A, c, rfl, hc, hr3, hP3, hK3⟩
  have hge := gens_any (m := M) hP3 HE.out HCT.out
  have hqgo : ¬ q = go := by have := HQ.out; omega
  have hqp : ¬ q = p := by have := HQ.out; omega
  have BB3 := Lib.hid (BB.out.keeps hK3 hqgo)
  have HR3 := Lib.hid hr3
  have HK3 := Lib.hid hK3
  have hs1 := HB0.out.size
  have hq1 := BB.out.lt
  clear hP3 hK3 hr3
  rw [HG.out] at hge
  go_wp2_with fail
  refine hge.mono ?_
  clear hge
  rintro e w4 ⟨rfl, hP4, hK4⟩
  have bB4 := BB3.out.keeps hK4 hqp
  have hb4 := hK4.size
  have hs3 := HK3.out.size
  have k0 := bB4.cell 0
  have k1 := bB4.cell 1
  have k2 := bB4.cell 2
  have z0 := bB4.frozen 0
  have z1 := bB4.frozen 1
  have z2 := bB4.frozen 2
  have HP4 := Lib.hid hP4
  have HK4 := Lib.hid hK4
  have HR4 := Lib.hid (HR3.out.keep IntR.stable hK4 (fun j hj => by have hj2 : w1.heap.size ≤ j := hj; omega))
  clear bB4 hP4 hK4
  go_wp2_with fail
  refine bodyPost_ret (v := .tuple #[.agg #[.slice A M c, .int .u64 (G : Int), .int .i64 (size : Int)], .int .i64 0]) (by simp [results, Tryz.results109, go_sem, *]) rfl ?_
  have hKq : ∀ (x y z : Value), Keep (fun j => j = q) w4 (((w4.setCell ⟨q, 0, none⟩ x).setCell ⟨q, 1, none⟩ y).setCell ⟨q, 2, none⟩ z) := fun x y z =>
    Keep.setCell (Keep.setCell (Keep.setCell (Keep.refl (fun j => j = q) w4) (p := ⟨q, 0, none⟩) (fun _ => rfl) x) (p := ⟨q, 1, none⟩) (fun _ => rfl) y) (p := ⟨q, 2, none⟩) (fun _ => rfl) z
  have hPq : ∀ j, PoolB p o l go gl j → ¬ j = q := fun j hj => by
    have := HPB.out j hj
    have := HQ.out
    omega
  refine ⟨A, c, rfl, hc, ?_, HP4.out.keep (hKq _ _ _) hPq, ?_⟩
  · exact (HR4.out.keep IntR.stable (hKq _ _ _) (fun j hj => by have hj2 : w1.heap.size ≤ j := hj; omega)).weaken IntR.stable (fun j hj => by have hj2 : w1.heap.size ≤ j := hj; show w.heap.size ≤ j; omega)
  · have h1 : Keep (fun j => j = go ∨ j = p) w w1 := Keep.of_below HB0.out
    have h2 : Keep (fun j => j = go ∨ j = p) w w3 := h1.trans HK3.out (fun j hj _ => .inl hj)
    have h3 : Keep (fun j => j = go ∨ j = p) w w4 := h2.trans HK4.out (fun j hj _ => .inr hj)
    exact h3.trans (hKq _ _ _) (fun j hj hlt => by have := HQ.out; omega)
end
end Go.Proofs.YtcliejdiaohamaaGreat

set_option linter.unusedSimpArgs false
set_option linter.unusedVariables false
namespace Go.Proofs.YtcliejdiaohamaaGreat
open Go.RowKit Go.Cib
attribute [local go_sem] cell_set Later.cell Later.frozen Grw.cell Grw.frozen
def bRef (ps : List Int) (gen : Nat) (i : Nat) : Ref := ⟨3, (ps.getD i 0).toNat, gen + i⟩
def bPc (k : Nat) (xs : List Nat) (i : Nat) : List Nat := (xs.drop (i * (k * 44))).take (k * 44)
/-- The drives behind the first i stripes. -/
def putB (n k N : Nat) (ps : List Int) (gen : Nat) (xs : List Nat) (sts : List DSt) : Nat → List DSt
  | 0 => sts
  | i + 1 => (putB n k N ps gen xs sts i).mapIdx (putQ n k N (bRef ps gen i) (bPc k xs i))
theorem putB_cache {n k N : Nat} {ps : List Int} {gen : Nat} {xs : List Nat} {sts : List DSt} {c : Nat} (h : ∀ st ∈ sts, st.cache.length < c) : ∀ i, ∀ st ∈ putB n k N ps gen xs sts i, st.cache.length < c + i
  | 0, st, hst => h st hst
  | i + 1, st, hst => by
    rw [putB] at hst
    obtain ⟨d, hd, rfl⟩ := List.mem_iff_getElem.1 hst
    obtain ⟨s1, h1, e⟩ := mapIdx_at (List.getElem?_eq_getElem hd)
    rw [e]
    have h2 := putB_cache h i s1 (List.mem_of_getElem? h1)
    have h3 := putQ_cache (n := n) (k := k) (N := N) (d := d) (r := bRef ps gen i) (xs := bPc k xs i) (st := s1)
    omega
theorem cntN_mul {k size i : Nat} (hk : 1 ≤ k) (hi : i < cntN k size) : i * (k * 44) < size := by
  unfold cntN at hi
  have h1 := (Nat.le_div_iff_mul_le (show 0 < k * 44 by omega)).1 (show i + 1 ≤ _ from hi)
  rw [Nat.add_mul] at h1
  omega
def BPutE (P X : Nat → Prop) (w0 w : World) (a cb bf k m n p o l go gl ep ct fs np M size : Nat) (wo wl : List Nat) (xs : List Nat) (sts : List DSt) (e : Ending) (w' : World) : Prop :=
  ∃ A c S', e = .returned (.tuple #[.agg (blobC A M c ((ep * 1048576 + ct : Nat) : Int) (size : Int)), .int .i64 0]) ∧ M ≤ c ∧ RdL IntR 1 S' w' A M (((frI wo np).take M).map fun x => x + (fs : Int)) ∧ (∀ j, S' j → w.heap.size ≤ j ∧ j < w'.heap.size) ∧
    PoolAt w' p o l go gl ep (ct + M) fs np (takeW np wo ((frI wo np).take M)) wl ∧ MidP P (fun j => X j ∨ S' j) w0 w' a cb bf k m n (putB n k (k + m) (((frI wo np).take M).map fun x => x + (fs : Int)) (ep * 1048576 + ct) xs sts M) ∧ KpX X w w'
section
variable {P X S : Nat → Prop} {w0 w w' : World} {a p o l go gl ep ct fs np n cb bf k m : Nat} {wo wl : List Nat} {sts : List DSt}
set_option maxRecDepth 100000 in
set_option maxHeartbeats 16000000 in
theorem bput_any (h : MidP P X w0 w a cb bf k m n sts) (hP : PoolAt w p o l go gl ep ct fs np wo wl) (hPB : ∀ j, PoolB p o l go gl j → P j) {A : Option Addr} {size cx : Nat} {xs : List Nat} (R : RdL ByR 1 S w A size xs) (hSX : ∀ j, S j → X j) (hcx : size ≤ cx) (hs : size ≤ 400) (he : ep < 1099511627776) (hct : ct + cntN k size ≤ 1048576) (hfr : cntN k size ≤ (freeL wo np).length) (hnp : fs + np ≤ n) (hcl : ∀ st ∈ sts, st.cache.length < 800000) :
    Calls Tryz.prog 40 #[.pointer (some ⟨a, 0, none⟩), .pointer (some ⟨cb, 0, none⟩), .pointer (some ⟨p, 0, none⟩), .slice A size cx] w fun e w' => BPutE P X w0 w a cb bf k m n p o l go gl ep ct fs np (cntN k size) size wo wl xs sts e w' := by
  have hpos := h.pos
  have hM4 := cntN_le hpos.1 size
  have hb0 : Below w.heap.size w (w.alloc (.cells #[.slice none 0 0, .int .u64 0, .int .i64 0] 61)) := (Below.refl _ _).alloc (Nat.le_refl _) _
  have bB := BoxAt.new w #[.slice none 0 0, .int .u64 0, .int .i64 0] 61
  obtain ⟨w1, hw1⟩ : ∃ w1, w.alloc (.cells #[.slice none 0 0, .int .u64 0, .int .i64 0] 61) = w1 := ⟨_, rfl⟩
  obtain ⟨q, hq⟩ : ∃ q, w.heap.size = q := ⟨_, rfl⟩
  rw [hw1] at hb0 bB
  rw [hq] at bB
  have hM1 := h.below hb0
  have hP1 := hP.below hb0
  have han := an_p hM1
  have HM1 := Lib.hid hM1
  have HP1 := Lib.hid hP1
  have HB0 := Lib.hid hb0
  have BB := Lib.hid bB
  have HQ := Lib.hid hq
  have HMU := Lib.hid (fun i (hi : i < cntN k size) => cntN_mul hpos.1 hi)
  have HH := Lib.hid h
  have HR := Lib.hid R
  have q0 : (0 : Int) ≤ (size : Int) := Int.natCast_nonneg _
  have q1 : (size : Int) ≤ 400 := by omega
  obtain ⟨N, hN⟩ : ∃ N, k + m = N := ⟨_, rfl⟩
  have hcn := fun (w2 : World) (hb : Below w1.heap.size w1 w2) => cn_any (hM1.cod.below hb)
  have hpc := fun (w2 : World) (hb : Below w1.heap.size w1 w2) => pcopy_any (hP1.below hb)
  have htk := fun (w2 : World) (hb : Below w1.heap.size w1 w2) => taken_any (hM1.cod.below hb) (hP1.below hb) (size := size) (by omega) he hct hfr
  rw [hN] at han hcn
  have e0 : ((N : Int) == 0) = false := by simp; omega
  have HCN := Lib.hid hcn
  have HPC := Lib.hid hpc
  have HTK := Lib.hid htk
  have HN := Lib.hid hN
  have HCL := Lib.hid hcl
  have HPB := Lib.hid hPB
  have HSX := Lib.hid hSX
  have HE := Lib.hid he
  have HCTX := Lib.hid hct
  have HFR := Lib.hid hfr
  obtain ⟨M, hM⟩ : ∃ M, cntN k size = M := ⟨_, rfl⟩
  have HMM := Lib.hid hM
  clear h hP hM1 hP1 hb0 bB hcn hpc htk hN hcl hPB hSX R he hct hfr hM
  go_enter Tryz.func40, Tryz.ntmps40
  go_wp2_with fail
  refine han.mono ?_
  clear han hw1
  rintro e w2 ⟨rfl, hb2⟩
  have hcn2 := HCN.out w2 hb2
  have HB2 := Lib.hid hb2
  clear hb2
  go_wp2_with fail
  refine hcn2.mono ?_
  clear hcn2
  rintro e w3 ⟨rfl, hb3⟩
  have HB3 := Lib.hid (HB2.out.trans (hb3.mono HB2.out.size))
  have hpc3 := HPC.out w3 HB3.out
  clear hb3 HB2
  go_wp2_with fail
  refine hpc3.mono ?_
  clear hpc3
  rintro e w4 ⟨zc, rfl, hb4⟩
  have HB4 := Lib.hid (HB3.out.trans (hb4.mono HB3.out.size))
  have htk4 := HTK.out w4 HB4.out
  clear hb4 HB3
  go_wp2_with fail
  refine htk4.mono ?_
  clear htk4
  rintro e w5 ⟨A5, c5, rfl, hc5, hr5, hP5, hK5⟩
  rw [HMM.out] at hc5 hr5 hP5 hM4 ⊢
  obtain ⟨G, hG⟩ : ∃ G, ep * 1048576 + ct = G := ⟨_, rfl⟩
  rw [hG]
  have hG64 : Hid (G + M < 2 ^ 64) := Lib.hid (by have := HE.out; have := HCTX.out; rw [HMM.out] at this; omega)
  have HG := Lib.hid hG
  obtain ⟨ps, hps⟩ : ∃ ps, ((frI wo np).take M).map (fun x => x + (fs : Int)) = ps := ⟨_, rfl⟩
  rw [hps] at hr5
  have hpl : ps.length = M := hr5.1
  have hpb : ∀ x ∈ ps, 0 ≤ x ∧ x < (n : Int) := fun x hx => by
    rw [← hps] at hx
    obtain ⟨y, hy, rfl⟩ := List.mem_map.1 hx
    obtain ⟨j, hj, rfl⟩ := List.mem_map.1 (List.mem_of_mem_take hy)
    have := List.mem_range.1 (List.mem_filter.1 hj).1
    omega
  have hKP : Keep P w4 w5 := hK5.mono (fun j hj _ => by
    rcases hj with rfl | rfl
    · exact HPB.out _ (.inr (.inr (.inr (.inl rfl))))
    · exact HPB.out _ (.inl rfl))
  have hM4' := HM1.out.below' HB4.out
  have hM5 := hM4'.poolN hKP
  have hK45 := (hM4'.pool hKP).2
  have hs1 := HB0.out.size
  have hs4 := HB4.out.size
  have hs5 := hKP.size
  have hw1s := BB.out.lt
  have bB5 := hK45.box (BB.out.below HB4.out) (.inr (by have := HQ.out; omega))
  have bQ := BoxAt.new w5 (blobC A5 M c5 (G : Int) (size : Int)) 61
  have hb6 : Below w5.heap.size w5 (w5.alloc (.cells (blobC A5 M c5 (G : Int) (size : Int)) 61)) := (Below.refl _ _).alloc (Nat.le_refl _) _
  obtain ⟨w6, hw6⟩ : ∃ w6, w5.alloc (.cells (blobC A5 M c5 (G : Int) (size : Int)) 61) = w6 := ⟨_, rfl⟩
  obtain ⟨qb, hqb⟩ : ∃ qb, w5.heap.size = qb := ⟨_, rfl⟩
  have hs6 : w6.heap.size = qb + 1 := by rw [← hw6, ← hqb, World.size_alloc]
  rw [hw6] at bQ hb6
  rw [hqb] at bQ
  have hM6 := hM5.below hb6
  obtain ⟨XX, hXX⟩ : ∃ XX : Nat → Prop, (fun j => (((X j ∨ (w.heap.size ≤ j ∧ j < w1.heap.size)) ∨ (w4.heap.size ≤ j ∧ j < w5.heap.size)) ∨ (w5.heap.size ≤ j ∧ j < w6.heap.size))) = XX := ⟨_, rfl⟩
  have hX1 : ∀ j, X j → XX j := fun j hj => by rw [← hXX]; exact .inl (.inl (.inl hj))
  have hXq : XX q := by rw [← hXX]; exact .inl (.inl (.inr (by have := HQ.out; omega)))
  have hXb : XX qb := by rw [← hXX]; exact .inr (by omega)
  have hX5 : ∀ j, w4.heap.size ≤ j ∧ j < w5.heap.size → XX j := fun j hj => by rw [← hXX]; exact .inl (.inr hj)
  rw [hXX] at hM6
  have HM6 := Lib.hid hM6
  have BB6 := Lib.hid (bB5.below hb6)
  have BQ6 := Lib.hid bQ
  have HR6 := Lib.hid ((RdL.bound1 IntR.stable hr5).below IntR.stable hb6)
  have HS56 := Lib.hid (show w5.heap.size ≤ w6.heap.size from hb6.size)
  have HP6 := Lib.hid (hP5.below hb6)
  have HX1 := Lib.hid hX1
  have HXQ := Lib.hid hXq
  have HXB := Lib.hid hXb
  have HX5 := Lib.hid hX5
  have HPS := Lib.hid hps
  have HPL := Lib.hid hpl
  have HPSB := Lib.hid hpb
  have HKX := Lib.hid (show KpX X w w6 from ((KpX.of_below (HB0.out.trans (HB4.out.mono hs1)) (fun j hj => HH.out.lt hj)).trans (hK45.mono (fun j hj => .inl hj))).trans (KpX.of_below hb6 (fun j hj => by have := HH.out.lt hj; omega)))
  have hqw := HQ.out
  have HG2 := Lib.hid hG
  have HW14 := Lib.hid (show q < w4.heap.size by omega)
  have HWS6 := Lib.hid (show w.heap.size ≤ w6.heap.size by omega)
  have HQLT := Lib.hid (show q < qb by omega)
  have c6 : w6.cell? ⟨qb, 0, none⟩ = some (.slice A5 M c5) := bQ.cell 0
  clear hKP hM4' hM5 hK45 hK5 bB5 bQ hM6 hXX hX1 hXq hXb hX5 hr5 hP5 hps hpl hpb hG HM1 HP1 HCN HPC HTK HB0 BB HB4 hb6
  unfold blobC at hw6 ⊢
  go_wp2_with fail
  clear c6 hw6 hqb
  go_loopw [50] (fun vi wr => ∃ i : Nat, i ≤ M ∧ vi = .int .i64 (i : Int) ∧ Hid (MidP P XX w0 wr a cb bf k m n (putB n k (k + m) ps G xs sts i)) ∧ Hid (KpX (fun j => XX j ∨ P j) w6 wr)) (fun vi _ => M - (intOf vi).toNat)
  case atStart => exact ⟨0, Nat.zero_le _, rfl, HM6, Lib.hid KpX.refl⟩
  case round =>
    clear HM6
    obtain ⟨i, hi, rfl, HM, HK⟩ := hrel
    have p0 : (0 : Int) ≤ (i : Int) := Int.natCast_nonneg _
    have bQr := HK.out.box BQ6.out (.inl HXB.out)
    have BQR := Lib.hid bQr
    by_cases hlt : i < M
    · have p1 : (i : Int) < (M : Int) := by omega
      have HRr := Lib.hid (HK.out.rd IntR.stable HR6.out (fun j hj => .inl (HX5.out j hj)))
      have cr : wr.cell? ⟨qb, 0, none⟩ = some (.slice A5 M c5) ∧ wr.cell? ⟨qb, 1, none⟩ = some (.int .u64 (G : Int)) ∧ wr.cell? ⟨qb, 2, none⟩ = some (.int .i64 (size : Int)) := ⟨bQr.cell 0, bQr.cell 1, bQr.cell 2⟩
      obtain ⟨x, hx⟩ : ∃ x, ps[i]? = some x := ⟨_, List.getElem?_eq_getElem (by rw [HPL.out]; exact hlt)⟩
      have hxb := HPSB.out x (List.mem_of_getElem? hx)
      have hnm := name_any (c := c5) (gen := (G : Int)) (size := (size : Int)) HRr.out hlt (by omega) hx
      have hG2 : u64w ((G : Int) + (i : Int)) = (G : Int) + (i : Int) := by unfold u64w; have := hG64.out; omega
      rw [hG2] at hnm
      have hbr : bRef ps G i = ⟨3, x.toNat, G + i⟩ := by unfold bRef; rw [List.getD_eq_getElem?_getD, hx]; rfl
      have hrefC : refC (bRef ps G i) = #[.int .u8 3, .int .i64 x, .int .u64 ((G : Int) + (i : Int))] := by rw [hbr]; unfold refC; rw [show ((x.toNat : Nat) : Int) = x by omega]; push_cast; rfl
      have hrok : (bRef ps G i).ok n := by rw [hbr]; exact ⟨(by decide : 1 ≤ 3), (by decide : 3 ≤ 4), (by show x.toNat < n; omega)⟩
      have hrg : Hid ((bRef ps G i).gen < 2 ^ 64) := Lib.hid (by rw [hbr]; show G + i < _; have := hG64.out; omega)
      have HRC := Lib.hid hrefC
      have HROK := Lib.hid hrok
      have hmu := HMU.out i (by rw [HMM.out]; exact hlt)
      unfold blobC at hnm
      clear hx hbr hrefC hrok hG2 bQr
      go_wp2_with fail
      refine hnm.mono ?_
      clear hnm cr
      rintro e w7 ⟨rfl, hb7⟩
      have HM7 := Lib.hid (HM.out.below' hb7)
      have HK7 := Lib.hid (HK.out.trans (KpX.of_below hb7 (fun j hj => by
        rcases hj with hj | hj
        · exact HM.out.lt hj
        · exact HM.out.ltP hj)))
      have hrm := room_any HM7.out.cod
      clear hb7 HM HK HRr
      go_wp2_with fail
      refine hrm.mono ?_
      clear hrm
      rintro e w8 ⟨rfl, hw8⟩
      rw [hw8]
      clear hw8
      have hKXr := HKX.out.trans (HK7.out.mono fun j hj => .inl (HX1.out j hj))
      have hRx := hKXr.rd ByR.stable HR.out HSX.out
      have hpi := bpiece_any (i := i) (rm := k * 44) hRx hcx (by omega) (by omega) (by omega)
      go_wp2_with fail
      refine hpi.mono ?_
      clear hpi
      rintro e w9 ⟨A9, l9, c9, rfl, hl9, hr9, hle9, hw9⟩
      rw [hw9]
      clear hw9
      have hpu := put_p HM7.out (r := bRef ps G i) HROK.out hrg (fun st hst => by have := putB_cache HCL.out i st hst; omega) hr9 hl9 (by omega)
      have HL9 := Lib.hid hle9
      clear hle9
      rw [HRC.out] at hpu
      have HPU := Lib.hid hpu
      clear hpu hr9 hRx hKXr hmu
      go_wp2_with fail
      refine HPU.out.mono ?_
      clear HPU
      rintro e w10 ⟨rfl, hM10, hK10⟩
      have HM10 := Lib.hid (show MidP P XX w0 w10 a cb bf k m n (putB n k (k + m) ps G xs sts (i + 1)) from hM10)
      have HK10 := Lib.hid (HK7.out.trans hK10)
      clear hM10 hK10 HM7 HK7
      go_wp2_with fail
      exact ⟨⟨i + 1, by omega, by go_num, HM10, HK10⟩, by simp [intOf]; omega⟩
    · have p1 : ¬ (i : Int) < (M : Int) := by omega
      obtain rfl : i = M := by omega
      have bBr := HK.out.box BB6.out (.inl HXQ.out)
      have cr : wr.cell? ⟨qb, 0, none⟩ = some (.slice A5 i c5) ∧ wr.cell? ⟨qb, 1, none⟩ = some (.int .u64 (G : Int)) ∧ wr.cell? ⟨qb, 2, none⟩ = some (.int .i64 (size : Int)) := ⟨bQr.cell 0, bQr.cell 1, bQr.cell 2⟩
      have k0 := bBr.cell 0
      have k1 := bBr.cell 1
      have k2 := bBr.cell 2
      have z0 := bBr.frozen 0
      have z1 := bBr.frozen 1
      have z2 := bBr.frozen 2
      have hqne : ¬ q = qb := by have := HQLT.out; omega
      have HPr := Lib.hid (HP6.out.kp (X := fun j => XX j ∨ P j) HK.out.1 (fun j hj => .inr (HPB.out j hj)))
      have HRr := Lib.hid (HK.out.rd IntR.stable HR6.out (fun j hj => .inl (HX5.out j hj)))
      have HKw := Lib.hid (HKX.out.trans (HK.out.mono fun j hj => .inl (HX1.out j hj)))
      have HWB := Lib.hid HH.out.bel
      have HNX := Lib.hid (fun j (hj : X j) => HH.out.lt hj)
      have HNP := Lib.hid (fun j (hj : PoolB p o l go gl j) => HH.out.ltP (HPB.out j hj))
      clear bQr bBr HCL HMU HN HR HSX
      go_wp2_with fail
      refine bodyPost_ret (v := .tuple #[.agg #[.slice A5 i c5, .int .u64 (G : Int), .int .i64 (size : Int)], .int .i64 0]) (by simp [results, Tryz.results40, go_sem, *]) rfl ?_
      have hKq : ∀ (x y z : Value), Keep (fun j => j = q) wr (((wr.setCell ⟨q, 0, none⟩ x).setCell ⟨q, 1, none⟩ y).setCell ⟨q, 2, none⟩ z) := fun x y z =>
        Keep.setCell (Keep.setCell (Keep.setCell (Keep.refl (fun j => j = q) wr) (p := ⟨q, 0, none⟩) (fun _ => rfl) x) (p := ⟨q, 1, none⟩) (fun _ => rfl) y) (p := ⟨q, 2, none⟩) (fun _ => rfl) z
      have hq1 := HQ.out
      have hs0 := HWB.out.size
      unfold BPutE
      rw [HMM.out, HPS.out, HG2.out]
      have hs56 := HK.out.2
      have hsq := (hKq (.slice A5 i c5) (.int .u64 (G : Int)) (.int .i64 (size : Int))).size
      have h6 := HWS6.out
      have h14 := HW14.out
      refine ⟨A5, c5, fun j => w4.heap.size ≤ j ∧ j < w5.heap.size, rfl, hc5, HRr.out.keep IntR.stable (hKq _ _ _) (fun j hj e => by have h2 : w4.heap.size ≤ j := hj.1; omega), (fun j hj => by have h2 := hj.1; have h3 := hj.2; have h4 := HS56.out; omega), HPr.out.keep (hKq _ _ _) (fun j hj e => by have := HNP.out j hj; omega), (HM.out.own (hKq _ _ _) (fun j hj => by subst hj; exact ⟨HXQ.out, by omega⟩)).sub (fun j hj => hj.elim (HX1.out j) (HX5.out j)), HKw.out.trans ⟨fun j hj => (hKq _ _ _).block j (by have := HNX.out j hj; have := HK.out.2; have := HWS6.out; omega) (fun e => by have := HNX.out j hj; omega), (hKq _ _ _).size⟩⟩
end
end Go.Proofs.YtcliejdiaohamaaGreat

set_option linter.unusedSimpArgs false
set_option linter.unusedVariables false
namespace Go.Proofs.YtcliejdiaohamaaGreat
open Go.RowKit Go.Cib
attribute [local go_sem] cell_set Later.cell Later.frozen Grw.cell Grw.frozen
section
variable {w w' : World} {cb bf k m : Nat}
theorem bcnt_b (h : CodAt w cb bf k m) {size : Int} (hs : Hid (size < 9223372036854775808)) : Calls Tryz.prog 35 #[.pointer (some ⟨cb, 0, none⟩), .int .i64 size] w fun e w' => e = .returned (.int .i64 (cntI k size)) ∧ Below w.heap.size w w' := (bcnt_any h hs).mono fun e w' ⟨h1, h2⟩ => ⟨h1, by rw [h2]; exact Below.refl _ _⟩
def nonB (ps : List Int) : Bool := ps.all fun x => decide (0 ≤ x)
def rightB (k : Nat) (ps : List Int) (size : Int) : Bool := nonB ps && (decide (0 ≤ size) && (decide (size ≤ 400) && decide ((ps.length : Int) = cntI k size)))
theorem nonB_take {ps : List Int} {i : Nat} {x : Int} (h : nonB (ps.take i) = true) (hx : ps[i]? = some x) : nonB (ps.take (i + 1)) = decide (0 ≤ x) := by
  unfold nonB at h ⊢
  rw [List.take_add_one, hx, List.all_append, h]
  simp
theorem nonB_no {ps : List Int} {i : Nat} {x : Int} (hx : ps[i]? = some x) (h : x < 0) : nonB ps = false := by
  unfold nonB
  rw [List.all_eq_false]
  exact ⟨x, List.mem_of_getElem? hx, by simp; omega⟩
set_option maxRecDepth 100000 in
set_option maxHeartbeats 8000000 in
theorem right_any (h : CodAt w cb bf k m) {S : Nat → Prop} {A : Option Addr} {n c : Nat} {gen size : Int} {ps : List Int} (R : RdL IntR 1 S w A n ps) (hn : n ≤ 1000000) :
    Calls Tryz.prog 37 #[.pointer (some ⟨cb, 0, none⟩), .agg (blobC A n c gen size)] w fun e w' => e = .returned (.bool (rightB k ps size)) ∧ Below w.heap.size w w' := by
  have bB := BoxAt.new w (blobC A n c gen size) 61
  have hb1 : Below w.heap.size w (w.alloc (.cells (blobC A n c gen size) 61)) := (Below.refl _ _).alloc (Nat.le_refl _) _
  obtain ⟨w1, hw1⟩ : ∃ w1, w.alloc (.cells (blobC A n c gen size) 61) = w1 := ⟨_, rfl⟩
  obtain ⟨q, hq⟩ : ∃ q, w.heap.size = q := ⟨_, rfl⟩
  rw [hw1] at bB hb1
  rw [hq] at bB
  have HC1 := Lib.hid (h.below hb1)
  have HR1 := Lib.hid (R.below IntR.stable hb1)
  have hnl := R.1
  have HNL := Lib.hid hnl
  have HB1 := Lib.hid hb1
  have BB := Lib.hid bB
  have hql := bB.lt
  have c1 : w1.cell? ⟨q, 0, none⟩ = some (.slice A n c) ∧ w1.cell? ⟨q, 2, none⟩ = some (.int .i64 size) := ⟨bB.cell 0, bB.cell 2⟩
  have q2 : (n : Int) ≤ 1000000 := by omega
  clear h R hnl hb1 bB
  unfold blobC at hw1 ⊢
  go_enter Tryz.func37, Tryz.ntmps37
  go_wp2_with fail
  clear hw1
  go_loopw [10] (fun vi wr => ∃ i : Nat, i ≤ n ∧ vi = .int .i64 (i : Int) ∧ wr = w1 ∧ Hid (nonB (ps.take i) = true)) (fun vi _ => n - (intOf vi).toNat)
  case atStart => exact ⟨0, Nat.zero_le _, rfl, rfl, Lib.hid rfl⟩
  case round =>
    obtain ⟨i, hi, rfl, hwr, HI⟩ := hrel
    rw [hwr]
    clear hwr
    have p0 : (0 : Int) ≤ (i : Int) := Int.natCast_nonneg _
    by_cases hlt : i < n
    · have p1 : (i : Int) < (n : Int) := by omega
      obtain ⟨ba, oa, rfl, _, hba⟩ := HR1.out.addr hlt
      obtain ⟨x, hx, v1⟩ := int_at1 HR1.out hlt
      by_cases hneg : x < 0
      · have HF := Lib.hid (show rightB k ps size = false by unfold rightB; rw [nonB_no hx hneg]; rfl)
        clear hx
        go_wp2_with fail
        go_ret
        exact ⟨by rw [HF.out]; rfl, HB1.out⟩
      · have HI2 := Lib.hid (show nonB (ps.take (i + 1)) = true by rw [nonB_take HI.out hx]; exact decide_eq_true (by omega))
        clear hx HI
        go_wp2_with fail
        exact ⟨⟨i + 1, by omega, by go_num, trivial, HI2⟩, by simp [intOf]; omega⟩
    · have p1 : ¬ (i : Int) < (n : Int) := by omega
      obtain rfl : i = n := by omega
      have hnb : nonB ps = true := by have h1 := HI.out; rwa [List.take_of_length_le (by have := HNL.out; omega)] at h1
      have hrb : rightB k ps size = (decide (0 ≤ size) && (decide (size ≤ 400) && decide ((i : Int) = cntI k size))) := by unfold rightB; rw [hnb, HNL.out, Bool.true_and]
      have hcn := fun hs => fun (y : Later w1.heap.size w1) => bcnt_b (HC1.out.below y.ok) (size := size) hs
      have HRB := Lib.hid hrb
      clear hnb hrb HI
      by_cases h0 : size ≥ 0
      · by_cases h4 : size ≤ 400
        · have hcn2 := hcn (Lib.hid (by omega))
          obtain ⟨ci, hci⟩ : ∃ ci, cntI k size = ci := ⟨_, rfl⟩
          rw [hci] at hcn2
          have HF := Lib.hid (show rightB k ps size = ((i : Int) == ci) by rw [HRB.out, decide_eq_true h0, decide_eq_true h4, hci]; simp [decide_eq_true_eq, beq_iff_eq] <;> rfl)
          clear hcn hci
          go_wp2_with fail
          refine wp_region_later (by kernel_rfl) (by kernel_rfl) ?_
          repeat (go_big_quiet_step ((go_at_call 35; exact Later.call _ (hcn2 _) (Nat.le_refl _))))
          refine wpQuiet_nil ?_
          rintro _ ⟨z, rfl⟩
          clear hcn2
          go_wp2_with fail
          go_ret
          exact ⟨by rw [HF.out]; rfl, HB1.out.trans (z.ok.mono HB1.out.size)⟩
        · have HF := Lib.hid (show rightB k ps size = false by rw [HRB.out, decide_eq_false h4]; simp)
          have f4 : decide (size ≤ 400) = false := decide_eq_false h4
          clear hcn
          go_wp2_with fail
          refine wp_region_later (by kernel_rfl) (by kernel_rfl) ?_
          repeat (go_big_quiet_step (fail))
          refine wpQuiet_nil ?_
          rintro _ ⟨z, rfl⟩
          go_wp2_with fail
          go_ret
          exact ⟨by rw [HF.out]; rfl, HB1.out.trans (z.ok.mono HB1.out.size)⟩
      · have HF := Lib.hid (show rightB k ps size = false by rw [HRB.out, decide_eq_false (by omega : ¬ 0 ≤ size)]; rfl)
        have f0 : decide (size ≥ 0) = false := decide_eq_false h0
        clear hcn
        go_wp2_with fail
        refine wp_region_later (by kernel_rfl) (by kernel_rfl) ?_
        repeat (go_big_quiet_step (fail))
        refine wpQuiet_nil ?_
        rintro _ ⟨z, rfl⟩
        go_wp2_with fail
        go_ret
        exact ⟨by rw [HF.out]; rfl, HB1.out.trans (z.ok.mono HB1.out.size)⟩
attribute [local go_sem ↓] run_min_b
set_option maxRecDepth 100000 in
set_option maxHeartbeats 4000000 in
theorem long_any {A : Option Addr} {n c rm i : Nat} {gen size : Int} (hr : rm ≤ 20000) (hi : i ≤ 1000000) (hs : 0 ≤ size ∧ size ≤ 1000000) :
    Calls Tryz.prog 112 #[.agg (blobC A n c gen size), .int .i64 (rm : Int), .int .i64 (i : Int)] w fun e w' => e = .returned (.int .i64 (min (rm : Int) (size - ((i * rm : Nat) : Int)))) ∧ Below w.heap.size w w' := by
  have bB := BoxAt.new w (blobC A n c gen size) 61
  have hb1 : Below w.heap.size w (w.alloc (.cells (blobC A n c gen size) 61)) := (Below.refl _ _).alloc (Nat.le_refl _) _
  obtain ⟨w1, hw1⟩ : ∃ w1, w.alloc (.cells (blobC A n c gen size) 61) = w1 := ⟨_, rfl⟩
  obtain ⟨q, hq⟩ : ∃ q, w.heap.size = q := ⟨_, rfl⟩
  rw [hw1] at bB hb1
  rw [hq] at bB
  have c1 : w1.cell? ⟨q, 2, none⟩ = some (.int .i64 size) := bB.cell 2
  have HB1 := Lib.hid hb1
  have hmul : i * rm ≤ 1000000 * 20000 := Nat.mul_le_mul hi hr
  obtain ⟨x, hx⟩ : ∃ x, i * rm = x := ⟨_, rfl⟩
  have hxI : (i : Int) * (rm : Int) = (x : Int) := by rw [← hx]; push_cast; rfl
  rw [hx] at hmul ⊢
  have f1 : IntKind.i64.wrap (x : Int) = (x : Int) := by rw [IntKind.wrap_i64]; omega
  have f2 : IntKind.i64.wrap (size - (x : Int)) = size - (x : Int) := by rw [IntKind.wrap_i64]; omega
  clear hb1 bB hx hmul hs
  unfold blobC at hw1 ⊢
  go_enter Tryz.func112, Tryz.ntmps112
  go_wp2_with fail
  go_ret
  exact ⟨rfl, HB1.out⟩
end
end Go.Proofs.YtcliejdiaohamaaGreat
