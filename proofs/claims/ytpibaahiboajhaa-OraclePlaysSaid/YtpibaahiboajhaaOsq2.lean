/-
  slices.Collect(maps.Keys(m)) for keys of the kind uint64.
-/
import Derived.Test.YtpibaahiboajhaaOsq1
import Derived.Shelf.SlIter.Collect
set_option linter.unusedSimpArgs false
set_option linter.unusedVariables false
namespace Go.Proofs.Ytpibaahiboajhaa
open Go.RowKit Go.Cib
attribute [local go_sem] cell_set Later.cell Later.frozen Grw.cell Grw.frozen
open Go.Maps Go.Sort Go.Shelf Go.Proofs

theorem rf_gen {F : Fence} {n : Nat} {P : Program} {g : Operand} {ps : Array Tmp} {AS BD : Code} {Q : Exit → Act → World → Prop} {a : Act} {w : World}
    (h : ∀ A B, A = AS → B = BD → (Code.rangeFunc g ps A B).wpIn F n P Q a w) : (Code.rangeFunc g ps AS BD).wpIn F n P Q a w := h _ _ rfl rfl

theorem wpIn_eq {F : Fence} {n : Nat} {P : Program} {c c' : Code} {Q : Exit → Act → World → Prop} {a : Act} {w : World} (h : c = c') (hw : c'.wpIn F n P Q a w) : c.wpIn F n P Q a w := h ▸ hw
/-- The record of the one loop over a function: what stood in the slots when it was entered, and where what comes is gathered. -/
def gRec (AS BD : Code) (fn : FuncId) (sv : Value) (Bs D : Nat) (st : LoopState) : Loop :=
  { state := st, pending := none, fn, tmps := #[.slice none 0 0, sv, .pointer (some ⟨Bs, 0, none⟩), undef, .slice none 0 0, undef, sv, undef, undef, undef, undef, undef, undef], params := #[7], assign := AS, body := BD, defers := D }
/-- Between two rounds: what has come lies in a row of the call's own. -/
structure Gath (w0 : World) (lp : LoopState → Loop) (Bs l D : Nat) (ss : List Int) (W : World) : Prop where
  row : ∃ v, W.heap[Bs]? = some (.cells #[v] 38 (0, 0)) ∧ W.ownsRow w0.heap.size 22 1 v ss.length (ss.map (Value.int .u64))
  loop : W.heap[l]? = some (.loop (lp .ready))
  dfr : W.heap[D]? = some (.deferred (some []))
  old : Below w0.heap.size w0 W
theorem Gath.abides {B : Nat} {w0 : World} {lp : LoopState → Loop} {Bs l D : Nat} (hB : w0.heap.size ≤ B) : AbidesFrom B (Gath w0 lp Bs l D) := fun s W W' row h hg hrow => by
  have hw : ∀ r, row = some r → ∃ o : Obj, W.heap[r]? = some o ∧ o.isWalk = true := fun r e => (hrow r e).2
  obtain ⟨v, hv, hr⟩ := h.row
  exact ⟨⟨v, (grownBy_keeps hg hw hv rfl).trans hv, ownsRow_abides_a hr hg hw⟩, (grownBy_keeps hg hw h.loop rfl).trans h.loop, (grownBy_keeps hg hw h.dfr rfl).trans h.dfr,
    h.old.grown hg h.old.size (fun k e => Nat.le_trans hB (hrow k e).1)⟩
theorem ne_cells {v : Value} {T : TypeId} {T' : TypeId} (h : T ≠ T') : ∀ cur, (Obj.cells #[v] T (0, 0)) ≠ .cells cur T' (0, 0) := fun cur e => h (Obj.cells.inj e).2.1
theorem tU_ne : (38 : TypeId) ≠ (22 : TypeId) := by decide
theorem slTyU : SlTy Try.prog 38 22 (.int .u64 0) 1 8 := ⟨by kernel_rfl, by kernel_rfl, by kernel_rfl, by omega⟩
theorem infoU : ∃ i : TypeInfo, Try.prog.info? 22 = some i ∧ i.zero = some (.int .u64 0) ∧ i.size = 1 ∧ i.bytes = 8 := by
  have h := slTyU.info
  cases hi : Try.prog.info? 22 with
  | none => rw [hi] at h; cases h
  | some i =>
    rw [hi] at h
    simp only [Option.map_some, Option.some.injEq, Prod.mk.injEq] at h
    exact ⟨i, rfl, h.1, h.2.1, h.2.2⟩

set_option maxRecDepth 100000 in
set_option maxHeartbeats 4000000 in
theorem appendU_any (n : Nat) (hn : 3 ≤ n) (Bm b : Nat) (es : List (Int × Value)) (hlen : es.length ≤ 1000000) (w : World) (hBm : Bm < w.heap.size) (hm : w.cell? ⟨Bm, 0, none⟩ = some (.map (some b))) (hma : MapAt (Value.int .u64) w b es) :
    CallsIn Fence.wide n Try.prog 130 #[.slice none 0 0, .func (.func 107) #[] #[.pointer (some ⟨Bm, 0, none⟩)]] w fun e w' =>
      ∃ (v : Value) (ss : List Int), e = .returned v ∧ ss.Perm (es.map (·.1)) ∧ w'.ownsRow w.heap.size 22 1 v ss.length (ss.map (Value.int .u64)) ∧ Below w.heap.size w w' := by
  refine callsIn_of_wp_marks Try.func130 rfl trivial ?_ rfl
  simp only [Try.ntmps130, List.size_toArray, List.length_cons, List.length_nil, Nat.reduceAdd, Nat.reduceSub, Array.replicate_succ, Array.replicate_zero, List.push_toArray, List.append_toArray, List.nil_append, List.cons_append]
  have HMA := Lib.hid hma
  have HM := Lib.hid hm
  clear hma hm
  gi_wp2
  refine rf_gen fun AS BD hAS hBD => ?_
  have HAS := Lib.hid hAS
  have HBD := Lib.hid hBD
  clear hAS hBD
  obtain ⟨sv, hsv⟩ : ∃ sv, Value.func (.func 107) #[] #[.pointer (some ⟨Bm, 0, none⟩)] = sv := ⟨_, rfl⟩
  rw [hsv]
  -- one round
  have ROUND : ∀ (fn : FuncId) (Bs l D : Nat), Bs ≠ l → D ≠ l → D ≠ Bs → w.heap.size ≤ Bs → w.heap.size ≤ l → ∀ (m : Nat) (ss : List Int) (x : Int) (W : World), ss.length < es.length → Gath w (gRec AS BD fn sv Bs D) Bs l D ss W →
      YieldAt Fence.wide m Try.prog l #[.int .u64 x] W fun e W' => e = .returned (.bool true) ∧ Gath w (gRec AS BD fn sv Bs D) Bs l D (ss ++ [x]) W' ∧ KeepsWalks W W' := by
    clear hsv HMA HM
    intro fn Bs l D hBl hDl hDB hwB hwl m ss x W hlt h
    obtain ⟨v, hv, hrow⟩ := h.row
    refine ⟨fn, #[.slice none 0 0, sv, .pointer (some ⟨Bs, 0, none⟩), undef, .slice none 0 0, undef, sv, .int .u64 x, undef, undef, undef, undef, undef], AS, BD, by simpa [gRec] using run_yield (P := Try.prog) (args := #[.int .u64 x]) h.loop rfl, roundIn_of_wpIn trivial ?_⟩
    have hbr := run_beginRound (P := Try.prog) h.loop rfl
    have hl : l < W.heap.size := (Array.getElem?_eq_some_iff.1 h.loop).1
    obtain ⟨W2, hW2⟩ : ∃ W2, W.putObj l (.loop { gRec AS BD fn sv Bs D .ready with state := .busy }) = W2 := ⟨_, rfl⟩
    rw [hW2] at hbr
    have hg2 : W.grownBy W2 (some l) := by rw [← hW2]; exact grownBy_putObj_a _ _ _
    have hk2 : KeepsWalks W W2 := by rw [← hW2]; exact KeepsWalks.putObj _ h.loop rfl
    have hv2 : W2.heap[Bs]? = some (.cells #[v] 38 (0, 0)) := by rw [← hW2]; exact (World.putObj_heap_other hBl).trans hv
    have hD2 : W2.heap[D]? = some (.deferred (some [])) := by rw [← hW2]; exact (World.putObj_heap_other hDl).trans h.dfr
    have hL2 : W2.heap[l]? = some (.loop { gRec AS BD fn sv Bs D .ready with state := .busy }) := by rw [← hW2]; exact World.putObj_heap_same hl
    have hrow2 := hrow.kept hg2 (ownsRow_ne_a hrow h.loop (fun cur e => by cases e))
    have hb2 : Below w.heap.size w W2 := h.old.grown hg2 h.old.size (fun k e => by cases e; exact hwl)
    obtain ⟨hc2, hf2⟩ := cell_of_box_a hv2
    have hBlt : Bs < W2.heap.size := (Array.getElem?_eq_some_iff.1 hv2).1
    have hl2 : l < W2.heap.size := (Array.getElem?_eq_some_iff.1 hL2).1
    have hDlt : D < W2.heap.size := (Array.getElem?_eq_some_iff.1 hD2).1
    have apart : ∀ {j : Nat} {o : Obj}, W2.heap[j]? = some o → (∀ cur, o ≠ .cells cur 22 (0, 0)) → some j ≠ v.ownBlock := fun hj hno => by
      rcases ownsRow_ne_a hrow2 hj hno with e | e
      · rw [e]; simp
      · exact fun e' => e e'.symm
    obtain ⟨i0, hi, hz0, hz1, hz2⟩ := infoU
    have HR2 := Lib.hid hrow2
    have HB2 := Lib.hid hb2
    have HK2 := Lib.hid hk2
    clear hW2 hrow hrow2 hb2 hk2 hg2 hv h
    refine wpIn_eq HAS.out ?_
    gi_wp2_with gi_round_op_a
    refine wpIn_eq HBD.out ?_
    gi_wp2_with (first
      | (gi_at_builtin; refine wpListIn_append_own _ rfl _ _ 38 rfl w.heap.size 22 i0 (.int .u64 0) 1 8 slTyU.und hi hz0 hz1 hz2 rfl (by decide) _ _ _ rfl (HR2.out.alloc _) ⟨W2.heap.size, 0, none⟩ 1 1 [.int .u64 x] rfl rfl (cell_one_new _ _ _) (by simp [Value.oneCell']) (by unfold maxLen; omega) (by omega) (by have := HB2.out.size; simp; omega) ?_; intro v' w3 hown' hg3 hnil3
         have hv3 : w3.heap[Bs]? = some (.cells #[v] 38 (0, 0)) := (hg3.block Bs (by simp; omega) (apart hv2 (ne_cells tU_ne))).trans ((Below.heap_alloc _ _ Bs hBlt).trans hv2)
         have hL3 := (hg3.block l (by simp; omega) (apart hL2 (fun cur e => by cases e))).trans ((Below.heap_alloc _ _ l hl2).trans hL2)
         have hD3 := (hg3.block D (by simp; omega) (apart hD2 (fun cur e => by cases e))).trans ((Below.heap_alloc _ _ D hDlt).trans hD2)
         have hb3 : Below w.heap.size w w3 := (HB2.out.alloc HB2.out.size _).grown hg3 (by have := HB2.out.size; simp; omega) (fun k e => (HR2.out.lt k e).1)
         obtain ⟨A', m', c', rfl⟩ : ∃ A' m' c', v' = .slice A' m' c' := by
           rcases hown'.2 with ⟨h0, _⟩ | ⟨g, cap, cur, h0, _⟩
           · exact ⟨_, _, _, h0⟩
           · exact ⟨_, _, _, h0⟩
         have hk3 := (KeepsWalks.alloc W2 _).trans (KeepsWalks.of_grownBy hg3 (ownsRow_not_walk_a (HR2.out.alloc _)))
         obtain ⟨hc3, hf3⟩ := cell_of_box_a hv3
         have HO3 := Lib.hid hown'
         have HV3 := Lib.hid hv3
         have HL3 := Lib.hid hL3
         have HD3 := Lib.hid hD3
         have HB3 := Lib.hid hb3
         have HK3 := Lib.hid hk3
         clear hown' hg3 hnil3 hv3 hL3 hD3 hb3 hk3
         go_frame)
      | gi_round_op_a)
    obtain ⟨w4, hw4⟩ : ∃ w4, w3.setCell ⟨Bs, 0, none⟩ (.slice A' m' c') = w4 := ⟨_, rfl⟩
    rw [hw4]
    have hg4 : w3.grownBy w4 (some Bs) := by rw [← hw4]; exact grownBy_setCell0_a _ _ _
    have hv4 : w4.heap[Bs]? = some (.cells #[.slice A' m' c'] 38 (0, 0)) := by rw [← hw4]; exact heap_setCell_box_a _ HV3.out
    have hk4 : KeepsWalks W w4 := (HK2.out.trans HK3.out).trans (by rw [← hw4]; exact KeepsWalks.setCell _ _ _)
    have hL4 := (hg4.block l (Array.getElem?_eq_some_iff.1 HL3.out).1 (fun e => hBl (by cases e; rfl))).trans HL3.out
    have hD4 := (hg4.block D (Array.getElem?_eq_some_iff.1 HD3.out).1 (fun e => hDB (by cases e; rfl))).trans HD3.out
    have hrow4 := HO3.out.kept hg4 (ownsRow_ne_a HO3.out HV3.out (ne_cells tU_ne))
    have hb4 : Below w.heap.size w w4 := HB3.out.grown hg4 HB3.out.size (fun k e => by cases e; exact hwB)
    have hl4 := (Array.getElem?_eq_some_iff.1 hL4).1
    clear hw4
    refine ⟨_, _, run_endRound none hL4, rfl, ⟨⟨_, (World.putObj_heap_other hBl).trans hv4, ?_⟩, World.putObj_heap_same hl4, (World.putObj_heap_other hDl).trans hD4, hb4.grown (grownBy_putObj_a _ _ _) hb4.size (fun k e => by cases e; exact hwl)⟩, hk4.trans (KeepsWalks.putObj _ hL4 rfl)⟩
    have := hrow4.kept (grownBy_putObj_a w4 l (.loop { { gRec AS BD fn sv Bs D .ready with state := .busy } with state := if (none : Option Code).isNone then .ready else .done, pending := none })) (ownsRow_ne_a hrow4 hL4 (fun cur e => by cases e))
    simpa using this
  refine wpIn_rangeFunc ?_
  intro fn hfn
  obtain ⟨W0, hW0⟩ : ∃ W0, w.alloc (.cells #[.slice none 0 0] 38) = W0 := ⟨_, rfl⟩
  have hs0 : W0.heap.size = w.heap.size + 1 := by rw [← hW0]; simp
  have hv0 : W0.heap[w.heap.size]? = some (.cells #[.slice none 0 0] 38 (0, 0)) := by rw [← hW0]; exact World.alloc_heap_new w _
  have hb0 : Below w.heap.size w W0 := by rw [← hW0]; exact (Below.refl _ w).alloc (Nat.le_refl _) _
  rw [hW0]
  obtain ⟨W1, hW1⟩ : ∃ W1, (W0.alloc (.deferred (some []))).alloc (.loop (gRec AS BD fn sv w.heap.size W0.heap.size .ready)) = W1 := ⟨_, rfl⟩
  have hold : ∀ k, k < W0.heap.size → W1.heap[k]? = W0.heap[k]? := fun k hk => by
    rw [← hW1]; exact (Below.heap_alloc _ _ k (by simp; omega)).trans (Below.heap_alloc _ _ k hk)
  have hb1 : Below w.heap.size w W1 := by rw [← hW1]; exact (hb0.alloc hb0.size _).alloc (by have := hb0.size; simp; omega) _
  have hM : Gath w (gRec AS BD fn sv w.heap.size W0.heap.size) w.heap.size (W0.heap.size + 1) W0.heap.size [] W1 :=
    ⟨⟨_, (hold w.heap.size (by omega)).trans hv0, ⟨rfl, .inl ⟨rfl, rfl⟩⟩⟩,
     by rw [← hW1]; have := World.alloc_heap_new (W0.alloc (.deferred (some []))) (.loop (gRec AS BD fn sv w.heap.size W0.heap.size .ready)); rwa [World.size_alloc] at this,
     by rw [← hW1]; exact (Below.heap_alloc _ _ _ (by simp)).trans (World.alloc_heap_new W0 _), hb1⟩
  refine ⟨W0.heap.size + 1, [{ target := .collected W0.heap.size, args := #[] }], W1, { target := .fn (.func 107) #[.pointer (some ⟨Bm, 0, none⟩)], args := #[.func (.yield (W0.heap.size + 1)) #[] #[]] }, W1, 107,
    #[.func (.yield (W0.heap.size + 1)) #[] #[], .pointer (some ⟨Bm, 0, none⟩)], W1, ?_, ?_, ?_, ?_, fun _ => by omega, ?_⟩
  · rw [← hW1]; exact run_enterLoop_outer _ _ _ _ _
  · rw [← hsv]; simp [resolve, go_sem]
  · intro f' hf'; exact trivial
  · have eg := enters_of Try.func107 (by kernel_rfl) rfl
    simp [invoke, go_sem, eg]
  · refine (keysU_rounds (n - 1) (by omega) (W0.heap.size + 1) Bm b es _ (fun pre x W hJ hlt => ROUND fn w.heap.size (W0.heap.size + 1) W0.heap.size (by omega) (by omega) (by omega) (Nat.le_refl _) (by omega) (n - 1 - 1) pre x W hlt hJ) W1 (Gath.abides hb1.size) ((hb1.cell (p := ⟨Bm, 0, none⟩) hBm).trans HM.out) (HMA.out.below hb1) hM).mono ?_
    rintro e W2 ⟨⟨v0, rfl⟩, ss, hS, h2⟩
    obtain ⟨v, hv, hrow⟩ := h2.row
    have hend := run_endLoop (P := Try.prog) h2.loop (by simp [gRec])
    obtain ⟨W3, hW3⟩ : ∃ W3, W2.putObj (W0.heap.size + 1) (.loop { gRec AS BD fn sv w.heap.size W0.heap.size .ready with state := .exhausted }) = W3 := ⟨_, rfl⟩
    rw [hW3] at hend
    have hg3 : W2.grownBy W3 (some (W0.heap.size + 1)) := by rw [← hW3]; exact grownBy_putObj_a _ _ _
    have hv3 : W3.heap[w.heap.size]? = some (.cells #[v] 38 (0, 0)) := by rw [← hW3]; exact (World.putObj_heap_other (by omega)).trans hv
    have hK3 : W3.heap[W0.heap.size]? = some (.deferred (some [])) := by rw [← hW3]; exact (World.putObj_heap_other (by omega)).trans h2.dfr
    have hrow3 := hrow.kept hg3 (ownsRow_ne_a hrow h2.loop (fun cur e => by cases e))
    have hb3 : Below w.heap.size w W3 := h2.old.grown hg3 h2.old.size (fun k e => by cases e; omega)
    obtain ⟨hc3, hf3⟩ := cell_of_box_a hv3
    clear hW3
    refine ⟨none, W3, hend, ?_⟩
    have HS := Lib.hid hS
    have HR3 := Lib.hid hrow3
    have HB3 := Lib.hid hb3
    have HK3 := Lib.hid hK3
    clear hS hrow hrow3 hb3 hK3 hend hg3 h2 hv hM hold hb1 hb0 hW1 hW0 hsv ROUND
    gi_wp2
    rw [← hs0]
    refine ⟨by simp, .inl ⟨_, _, rfl, run_takeDeferred HK3.out, ?_⟩⟩
    exact ⟨_, results_tmp rfl _ _ _, v, ss, rfl, HS.out, HR3.out.kept (grownBy_putObj_a _ _ _) (ownsRow_ne_a HR3.out HK3.out (fun cur e => by cases e)), HB3.out.grown (grownBy_putObj_a _ _ _) HB3.out.size (fun k e => by cases e; omega)⟩
end Go.Proofs.Ytpibaahiboajhaa
