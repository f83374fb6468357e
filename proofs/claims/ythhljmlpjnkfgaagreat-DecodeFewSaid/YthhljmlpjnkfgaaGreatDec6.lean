/-
  The first rows of shards, those that are missing made anew.
-/
import Derived.Test.YthhljmlpjnkfgaaGreatDec5
set_option linter.unusedSimpArgs false
set_option linter.unusedVariables false
namespace Go.Proofs.YthhljmlpjnkfgaaGreat
open Go.RowKit Go.Cib
attribute [local go_sem] cell_set Later.cell Later.frozen Grw.cell Grw.frozen

structure OutAt (w : World) (base g n : Nat) (rows : Rws) : Prop where
  cur : ∃ cur : Array Value, BoxAt w g cur ∧ n ≤ cur.size ∧ ∀ i, i < n → ∃ A m c, cur[i]? = some (.slice A m c) ∧ m ≤ c ∧ RdL ByR 1 (fun k => base ≤ k ∧ k ≠ g) w A m (ra rows i)
  len : rows.length = n
  hg : base ≤ g
section
variable {w w' : World} {base g n : Nat} {rows : Rws}
theorem OutAt.below (h : OutAt w base g n rows) (hb : Below w.heap.size w w') : OutAt w' base g n rows := by
  obtain ⟨cur, h1, h2, h3⟩ := h.cur
  refine ⟨⟨cur, h1.below hb, h2, fun i hi => ?_⟩, h.len, h.hg⟩
  obtain ⟨A, m, c, e1, e2, e3⟩ := h3 i hi
  exact ⟨A, m, c, e1, e2, e3.below ByR.stable hb⟩
theorem OutAt.lt (h : OutAt w base g n rows) : g < w.heap.size := by
  obtain ⟨cur, h1, _⟩ := h.cur
  exact h1.lt
theorem OutAt.cellx (h : OutAt w base g n rows) {i : Nat} (hi : i < n) : (∃ v, w.cell? ⟨g, i, none⟩ = some v) ∧ w.frozen? ⟨g, i, none⟩ = false := by
  obtain ⟨cur, h1, h2, h3⟩ := h.cur
  obtain ⟨A, m, c, e1, _⟩ := h3 i hi
  exact ⟨⟨_, (h1.cell i).trans e1⟩, h1.frozen i⟩
theorem OutAt.set (h : OutAt w base g n rows) {i m c : Nat} {A : Option Addr} {r : List Nat} (hi : i < n) (hc : m ≤ c) (hr : RdL ByR 1 (fun k => base ≤ k ∧ k ≠ g) w A m r) :
    OutAt (w.setCell ⟨g, i, none⟩ (.slice A m c)) base g n (rows.set i r) := by
  obtain ⟨cur, h1, h2, h3⟩ := h.cur
  refine ⟨⟨_, h1.set i _, by rw [Array.size_setIfInBounds]; exact h2, fun k hk => ?_⟩, by rw [List.length_set, h.len], h.hg⟩
  rw [ra_set _ _ _ (by rw [h.len]; exact hk)]
  by_cases e : k = i
  · subst e
    rw [if_pos rfl, set_eq (by omega)]
    exact ⟨A, m, c, rfl, hc, hr.setCell ByR.stable (fun h => h.2 rfl) _⟩
  · rw [if_neg e, set_ne (fun h => e h.symm)]
    obtain ⟨A1, m1, c1, e1, e2, e3⟩ := h3 k hk
    exact ⟨A1, m1, c1, e1, e2, e3.setCell ByR.stable (fun h => h.2 rfl) _⟩
theorem OutAt.rd (h : OutAt w base g n rows) : RdL RowR 1 (fun k => base ≤ k) w (some ⟨g, 0, none⟩) n rows := by
  obtain ⟨cur, h1, h2, h3⟩ := h.cur
  refine ⟨h.len, fun _ => ⟨g, 0, rfl, h.hg, h1.lt, fun i x hx => ?_⟩⟩
  have hi : i < n := by rw [← h.len]; exact (List.getElem?_eq_some_iff.1 hx).1
  obtain ⟨A, m, c, e1, e2, e3⟩ := h3 i hi
  rw [ra_some hx] at e3
  refine ⟨[.slice A m c], rfl, ⟨A, m, c, rfl, e2, e3.weaken ByR.stable fun k hk => hk.1⟩, fun j v hj => ?_⟩
  rcases j with _ | j
  · simp at hj; subst hj
    rw [show 0 + i * 1 + 0 = i by omega]
    exact (h1.cell i).trans e1
  · simp at hj
theorem OutAt.made (w : World) (n : Nat) (t : TypeId) : OutAt (w.alloc (.cells (Array.replicate n (.slice none 0 0)) t)) w.heap.size w.heap.size n (List.replicate n []) := by
  refine ⟨⟨_, BoxAt.new _ _ _, by simp, fun i hi => ⟨none, 0, 0, by rw [Array.getElem?_replicate, if_pos hi], Nat.le_refl _, ?_⟩⟩, by simp, Nat.le_refl _⟩
  rw [ra_some (show (List.replicate n ([] : List Nat))[i]? = some [] by rw [List.getElem?_replicate, if_pos hi])]
  exact RdL.nil
end
theorem rowsInfo : (Tryz.prog.info? 29).map (fun i => (i.zero, i.size, i.bytes)) = some (some (.slice none 0 0), 1, 24) := by kernel_rfl
theorem makeRows (k : Nat) (hk : k ≤ 1000000) (w : World) : (Instr.makeSlice 38 (.int .i64 (k : Int)) (.int .i64 (k : Int))).run Tryz.prog w = .ok (.slice (some ⟨w.heap.size, 0, none⟩) k k) (w.alloc (.cells (Array.replicate k (.slice none 0 0)) 29)) := by
  obtain ⟨i, hi, hz, hs, hb⟩ := info_parts rowsInfo
  have h := run_make (P := Tryz.prog) w 38 29 i (.slice none 0 0) (by kernel_rfl) hi hz .i64 .i64 k k (by omega) (by omega) (by rw [hb]; omega) (by omega)
  simp only [Int.toNat_natCast, hs, Nat.mul_one] at h
  rw [h, show (Value.slice none 0 0).cells = #[.slice none 0 0] from rfl, madeCells_r]

def fillOne (k : Nat) (us : List Nat) (ss : Rws) (n i : Nat) : List Nat := if 0 < lenF ss i then ra ss i else madeF (planF k us i) us ss n
def fillU (k : Nat) (us : List Nat) (ss : Rws) (n nr i : Nat) : Rws := (List.range i).map (fillOne k us ss n) ++ List.replicate (nr - i) []
theorem fillU_next {k : Nat} {us : List Nat} {ss : Rws} {n nr i : Nat} (h : i < nr) : (fillU k us ss n nr i).set i (fillOne k us ss n i) = fillU k us ss n nr (i + 1) := by
  unfold fillU
  rw [List.set_append_right _ _ (by simp), List.range_succ, List.map_append, List.append_assoc]
  congr 1
  obtain ⟨d, hd⟩ : ∃ d, nr - i = d + 1 := ⟨nr - i - 1, by omega⟩
  rw [hd, show nr - (i + 1) = d by omega, List.replicate_succ]
  simp
def useT (k N : Nat) (ss : Rws) : List Nat := (thU ss N).take k
def outF (k N nr : Nat) (ss : Rws) : Rws := (List.range nr).map (fillOne k (useT k N ss) ss (lenF ss (gt (useT k N ss) 0)))
def FilE (w : World) (k m N nr : Nat) (ss : Rws) (e : Ending) (w' : World) : Prop := Below w.heap.size w w' ∧
  ((thBad k m N ss = true ∧ e = .returned (.tuple #[.slice none 0 0, .int .i64 2])) ∨
   (thBad k m N ss = false ∧ (thU ss N).length < k ∧ e = .returned (.tuple #[.slice none 0 0, .int .i64 60])) ∨
   (thBad k m N ss = false ∧ ¬ (thU ss N).length < k ∧ ∃ g, e = .returned (.tuple #[.slice (some ⟨g, 0, none⟩) nr nr, .int .i64 0]) ∧ RdL RowR 1 (fun j => w.heap.size ≤ j) w' (some ⟨g, 0, none⟩) nr (outF k N nr ss)))
theorem use_ok {k m N : Nat} {ss : Rws} (hb : thBad k m N ss = false) (hf : ¬ (thU ss N).length < k) (hk : 1 ≤ k) : N = k + m ∧ (useT k N ss).length = k ∧ ∀ u ∈ useT k N ss, u < N ∧ lenF ss u = lenF ss (gt (useT k N ss) 0) := by
  unfold thBad at hb
  rw [Bool.or_eq_false_iff] at hb
  obtain ⟨h1, h2⟩ := hb
  have hul : (useT k N ss).length = k := by unfold useT; rw [List.length_take]; omega
  refine ⟨by simpa using h1, hul, fun u hu => ?_⟩
  have hum : u ∈ thU ss N := List.mem_of_mem_take hu
  refine ⟨(thU_mem hum).1, ?_⟩
  have h3 := List.any_eq_false.1 h2 u hum
  have h4 : gt (useT k N ss) 0 = gt (thU ss N) 0 := by
    unfold useT gt
    rw [List.getD_eq_getElem?_getD, List.getD_eq_getElem?_getD, List.getElem?_take, if_pos (by omega)]
  rw [h4]
  unfold oddB at h3
  simpa using h3
set_option maxRecDepth 100000 in
set_option maxHeartbeats 8000000 in
theorem fill2_any {w : World} {cb b k m N nr cs : Nat} {As : Option Addr} {S : Nat → Prop} {ss : Rws} (H : CodAt w cb b k m) (R : RdL RowR 1 S w As N ss) (hN : N ≤ 1000) (hlen : ∀ i, lenF ss i ≤ 1000000) {g : FuncId} {pre : Array Value} (hnr : nr ≤ k + m)
    (hg : Hid (∀ args w, (callFunc g args).run Tryz.prog w = .ok (.enter g args) w)) (hst : Hid (∀ W, Below w.heap.size w W → Calls Tryz.prog g pre W fun e W' => e = .returned (.int .i64 (nr : Int)) ∧ Below W.heap.size W W'))
    (hI : Hid (thBad k m N ss = false → ¬ (thU ss N).length < k → Inj k (useF k (useT k N ss)))) :
    Calls Tryz.prog 37 #[.pointer (some ⟨cb, 0, none⟩), .slice As N cs, .func (.func g) pre #[]] w fun e w' => FilE w k m N nr ss e w' := by
  have hgg := hg.out
  have HC := Lib.hid H
  have HR := Lib.hid R
  have hk1 := H.k1
  have hm1 := H.m1
  have hkm := H.km
  have q0 : (N : Int) ≤ 1000 := by omega
  have q1 : (nr : Int) ≤ 255 := by omega
  have q2 : (0 : Int) ≤ (nr : Int) := Int.natCast_nonneg _
  have hth := there_any (cs := cs) H R hN
  clear H R
  go_enter Tryz.func37, Tryz.ntmps37
  go_wp2_with fail
  refine hth.mono ?_
  rintro e w1 ⟨hb1, h | h | h⟩
  · obtain ⟨hB, rfl⟩ := h
    have HB := Lib.hid hB
    clear hB hth
    go_wp2_with fail
    go_ret2
    exact ⟨hb1, .inl ⟨HB.out, rfl⟩⟩
  · obtain ⟨hB, hF, rfl⟩ := h
    have HB := Lib.hid hB
    have HF := Lib.hid hF
    clear hB hF hth
    go_wp2_with fail
    go_ret2
    exact ⟨hb1, .inr (.inl ⟨HB.out, HF.out, rfl⟩)⟩
  · obtain ⟨hB, hF, A, c, rfl, hc, hr⟩ := h
    have hinj := hI.out hB hF
    obtain ⟨hNk, hul, huse⟩ := use_ok hB hF hk1
    have HB0 := Lib.hid hB
    have HF := Lib.hid hF
    have hru : RdL NatR 1 (fun j => w.heap.size ≤ j) w1 A k (useT k N ss) := RdL.take hr (by omega)
    have hp := fun w => piece_pre sl_in (A := A) (N := (thU ss N).length) (c := c) (k := k) (by omega) w
    have hnr2 : nr ≤ N := by omega
    have hNle : N ≤ k + m := by omega
    have HU := Lib.hid huse
    have HRU := Lib.hid hru
    have HIN := Lib.hid hinj
    have HHB := Lib.hid hb1
    clear hB hF hth hr hc hNk hinj huse hru
    have hK1 := ck_any (HC.out.below HHB.out)
    go_wp2_with (go_at_call 31; refine hK1.mono ?_; rintro e w9 ⟨rfl, hw9⟩; rw [hw9]; clear hw9 hK1)
    refine (hst.out _ HHB.out).mono ?_
    rintro e w2 ⟨rfl, hb2⟩
    have hb12 := HHB.out.trans (hb2.mono HHB.out.size)
    have hmk := makeRows nr (by omega) w2
    have ho := OutAt.made w2 nr 29
    have hbz : Below w2.heap.size w2 (w2.alloc (.cells (Array.replicate nr (.slice none 0 0)) 29)) := (Below.refl _ _).alloc (Nat.le_refl _) _
    obtain ⟨w3, hw3⟩ : ∃ w3, w2.alloc (.cells (Array.replicate nr (.slice none 0 0)) 29) = w3 := ⟨_, rfl⟩
    rw [hw3] at hmk ho hbz
    obtain ⟨go, hgo⟩ : ∃ go, w2.heap.size = go := ⟨_, rfl⟩
    rw [hgo] at hmk ho
    have hu0 : fillU k (useT k N ss) ss (lenF ss (gt (useT k N ss) 0)) nr 0 = List.replicate nr [] := by unfold fillU; simp
    rw [← hu0] at ho
    have HO := Lib.hid ho
    have HBw := Lib.hid (hb12.trans (hbz.mono hb12.size))
    have hru3 : RdL NatR 1 (fun j => w.heap.size ≤ j ∧ j ≠ go) w3 A k (useT k N ss) := RdL.stable NatR.stable HRU.out fun b hS hlt => ⟨⟨hS, by have := hb2.size; omega⟩, (hb2.trans (hbz.mono hb2.size)).block b hlt⟩
    have HRU3 := Lib.hid hru3
    have hwg : w.heap.size ≤ go := by have := hb12.size; omega
    clear ho hbz hw3 hgo hu0 hb12 hb2 hru3
    go_wp2_with fail
    clear hmk hp
    go_loopw [33] (fun vi wr => ∃ i : Nat, i ≤ nr ∧ vi = .int .i64 i ∧ Hid (OutAt wr go go nr (fillU k (useT k N ss) ss (lenF ss (gt (useT k N ss) 0)) nr i)) ∧ Hid (Below w.heap.size w wr) ∧ Hid (RdL NatR 1 (fun j => w.heap.size ≤ j ∧ j ≠ go) wr A k (useT k N ss))) (fun vi _ => nr - (intOf vi).toNat)
    case atStart => exact ⟨0, Nat.zero_le _, rfl, HO, HBw, HRU3⟩
    case round =>
      clear HO HBw HRU3
      obtain ⟨i, hi, rfl, HO, HB, HRu⟩ := hrel
      have p0 : (0 : Int) ≤ (i : Int) := Int.natCast_nonneg _
      by_cases hlt : i < nr
      · have p1 : (i : Int) < (nr : Int) := by omega
        have hiN : i < N := by omega
        have p9 : (i : Int) < (N : Int) := by omega
        obtain ⟨bb, o, rfl, _, hbb⟩ := HR.out.addr hiN
        obtain ⟨A1, m1, c1, v1, hmc1, r1⟩ := row_at HR.out hiN
        have c1' := (HB.out.cell (p := ⟨bb, o + i, none⟩) hbb).trans v1
        have hm1' : lenF ss i = m1 := r1.1
        have hml := hlen i
        have hfx := fillU_next (k := k) (us := useT k N ss) (ss := ss) (n := lenF ss (gt (useT k N ss) 0)) hlt
        have HFX := Lib.hid hfx
        by_cases hpos : 0 < m1
        · have p2 : (m1 : Int) > 0 := by omega
          have hone : fillOne k (useT k N ss) ss (lenF ss (gt (useT k N ss) 0)) i = ra ss i := by unfold fillOne; rw [if_pos (by omega)]
          have hcl := cloneB_any (c := c1) (Lib.hid (r1.below ByR.stable HB.out)) (by omega)
          have HONE := Lib.hid hone
          clear hone hfx v1 r1
          go_wp2_with (go_at_call 61; refine hcl.mono ?_; rintro e w5 ⟨A5, c5, rfl, hc5, hr5, hb5⟩; have ho5 := HO.out.below hb5; obtain ⟨⟨v5, hv5⟩, f5⟩ := ho5.cellx hlt; have hs5 := HO.out.lt; have hst5 := ho5.set (i := i) hlt hc5 (hr5.weaken ByR.stable (fun j hj => ⟨(by have h9 : wr.heap.size ≤ j := hj; omega), (by have h9 : wr.heap.size ≤ j := hj; omega)⟩)); rw [← HONE.out, HFX.out] at hst5; have HO5 := Lib.hid hst5; have HB5 := Lib.hid ((HB.out.trans (hb5.mono HB.out.size)).setCell (p := ⟨go, i, none⟩) hwg (.slice A5 m1 c5)); have HR5 := Lib.hid ((HRu.out.below NatR.stable hb5).setCell NatR.stable (p := ⟨go, i, none⟩) (fun h => h.2 rfl) (.slice A5 m1 c5)); clear hcl hr5 hb5 ho5 hst5)
          exact ⟨⟨i + 1, by omega, by go_num, HO5, HB5, HR5⟩, by simp [intOf]; omega⟩
        · have p2 : ¬ (m1 : Int) > 0 := by omega
          have hone : fillOne k (useT k N ss) ss (lenF ss (gt (useT k N ss) 0)) i = madeF (planF k (useT k N ss) i) (useT k N ss) ss (lenF ss (gt (useT k N ss) 0)) := by unfold fillOne; rw [if_neg (by omega)]
          have hpl := plan_any (c := c) (HC.out.below HB.out) HRu.out (fun u hu => by have := (HU.out u hu).1; omega) HIN.out (want := i) (by omega)
          have HONE := Lib.hid hone
          have hnl := hlen (gt (useT k N ss) 0)
          clear hone hfx v1 r1
          go_wp2_with fail
          refine hpl.mono ?_
          rintro e w5 ⟨A5, c5, rfl, hc5, hr5, hb5⟩
          have hb05 := HB.out.trans (hb5.mono HB.out.size)
          have hma := made_any (cs := cs) (cu := c) (cw := c5) (HC.out.below hb05) (HR.out.below RowR.stable hb05) (HRu.out.below NatR.stable hb5) hr5 (n := lenF ss (gt (useT k N ss) 0)) (fun u hu => ⟨(HU.out u hu).1, (HU.out u hu).2⟩) hnl
          have ho5 := HO.out.below hb5
          have hs5 := HO.out.lt
          have HO5 := Lib.hid ho5
          have HR5 := Lib.hid (HRu.out.below NatR.stable hb5)
          have HB5 := Lib.hid hb05
          have hsz5 := hb5.size
          clear hpl hr5 hb5 hb05 ho5
          go_wp2_with (go_at_call 62; refine hma.mono ?_; rintro e w6 ⟨A6, c6, rfl, hc6, hr6, hb6⟩; have ho6 := HO5.out.below hb6; obtain ⟨⟨v6, hv6⟩, f6⟩ := ho6.cellx hlt; have hst6 := ho6.set (i := i) hlt hc6 (hr6.weaken ByR.stable (fun j hj => ⟨(by have h9 : w5.heap.size ≤ j := hj; omega), (by have h9 : w5.heap.size ≤ j := hj; omega)⟩)); rw [← HONE.out, HFX.out] at hst6; have HO6 := Lib.hid hst6; have HB6 := Lib.hid ((HB5.out.trans (hb6.mono HB5.out.size)).setCell (p := ⟨go, i, none⟩) hwg (.slice A6 (lenF ss (gt (useT k N ss) 0)) c6)); have HR6 := Lib.hid ((HR5.out.below NatR.stable hb6).setCell NatR.stable (p := ⟨go, i, none⟩) (fun h => h.2 rfl) (.slice A6 (lenF ss (gt (useT k N ss) 0)) c6)); clear hma hr6 hb6 ho6 hst6)
          exact ⟨⟨i + 1, by omega, by go_num, HO6, HB6, HR6⟩, by simp [intOf]; omega⟩
      · have p1 : ¬ (i : Int) < (nr : Int) := by omega
        obtain rfl : i = nr := by omega
        have hen : fillU k (useT k N ss) ss (lenF ss (gt (useT k N ss) 0)) i i = outF k N i ss := by unfold fillU outF; simp
        rw [hen] at HO
        go_wp2_with fail
        go_ret2
        exact ⟨HB.out, .inr (.inr ⟨HB0.out, HF.out, go, rfl, HO.out.rd.weaken RowR.stable (fun j hj => Nat.le_trans hwg hj)⟩)⟩
theorem call_k (args : Array Value) (w : World) : (callFunc 31 args).run Tryz.prog w = .ok (.enter 31 args) w := by go_simp
theorem call_n (args : Array Value) (w : World) : (callFunc 29 args).run Tryz.prog w = .ok (.enter 29 args) w := by go_simp
section
variable {w : World} {cb b k m N cs : Nat} {As : Option Addr} {S : Nat → Prop} {ss : Rws}
theorem ddata_any (H : CodAt w cb b k m) (R : RdL RowR 1 S w As N ss) (hN : N ≤ 1000) (hlen : ∀ i, lenF ss i ≤ 1000000) (hI : Hid (thBad k m N ss = false → ¬ (thU ss N).length < k → Inj k (useF k (useT k N ss)))) :
    Calls Tryz.prog 17 #[.pointer (some ⟨cb, 0, none⟩), .slice As N cs] w fun e w' => FilE w k m N k ss e w' := by
  have hf := fill2_any (cs := cs) (nr := k) H R hN hlen (g := 31) (pre := #[.pointer (some ⟨cb, 0, none⟩)]) (by omega) (Lib.hid call_k)
    (Lib.hid fun W hW => (ck_any (H.below hW)).mono fun e W' h => ⟨h.1, by rw [h.2]; exact Below.refl _ _⟩) hI
  clear H R hlen hI
  go_enter Tryz.func17, Tryz.ntmps17
  go_wp2_with fail
  refine hf.mono ?_
  rintro e w2 ⟨hb, ⟨hB, rfl⟩ | ⟨hB, hF, rfl⟩ | ⟨hB, hF, g, rfl, hr⟩⟩
  · have HB := Lib.hid hB
    clear hB hf
    go_wp2_with fail
    go_ret2
    exact ⟨hb, .inl ⟨HB.out, rfl⟩⟩
  · have HB := Lib.hid hB
    have HF := Lib.hid hF
    clear hB hF hf
    go_wp2_with fail
    go_ret2
    exact ⟨hb, .inr (.inl ⟨HB.out, HF.out, rfl⟩)⟩
  · have HB := Lib.hid hB
    have HF := Lib.hid hF
    have HR := Lib.hid hr
    clear hB hF hf hr
    go_wp2_with fail
    go_ret2
    exact ⟨hb, .inr (.inr ⟨HB.out, HF.out, g, rfl, HR.out⟩)⟩
theorem dall_any (H : CodAt w cb b k m) (R : RdL RowR 1 S w As N ss) (hN : N ≤ 1000) (hlen : ∀ i, lenF ss i ≤ 1000000) (hI : Hid (thBad k m N ss = false → ¬ (thU ss N).length < k → Inj k (useF k (useT k N ss)))) :
    Calls Tryz.prog 19 #[.pointer (some ⟨cb, 0, none⟩), .slice As N cs] w fun e w' => FilE w k m N (k + m) ss e w' := by
  have hf := fill2_any (cs := cs) (nr := k + m) H R hN hlen (g := 29) (pre := #[.pointer (some ⟨cb, 0, none⟩)]) (Nat.le_refl _) (Lib.hid call_n)
    (Lib.hid fun W hW => (cn_any (H.below hW)).mono fun e W' h => h) hI
  clear H R hlen hI
  go_enter Tryz.func19, Tryz.ntmps19
  go_wp2_with fail
  refine hf.mono ?_
  rintro e w2 ⟨hb, ⟨hB, rfl⟩ | ⟨hB, hF, rfl⟩ | ⟨hB, hF, g, rfl, hr⟩⟩
  · have HB := Lib.hid hB
    clear hB hf
    go_wp2_with fail
    go_ret2
    exact ⟨hb, .inl ⟨HB.out, rfl⟩⟩
  · have HB := Lib.hid hB
    have HF := Lib.hid hF
    clear hB hF hf
    go_wp2_with fail
    go_ret2
    exact ⟨hb, .inr (.inl ⟨HB.out, HF.out, rfl⟩)⟩
  · have HB := Lib.hid hB
    have HF := Lib.hid hF
    have HR := Lib.hid hr
    clear hB hF hf hr
    go_wp2_with fail
    go_ret2
    exact ⟨hb, .inr (.inr ⟨HB.out, HF.out, g, rfl, HR.out⟩)⟩
end
end Go.Proofs.YthhljmlpjnkfgaaGreat
