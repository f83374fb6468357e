/-
  Drives side by side and the document's: they are the same, whatever is done.
  Shards that the document writes: plain.
  The document puts a stripe.
  The document's stripes: New; what Put refuses.
  Ours and the document's drives, side by side: a stripe put, and what befalls drives.
  Ours and the document's stripes in one world.
  Drives that live, with nothing under way and nothing spoilt: plain.
  Stripes at the places 0, 1, .., on drives that live: what happens to them; plain.
  The library's contracts for a sorted list of a map's keys, laid for this program, in plain declarations (printed by the kit's lay-plain.mjs).
  A map's int keys, sorted; the drives, in a map.
  A scrubber: which stripe is next.
  The drives in a map; on which drives a stripe's shards are missing.
  On which drives a stripe's shards are missing; how many.
  What is missing of each stripe, handed to a function; all told, the most, what is lost.
-/
import Derived.Test.YtihnlhfngmbglaaGreatLt10
import Derived.Test.YtihnlhfngmbglaaGreatLt8
import Derived.Test.YtihnlhfngmbglaaGreatLt3
import Derived.Shelf.SlGeneric
import Derived.Shelf.SlIterI.Nil
import Derived.Shelf.SlIterI.Sorted
import Derived.Shelf.SortM.Plain
import Derived.Shelf.SortM.SortNone
import Derived.Ground.GgzProg
import Derived.Ground.SlgmProg
import Derived.Test.YtihnlhfngmbglaaGreatRows
import Derived.Test.YtihnlhfngmbglaaGreatLt1
set_option linter.unusedSimpArgs false
set_option linter.unusedVariables false
namespace Go.Proofs.YtihnlhfngmbglaaGreat
open Go.RowKit Go.Cib
attribute [local go_sem] cell_set Later.cell Later.frozen Grw.cell Grw.frozen
section

/-- Each drive is as the document's; each has been little used. -/
structure TInv (n s t : Nat) (sa : List DSt) (ra : List RSt) : Prop where
  la : sa.length = n
  lr : ra.length = n
  sim : ∀ (i : Nat) (st : DSt) (rs : RSt), sa[i]? = some st → ra[i]? = some rs → Sim s st rs
  rng : ∀ rs ∈ ra, (∀ e ∈ rs.L, 0 ≤ e.at_ ∧ e.at_ < s) ∧ ∀ e ∈ rs.wait, 0 ≤ e.at_ ∧ e.at_ < s
  few : ∀ rs ∈ ra, rs.size ≤ t
section
variable {n s t : Nat} {sa : List DSt} {ra : List RSt}
theorem TInv.good (h : TInv n s t sa ra) (ht : t < 1000000) : ∀ rs ∈ ra, RGood rs := fun rs hrs => by
  obtain ⟨i, hi, rfl⟩ := List.mem_iff_getElem.1 hrs
  have hsi : i < sa.length := by rw [h.la, ← h.lr]; exact hi
  have S := h.sim i _ _ (List.getElem?_eq_getElem hsi) (List.getElem?_eq_getElem hi)
  have := h.few _ hrs
  unfold RSt.size at this
  exact ⟨by omega, S.ok, fun e he => (S.okw e he).2⟩
theorem TInv.cache (h : TInv n s t sa ra) (ht : t < 1000000) : ∀ st ∈ sa, st.cache.length < 1000000 := fun st hst => by
  obtain ⟨i, hi, rfl⟩ := List.mem_iff_getElem.1 hst
  have hri : i < ra.length := by rw [h.lr, ← h.la]; exact hi
  have S := h.sim i _ _ (List.getElem?_eq_getElem hi) (List.getElem?_eq_getElem hri)
  have := h.few _ (List.getElem_mem hri)
  have h2 := congrArg List.length S.cache
  rw [List.length_map] at h2
  unfold RSt.size at this
  omega
theorem TInv.at_ (h : TInv n s t sa ra) {d : Nat} (hd : d < n) : ∃ st rs, sa[d]? = some st ∧ ra[d]? = some rs ∧ Sim s st rs ∧ rs.size ≤ t ∧ (∀ e ∈ rs.L, 0 ≤ e.at_ ∧ e.at_ < s) ∧ ∀ e ∈ rs.wait, 0 ≤ e.at_ ∧ e.at_ < s := by
  have h1 : sa[d]? = some (sa[d]'(by rw [h.la]; exact hd)) := List.getElem?_eq_getElem _
  have h2 : ra[d]? = some (ra[d]'(by rw [h.lr]; exact hd)) := List.getElem?_eq_getElem _
  exact ⟨_, _, h1, h2, h.sim d _ _ h1 h2, h.few _ (List.mem_of_getElem? h2), h.rng _ (List.mem_of_getElem? h2)⟩
theorem TInv.new (n s : Nat) : TInv n s 0 (List.replicate n (DSt.new s)) (List.replicate n RSt.new) := by
  refine ⟨by simp, by simp, fun i st rs h1 h2 => ?_, fun rs h => ?_, fun rs h => ?_⟩
  · have e1 := List.eq_of_mem_replicate (List.mem_of_getElem? h1)
    have e2 := List.eq_of_mem_replicate (List.mem_of_getElem? h2)
    subst e1; subst e2
    exact Sim.new s
  · have e := List.eq_of_mem_replicate h
    subst e; simp [RSt.new]
  · have e := List.eq_of_mem_replicate h
    subst e; simp [RSt.new, RSt.size]
theorem TInv.mono (h : TInv n s t sa ra) {t' : Nat} (ht : t ≤ t') : TInv n s t' sa ra := ⟨h.la, h.lr, h.sim, h.rng, fun rs hrs => Nat.le_trans (h.few rs hrs) ht⟩
/-- Is a drive of the document's as it may be behind one step more? -/
def Fit (s t : Nat) (rs : RSt) : Prop := ((∀ e ∈ rs.L, 0 ≤ e.at_ ∧ e.at_ < s) ∧ ∀ e ∈ rs.wait, 0 ≤ e.at_ ∧ e.at_ < s) ∧ rs.size ≤ t
theorem TInv.set (h : TInv n s t sa ra) {d : Nat} {st' : DSt} {rs' : RSt} (hs : Sim s st' rs') (hf : Fit s (t + 1) rs') : TInv n s (t + 1) (sa.set d st') (ra.set d rs') := by
  refine ⟨by simp [h.la], by simp [h.lr], fun i st rs h1 h2 => ?_, fun rs hrs => ?_, fun rs hrs => ?_⟩
  · by_cases hi : d = i
    · subst hi
      have hl := (List.getElem?_eq_some_iff.1 h1).1
      have hl2 := (List.getElem?_eq_some_iff.1 h2).1
      rw [List.getElem?_set_self (by simpa using hl)] at h1
      rw [List.getElem?_set_self (by simpa using hl2)] at h2
      injection h1 with h1
      injection h2 with h2
      subst h1; subst h2
      exact hs
    · rw [List.getElem?_set_ne hi] at h1 h2
      exact h.sim i st rs h1 h2
  · rcases List.mem_or_eq_of_mem_set hrs with h1 | h1
    · exact h.rng rs h1
    · rw [h1]; exact hf.1
  · rcases List.mem_or_eq_of_mem_set hrs with h1 | h1
    · exact Nat.le_succ_of_le (h.few rs h1)
    · rw [h1]; exact hf.2
theorem TInv.map (h : TInv n s t sa ra) (f : Nat → DSt → DSt) (g : Nat → RSt → RSt) (hfg : ∀ (i : Nat) (st : DSt) (rs : RSt), sa[i]? = some st → ra[i]? = some rs → Sim s (f i st) (g i rs) ∧ Fit s (t + 1) (g i rs)) : TInv n s (t + 1) (sa.mapIdx f) (ra.mapIdx g) := by
  have hat : ∀ rs ∈ ra.mapIdx g, ∃ (i : Nat) (st : DSt) (r : RSt), sa[i]? = some st ∧ ra[i]? = some r ∧ rs = g i r := fun rs hrs => by
    obtain ⟨i, hi, rfl⟩ := List.mem_iff_getElem.1 hrs
    have hir : i < ra.length := by simpa using hi
    have his : i < sa.length := by rw [h.la, ← h.lr]; exact hir
    exact ⟨i, _, _, List.getElem?_eq_getElem his, List.getElem?_eq_getElem hir, by rw [List.getElem_mapIdx]⟩
  refine ⟨by simp [h.la], by simp [h.lr], fun i st rs h1 h2 => ?_, fun rs hrs => ?_, fun rs hrs => ?_⟩
  · rw [List.getElem?_mapIdx] at h1 h2
    cases h3 : sa[i]? with
    | none => rw [h3] at h1; cases h1
    | some st0 =>
      cases h4 : ra[i]? with
      | none => rw [h4] at h2; cases h2
      | some rs0 =>
        rw [h3] at h1
        rw [h4] at h2
        injection h1 with h1
        injection h2 with h2
        subst h1; subst h2
        exact (hfg i st0 rs0 h3 h4).1
  · obtain ⟨i, st, r, h1, h2, rfl⟩ := hat rs hrs
    exact (hfg i st r h1 h2).2.1
  · obtain ⟨i, st, r, h1, h2, rfl⟩ := hat rs hrs
    exact (hfg i st r h1 h2).2.2
end
section
variable {s t : Nat} {rs : RSt}
theorem Fit.write (h : Fit s t rs) (z : Int) (bs : List Int) : Fit s (t + 1) (wrR s rs z bs) := by
  refine ⟨?_, Nat.le_trans (wrR_size s rs z bs) (by have := h.2; omega)⟩
  unfold wrR
  split
  · rename_i hw
    refine ⟨h.1.1, fun e he => ?_⟩
    rcases List.mem_append.1 he with h1 | h1
    · exact h.1.2 e h1
    · simp only [List.mem_singleton] at h1; subst h1; exact hw.2.1
  · exact h.1
theorem Fit.flush (h : Fit s t rs) : Fit s (t + 1) (flR rs) := by
  unfold flR
  split
  · refine ⟨⟨fun e he => (List.mem_append.1 he).elim (h.1.1 e) (h.1.2 e), by simp⟩, ?_⟩
    have := h.2
    unfold RSt.size at this ⊢
    simp; omega
  · exact ⟨h.1, Nat.le_succ_of_le h.2⟩
theorem Fit.crash (h : Fit s t rs) (ks : List (List Bool)) (d : Nat) : Fit s (t + 1) (crR ks d rs) := by
  refine ⟨⟨fun e he => (List.mem_append.1 he).elim (h.1.1 e) (fun h2 => h.1.2 e (keptE_mem _ _ _ _ h2)), by simp [crR]⟩, ?_⟩
  have h1 := h.2
  have h2 := keptE_len (keepOf (kAt ks d)) rs.wait 0
  unfold RSt.size at h1 ⊢
  simp [crR]; omega
theorem Fit.rot (h : Fit s t rs) (z off mask : Int) : Fit s (t + 1) (rtR s rs z off mask) := by
  unfold rtR
  split
  · rename_i hr
    refine ⟨⟨fun e he => ?_, h.1.2⟩, ?_⟩
    · rcases List.mem_append.1 he with h1 | h1
      · exact h.1.1 e h1
      · simp only [List.mem_singleton] at h1; subst h1; exact hr.2.1
    · have := h.2
      unfold RSt.size at this ⊢
      simp; omega
  · exact ⟨h.1, Nat.le_succ_of_le h.2⟩
theorem Fit.gone (b : Bool) : Fit s (t + 1) ⟨[], [], b⟩ := ⟨⟨by simp, by simp⟩, by simp [RSt.size]⟩
end
/-! ### The same answers -/
section
variable {s : Nat} {st : DSt} {rs : RSt}
theorem Sim.read_eq (h : Sim s st rs) (z : Int) : rreadL rs s z = readL st s z := by
  unfold rreadL readL
  rw [h.dead]
  by_cases hz : readyE rs.gone s z = 0
  · rw [if_pos hz, if_pos hz]
    obtain ⟨hd, h0, hn⟩ := (ready_iff2 _ _ _).1 hz
    have := h.seen (h.dead.trans hd) (show z.toNat < s by omega)
    rw [show ((z.toNat : Nat) : Int) = z by omega] at this
    exact this
  · rw [if_neg hz, if_neg hz]
end
/-- Ours (a) and the document's (x), apart, made since w0. -/
structure Twin (w0 : World) (U V : Nat → Prop) (wr : World) (a x n s t : Nat) (sa : List DSt) (ra : List RSt) : Prop where
  da : ArrAt U wr a s sa
  dr : RArrAt V wr x s ra
  dis : ∀ k, U k → ¬ V k
  u1 : ∀ k, U k → w0.heap.size ≤ k
  v1 : ∀ k, V k → w0.heap.size ≤ k
  below : Below w0.heap.size w0 wr
  inv : TInv n s t sa ra
/-- Ours went on, the document's not yet. -/
structure Half (w0 : World) (U V : Nat → Prop) (wr : World) (a x s : Nat) (sa : List DSt) (ra : List RSt) : Prop where
  da : ArrAt U wr a s sa
  dr : RArrAt V wr x s ra
  dis : ∀ k, U k → ¬ V k
  u1 : ∀ k, U k → w0.heap.size ≤ k
  v1 : ∀ k, V k → w0.heap.size ≤ k
  below : Below w0.heap.size w0 wr
theorem Twin.half {w0 : World} {U V : Nat → Prop} {wr : World} {a x n s t : Nat} {sa : List DSt} {ra : List RSt} (h : Twin w0 U V wr a x n s t sa ra) : Half w0 U V wr a x s sa ra := ⟨h.da, h.dr, h.dis, h.u1, h.v1, h.below⟩
theorem Half.later {w0 : World} {U V : Nat → Prop} {wr w2 : World} {a x s : Nat} {sa : List DSt} {ra : List RSt} (h : Half w0 U V wr a x s sa ra) (hb : Below wr.heap.size wr w2) : Half w0 U V w2 a x s sa ra :=
  ⟨h.da.below hb, h.dr.below hb, h.dis, h.u1, h.v1, h.below.trans (hb.mono h.below.size)⟩
theorem Half.twin {w0 : World} {U V : Nat → Prop} {wr : World} {a x n s t : Nat} {sa : List DSt} {ra : List RSt} (h : Half w0 U V wr a x s sa ra) (hi : TInv n s t sa ra) : Twin w0 U V wr a x n s t sa ra := ⟨h.da, h.dr, h.dis, h.u1, h.v1, h.below, hi⟩
theorem Twin.later {w0 : World} {U V : Nat → Prop} {wr w2 : World} {a x n s t : Nat} {sa : List DSt} {ra : List RSt} (h : Twin w0 U V wr a x n s t sa ra) (hb : Below wr.heap.size wr w2) : Twin w0 U V w2 a x n s t sa ra := (h.half.later hb).twin h.inv
end
section
/-- What the document's drives are behind so many writes, and how many were taken. -/
def rwrS (n size : Nat) (r : Ref) (rw : Nat → List Nat) (ra : List RSt) : Nat → List RSt × Nat
  | 0 => (ra, 0)
  | i + 1 => match (rwrS n size r rw ra i).1[homeN ra.length r.place i]? with
      | some rs => ((rwrS n size r rw ra i).1.set (homeN ra.length r.place i) (wrR n rs (r.place : Int) (wrI (shR r i size (rw i)))), (rwrS n size r rw ra i).2 + (if rs.gone = true then 0 else 1))
      | none => rwrS n size r rw ra i
/-- Drives of the document's that were little used. -/
structure RGd (t : Nat) (ra : List RSt) : Prop where
  few : ∀ rs ∈ ra, rs.size ≤ t
  ok : ∀ rs ∈ ra, ∀ e ∈ rs.L, EvOk e
  w64 : ∀ rs ∈ ra, ∀ e ∈ rs.wait, e.b.length = 64
section
variable {n size t : Nat} {r : Ref} {rw : Nat → List Nat} {ra : List RSt}
theorem RGd.good (h : RGd t ra) (ht : t < 1000000) {rs : RSt} (hrs : rs ∈ ra) : RGood rs := by
  have := h.few rs hrs
  unfold RSt.size at this
  exact ⟨by omega, h.ok rs hrs, h.w64 rs hrs⟩
theorem RGd.mono (h : RGd t ra) {t' : Nat} (ht : t ≤ t') : RGd t' ra := ⟨fun rs hrs => Nat.le_trans (h.few rs hrs) ht, h.ok, h.w64⟩
theorem RGd.set (h : RGd t ra) {d : Nat} {rs : RSt} (h1 : rs.size ≤ t + 1) (h2 : ∀ e ∈ rs.L, EvOk e) (h3 : ∀ e ∈ rs.wait, e.b.length = 64) : RGd (t + 1) (ra.set d rs) := by
  refine ⟨fun q hq => ?_, fun q hq => ?_, fun q hq => ?_⟩
  · rcases List.mem_or_eq_of_mem_set hq with h9 | rfl
    · exact Nat.le_succ_of_le (h.few q h9)
    · exact h1
  · rcases List.mem_or_eq_of_mem_set hq with h9 | rfl
    · exact h.ok q h9
    · exact h2
  · rcases List.mem_or_eq_of_mem_set hq with h9 | rfl
    · exact h.w64 q h9
    · exact h3
theorem RGd.write (h : RGd t ra) {d : Nat} {rs : RSt} (hrs : ra[d]? = some rs) (z : Int) (bs : List Int) : RGd (t + 1) (ra.set d (wrR n rs z bs)) := by
  have hm := List.mem_of_getElem? hrs
  have h1 := h.few rs hm
  refine h.set (Nat.le_trans (wrR_size n rs z bs) (by omega)) ?_ ?_
  · intro e he
    unfold wrR at he
    split at he
    · exact h.ok rs hm e he
    · exact h.ok rs hm e he
  · intro e he
    unfold wrR at he
    split at he
    · rename_i hw
      rcases List.mem_append.1 he with h9 | h9
      · exact h.w64 rs hm e h9
      · rw [List.mem_singleton] at h9
        subst h9
        first | exact hw.2.2.2 | exact hw.2.2 | exact hw.2 | exact of_decide_eq_true hw
    · exact h.w64 rs hm e he
theorem RGd.of_inv {s : Nat} {sa : List DSt} {n : Nat} (h : TInv n s t sa ra) (ht : t < 1000000) : RGd t ra := ⟨h.few, fun rs hrs => (h.good ht rs hrs).ok, fun rs hrs => (h.good ht rs hrs).w64⟩
theorem rwrS_len : ∀ i, (rwrS n size r rw ra i).1.length = ra.length
  | 0 => rfl
  | i + 1 => by
    have ih := rwrS_len i
    rw [rwrS]
    split
    · simp [ih]
    · exact ih
theorem rwrS_do {i : Nat} {rs : RSt} (h : (rwrS n size r rw ra i).1[homeN ra.length r.place i]? = some rs) : rwrS n size r rw ra (i + 1) = ((rwrS n size r rw ra i).1.set (homeN ra.length r.place i) (wrR n rs (r.place : Int) (wrI (shR r i size (rw i)))), (rwrS n size r rw ra i).2 + (if rs.gone = true then 0 else 1)) := by
  rw [rwrS, h]
theorem rwrS_at (hN : 1 ≤ ra.length) (i : Nat) : ∃ rs, (rwrS n size r rw ra i).1[homeN ra.length r.place i]? = some rs := by
  have hl : homeN ra.length r.place i < (rwrS n size r rw ra i).1.length := by
    rw [rwrS_len]
    exact Nat.mod_lt _ (by omega)
  exact ⟨_, List.getElem?_eq_getElem hl⟩
theorem rwrS_good (h : RGd t ra) (hN : 1 ≤ ra.length) : ∀ i, RGd (t + i) (rwrS n size r rw ra i).1
  | 0 => h
  | i + 1 => by
    have ih := rwrS_good h hN i
    obtain ⟨rs, hrs⟩ := rwrS_at (n := n) (size := size) (r := r) (rw := rw) hN i
    rw [rwrS_do hrs]
    exact ih.write hrs _ _
theorem rwrS_cnt : ∀ i, (rwrS n size r rw ra i).2 ≤ i
  | 0 => Nat.le_refl _
  | i + 1 => by
    have ih := rwrS_cnt i
    rw [rwrS]
    split
    · show (rwrS n size r rw ra i).2 + _ ≤ i + 1
      split <;> omega
    · omega
end
end
section
theorem RAUpd.pre {U : Nat → Prop} {w w1 w2 : World} {a s : Nat} {sts : List RSt} (hb : Below w.heap.size w w1) (h : RAUpd U w1 w2 a s sts) : RAUpd U w w2 a s sts := by
  obtain ⟨U', hA, hU, hK⟩ := h
  exact ⟨U', hA, fun k hk hlt => hU k hk (Nat.lt_of_lt_of_le hlt hb.size), (Keep.of_below hb).trans hK (fun k hk _ => hk)⟩
theorem RAUpd.post {U : Nat → Prop} {w w1 w2 : World} {a s : Nat} {sts : List RSt} (h : RAUpd U w w1 a s sts) (hb : Below w1.heap.size w1 w2) : RAUpd U w w2 a s sts := by
  obtain ⟨U', hA, hU, hK⟩ := h
  exact RAUpd.trans hU hK (hA.upd hb)
set_option maxRecDepth 100000 in
set_option maxHeartbeats 16000000 in
theorem rsput_any {V : Nat → Prop} {w : World} {x n sb K M len c t : Nat} {r : Ref} {ra : List RSt} {A : Option Addr} {S : Nat → Prop} {xs : List Nat}
    (hS : BoxAt w sb #[.pointer (some ⟨x, 0, none⟩), .int .i64 (K : Int), .int .i64 (M : Int)]) (hA : RArrAt V w x n ra) (hnV : ¬ V sb) (hl : ra.length = K + M) (h1 : 1 ≤ K) (hkm : K + M ≤ 255) (hr : r.ok n) (hnn : n ≤ 60000) (hg : Hid (r.gen < 2 ^ 64)) (hgd : RGd t ra) (ht : t < 900000) (R : RdL ByR 1 S w A len xs) (hlx : len ≤ K * 44) :
    Calls Tryz.prog 44 #[.pointer (some ⟨sb, 0, none⟩), .agg (refC r), .slice A len c] w fun e w' =>
      e = .returned (.tuple #[.int .i64 ((rwrS n len r (codeRow K 44 (splF 44 xs K K)) ra (K + M)).2 : Int), .int .i64 0]) ∧ RAUpd V w w' x n (rwrS n len r (codeRow K 44 (splF 44 xs K K)) ra (K + M)).1 := by
  have hbx := by_byt R
  have HD := Lib.hid (splF_shp (width := 44) hbx K)
  have HR1 := hr.k1
  have HR4 := hr.k4
  have HRP := hr.p
  have b0 := BoxAt.new w #[.int .u8 (r.kind : Int), .int .i64 (r.place : Int), .int .u64 (r.gen : Int)] 38
  have hb0 : Below w.heap.size w (w.alloc (.cells #[.int .u8 (r.kind : Int), .int .i64 (r.place : Int), .int .u64 (r.gen : Int)] 38)) := (Below.refl _ _).alloc (Nat.le_refl _) _
  have hVlt : ∀ j, V j → j < w.heap.size := fun j hj => hA.lt hj
  have hA0 := hA.below hb0
  have hS0 := hS.below hb0
  have R0 := R.below ByR.stable hb0
  obtain ⟨W, hW⟩ : ∃ W, w.alloc (.cells #[.int .u8 (r.kind : Int), .int .i64 (r.place : Int), .int .u64 (r.gen : Int)] 38) = W := ⟨_, rfl⟩
  rw [hW] at b0 hb0 hA0 hS0 R0
  obtain ⟨p0, hp0⟩ : ∃ p0, w.heap.size = p0 := ⟨_, rfl⟩
  rw [hp0] at b0 hVlt
  obtain ⟨v, Fs, ps, hB0⟩ := hA0
  have hrt := rright_any (kd := r.kind) (pl := (r.place : Int)) (gn := r.gen) hS0 hB0 (by omega)
  rw [show rrtB r.kind (r.place : Int) n = true from decide_eq_true ⟨HR1, HR4, by omega, by omega⟩] at hrt
  have v0 := b0.cell 0
  have v1 := b0.cell 1
  have v2 := b0.cell 2
  have hp0W : p0 < W.heap.size := b0.lt
  have HB0 := Lib.hid hB0
  have HS0 := Lib.hid hS0
  have HX0 := Lib.hid b0
  have HRW := Lib.hid R0
  have HBW := Lib.hid hb0
  have HV := Lib.hid hVlt
  have HNV := Lib.hid hnV
  have q1 : ¬ (K : Int) * 44 < (len : Int) := by omega
  have q2 : (K : Int) ≤ 255 := by omega
  have q3 : (0 : Int) ≤ (K : Int) := by omega
  have q4 : (M : Int) ≤ 255 := by omega
  have q5 : (0 : Int) ≤ (M : Int) := by omega
  have q6 : (K : Int) + (M : Int) ≤ 255 := by omega
  have q7 : IntKind.i64.wrap ((K : Int) + (M : Int)) = (K : Int) + (M : Int) := by rw [IntKind.wrap_i64]; omega
  clear hS hA hnV R hbx hB0 hS0 b0 R0 hb0 hVlt
  obtain ⟨rw0, hrw0⟩ : ∃ rw0, rw0 = codeRow K 44 (splF 44 xs K K) := ⟨_, rfl⟩
  rw [← hrw0]
  have HRW0 := Lib.hid hrw0
  clear hrw0
  unfold refC
  go_enter Tryz.func44, Tryz.ntmps44
  go_wp2_with fail
  refine hrt.mono ?_
  clear hrt
  rintro e w1 ⟨rfl, hb1⟩
  have hS1 := HS0.out.below hb1
  have s1 := hS1.cell 1
  have hsp := rsplit_any (c := c) (HRW.out.below ByR.stable hb1) (k := K) (by omega) hlx
  have HB1 := Lib.hid hb1
  clear hb1 v0 v1 v2 hW
  go_wp2_with fail
  refine hsp.mono ?_
  clear hsp
  rintro e w2 ⟨Ar, cr, rfl, hr2, hb2⟩
  have HR2 := Lib.hid hr2
  have HS2 := Lib.hid (hS1.below hb2)
  have HX2 := Lib.hid ((HX0.out.below HB1.out).below hb2)
  have HW2 := Lib.hid (HBW.out.trans ((HB1.out.trans (hb2.mono HB1.out.size)).mono HBW.out.size))
  have HA2 := Lib.hid (show RArrAt V w2 x n ra from ⟨v, Fs, ps, (HB0.out.below HB1.out).below hb2⟩)
  have hs1 : p0 < w1.heap.size := Nat.lt_of_lt_of_le hp0W HB1.out.size
  clear hr2 hb2 hS1 s1
  go_wp2_with fail
  go_loopw [10, 11] (fun vn vi wr => ∃ i : Nat, i ≤ K + M ∧ vi = .int .i64 i ∧ vn = .int .i64 ((rwrS n len r rw0 ra i).2 : Nat) ∧ Hid (RAUpd V w2 wr x n (rwrS n len r rw0 ra i).1)) (fun _ vi _ => K + M - (intOf vi).toNat)
  case atStart => exact ⟨0, Nat.zero_le _, rfl, rfl, Lib.hid (HA2.out.upd (Below.refl _ _))⟩
  case round =>
    obtain ⟨i, hi, rfl, rfl, HU⟩ := hrel
    have i0 : (0 : Int) ≤ (i : Int) := Int.natCast_nonneg _
    have hcn := rwrS_cnt (n := n) (size := len) (r := r) (rw := rw0) (ra := ra) i
    obtain ⟨V', hA', hV', hK'⟩ := HU.out
    have hSr := HS2.out.keeps hK' HNV.out
    have hXr := HX2.out.keeps hK' (fun h9 => by have := HV.out _ h9; omega)
    have hSd : BoxAt wr.drew sb #[.pointer (some ⟨x, 0, none⟩), .int .i64 (K : Int), .int .i64 (M : Int)] := hSr.keep rfl
    have s0 := show wr.drew.cell? ⟨sb, 1, none⟩ = some (.int .i64 (K : Int)) ∧ wr.drew.cell? ⟨sb, 2, none⟩ = some (.int .i64 (M : Int)) from ⟨hSd.cell 1, hSd.cell 2⟩
    clear hSd
    by_cases hlt : i < K + M
    · have i1 : (i : Int) < (K : Int) + (M : Int) := by omega
      go_wp2_with fail
      refine wp_region_held_drew (S := fun w' => w'.cell? ⟨sb, 1, none⟩ = some (.int .i64 (K : Int)) ∧ w'.cell? ⟨sb, 2, none⟩ = some (.int .i64 (M : Int))) (by kernel_rfl) (by exact s0) (fun hHeld => ?_)
      refine tkH 0 rfl ?_
      refine tkH 1 rfl ?_
      refine tkH 2 rfl ?_
      refine tkH 3 rfl ?_
      refine tkH 4 rfl ?_
      refine tkH 5 rfl ?_
      refine tkH 6 rfl ?_
      refine tkH 7 rfl ?_
      refine tkH 8 rfl ?_
      refine tkH 9 rfl ?_
      refine tkH 10 rfl ?_
      refine wpAnyH_done (by kernel_rfl) ?_ _
      go_wp2_with fail
      have hbq : Below wr.heap.size wr wr.drew.drew := ((Below.refl _ _).drew).drew
      have hXd : BoxAt wr.drew.drew p0 #[.int .u8 (r.kind : Int), .int .i64 (r.place : Int), .int .u64 (r.gen : Int)] := hXr.keep rfl
      have hSq : BoxAt wr.drew.drew sb #[.pointer (some ⟨x, 0, none⟩), .int .i64 (K : Int), .int .i64 (M : Int)] := hSr.keep rfl
      have HSq := Lib.hid hSq
      have HXq := Lib.hid hXd
      have cellsOf : ∀ w', BoxAt w' sb #[.pointer (some ⟨x, 0, none⟩), .int .i64 (K : Int), .int .i64 (M : Int)] → BoxAt w' p0 #[.int .u8 (r.kind : Int), .int .i64 (r.place : Int), .int .u64 (r.gen : Int)] → (w'.cell? ⟨sb, 0, none⟩ = some (.pointer (some ⟨x, 0, none⟩)) ∧ w'.cell? ⟨sb, 1, none⟩ = some (.int .i64 (K : Int)) ∧ w'.cell? ⟨sb, 2, none⟩ = some (.int .i64 (M : Int)) ∧ w'.cell? ⟨p0, 0, none⟩ = some (.int .u8 (r.kind : Int)) ∧ w'.cell? ⟨p0, 1, none⟩ = some (.int .i64 (r.place : Int)) ∧ w'.cell? ⟨p0, 2, none⟩ = some (.int .u64 (r.gen : Int))) := fun w' a b => ⟨a.cell 0, a.cell 1, a.cell 2, b.cell 0, b.cell 1, b.cell 2⟩
      have HCO := Lib.hid cellsOf
      have s1 := cellsOf _ hSq hXd
      have hH := rhome_any (w := wr.drew.drew) (n := K + M) (place := r.place) (i := i) (by omega) (by omega)
      push_cast at hH
      have hrows := (HR2.out.keep RowR.stable hK' (fun j hj hu => by have := HV.out _ hu; omega)).below RowR.stable hbq
      have HRR := Lib.hid hrows
      obtain ⟨rs, hrs⟩ := rwrS_at (n := n) (size := len) (r := r) (rw := rw0) (ra := ra) (by omega) i
      have hdo := rwrS_do hrs
      have hgo := (rwrS_good (n := n) (size := len) (r := r) (rw := rw0) hgd (by omega) i).good (by omega) (List.mem_of_getElem? hrs)
      rw [hl] at hrs hdo
      obtain ⟨d, hd⟩ : ∃ d, homeN (K + M) r.place i = d := ⟨_, rfl⟩
      rw [hd] at hH hrs hdo
      have HRS := Lib.hid hrs
      have HDO := Lib.hid hdo
      have HGO := Lib.hid hgo
      have HVK := Lib.hid (show (∀ k, V' k → k < w2.heap.size → V k) ∧ Keep V w2 wr ∧ RArrAt V' wr x n (rwrS n len r rw0 ra i).1 from ⟨hV', hK', hA'⟩)
      have HBQ := Lib.hid hbq
      have HNW := Lib.hid (show ∀ j, V' j → j < wr.heap.size from fun j hj => hA'.lt hj)
      have HNS := Lib.hid (show ¬ V' sb from fun h9 => HNV.out (hV' _ h9 (by have := HS2.out.lt; exact this)))
      have HNP := Lib.hid (show ¬ V' p0 from fun h9 => by have := HV.out _ (hV' _ h9 (by have := HX2.out.lt; exact this)); omega)
      clear hbq hXd hSq cellsOf hrows hrs hdo hgo hd s0 hSr hXr hA' hV' hK' HU
      refine wp_region_held_drew (S := fun w' => w'.cell? ⟨sb, 0, none⟩ = some (.pointer (some ⟨x, 0, none⟩)) ∧ w'.cell? ⟨sb, 1, none⟩ = some (.int .i64 (K : Int)) ∧ w'.cell? ⟨sb, 2, none⟩ = some (.int .i64 (M : Int)) ∧ w'.cell? ⟨p0, 0, none⟩ = some (.int .u8 (r.kind : Int)) ∧ w'.cell? ⟨p0, 1, none⟩ = some (.int .i64 (r.place : Int)) ∧ w'.cell? ⟨p0, 2, none⟩ = some (.int .u64 (r.gen : Int))) (by kernel_rfl) (by first | exact s1 | exact s5 | exact s6 | exact s7 | exact s8) (fun hHeld => ?_)
      refine tkH 0 rfl ?_
      refine tkH 1 rfl ?_
      refine tkH 2 rfl ?_
      refine tkH 3 rfl ?_
      refine tkH 4 rfl ?_
      refine tkH 5 rfl ?_
      refine tkH 6 rfl ?_
      refine tkH 7 rfl ?_
      refine tkH 8 rfl ?_
      refine tkH 9 rfl ?_
      refine tkH 10 rfl ?_
      refine tkH 11 rfl ?_
      refine tkH 12 rfl ?_
      refine tkH 13 rfl ?_
      refine tkH 14 rfl ?_
      refine tkH 15 rfl ?_
      refine tkH 17 rfl ?_
      refine tkH 18 rfl ?_
      refine tkH 19 rfl ?_
      refine tkH 20 rfl ?_
      refine tkH 21 rfl ?_
      refine tkH 22 rfl ?_
      refine tkH 23 rfl ?_
      refine tkH 24 rfl ?_
      refine rdH 16 rfl fun K hK => ?_
      try simp (maxSteps := 2000000) only [zz1, zz2, zz3]
      go_simp
      go_at_call 69
      refine hH.mono ?_
      clear hH
      rintro e w5 ⟨rfl, hb5⟩
      have HS5 := Lib.hid (HSq.out.below hb5)
      have HX5 := Lib.hid (HXq.out.below hb5)
      have s5 := HCO.out _ HS5.out HX5.out
      have HB5 := Lib.hid (HBQ.out.trans (hb5.mono HBQ.out.size))
      have hsh := rshard_any (i := i) (c := cr) (HRR.out.below RowR.stable hb5) HD.out h1 (by omega) (by omega) (by omega)
      have HSH := Lib.hid hsh
      clear hb5 hsh
      try (go_wp2_with fail)
      refine hK.out _ _ (by first | exact s1 | exact s5 | exact s6 | exact s7 | exact s8) (fun hHeld => ?_)
      clear hK K
      try simp (maxSteps := 2000000) only [zz1, zz2, zz3, Act.put, zz4, zz5, zz6]
      refine rdH 25 rfl fun K hK => ?_
      try simp (maxSteps := 2000000) only [zz1, zz2, zz3]
      go_simp
      go_at_call 103
      refine HSH.out.mono ?_
      clear HSH
      rintro e w6 ⟨A6, c6, rfl, hc6, hr6, hb6⟩
      rw [← HRW0.out] at hr6
      have HS6 := Lib.hid (HS5.out.below hb6)
      have HX6 := Lib.hid (HX5.out.below hb6)
      have s6 := HCO.out _ HS6.out HX6.out
      have HB6 := Lib.hid (HB5.out.trans (hb6.mono HB5.out.size))
      have hse := rsector_any (r := r) (i := i) (size := len) (c := c6) hr6 HR1 HR4 (by omega) (by omega) hg (by omega)
      unfold refC at hse
      have HSE := Lib.hid hse
      clear hb6 hr6 hc6 hse
      try (go_wp2_with fail)
      refine hK.out _ _ (by first | exact s1 | exact s5 | exact s6 | exact s7 | exact s8) (fun hHeld => ?_)
      clear hK K
      try simp (maxSteps := 2000000) only [zz1, zz2, zz3, Act.put, zz4, zz5, zz6]
      refine rdH 26 rfl fun K hK => ?_
      try simp (maxSteps := 2000000) only [zz1, zz2, zz3]
      go_simp
      go_at_call 102
      refine HSE.out.mono ?_
      clear HSE
      rintro e w7 ⟨A7, c7, rfl, hc7, hr7, hb7⟩
      have HS7 := Lib.hid (HS6.out.below hb7)
      have HX7 := Lib.hid (HX6.out.below hb7)
      have s7 := HCO.out _ HS7.out HX7.out
      have HB7 := Lib.hid (HB6.out.trans (hb7.mono HB6.out.size))
      obtain ⟨v9, Fs9, ps9, hB9⟩ := HVK.out.2.2
      have hwr := rawrite_in (Lib.hid (hB9.below HB7.out)) d HRS.out HGO.out (r.place : Int) (m := 64) (c := c7) (bs := wrI (shR r i len (rw0 i))) (Lib.hid (by_u8 hr7))
      have HWR := Lib.hid hwr
      clear hb7 hr7 hc7 hwr hB9
      try (go_wp2_with fail)
      refine hK.out _ _ (by first | exact s1 | exact s5 | exact s6 | exact s7 | exact s8) (fun hHeld => ?_)
      clear hK K
      try simp (maxSteps := 2000000) only [zz1, zz2, zz3, Act.put, zz4, zz5, zz6]
      refine rdH 27 rfl fun K hK => ?_
      try simp (maxSteps := 2000000) only [zz1, zz2, zz3]
      go_simp
      go_at_call 101
      refine HWR.out.mono ?_
      clear HWR
      rintro e w8 ⟨rfl, hup⟩
      have HS8 := Lib.hid (HS7.out.keeps hup.choose_spec.2.2 HNS.out)
      have HX8 := Lib.hid (HX7.out.keeps hup.choose_spec.2.2 HNP.out)
      have s8 := HCO.out _ HS8.out HX8.out
      have HUP := Lib.hid (RAUpd.trans HVK.out.1 HVK.out.2.1 (RAUpd.pre HB7.out hup))
      clear hup
      try (go_wp2_with fail)
      refine hK.out _ _ (by first | exact s1 | exact s5 | exact s6 | exact s7 | exact s8) (fun hHeld => ?_)
      clear hK K
      try simp (maxSteps := 2000000) only [zz1, zz2, zz3, Act.put, zz4, zz5, zz6]
      refine tkH 28 rfl ?_
      refine wpAnyH_done (by kernel_rfl) ?_ _
      by_cases hgn : rs.gone = true
      · have e0 : (writeE rs.gone n (r.place : Int) 64 == 0) = false := by unfold writeE readyE; rw [hgn]; rfl
        have HN := Lib.hid (show rwrS n len r rw0 ra (i + 1) = ((rwrS n len r rw0 ra i).1.set d (wrR n rs (r.place : Int) (wrI (shR r i len (rw0 i)))), (rwrS n len r rw0 ra i).2) by rw [HDO.out, if_pos hgn, Nat.add_zero])
        clear hgn
        go_wp2_with fail
        exact ⟨⟨i + 1, hlt, by go_num, by rw [HN.out], by rw [HN.out]; exact HUP⟩, by simp [intOf]; omega⟩
      · have e0 : (writeE rs.gone n (r.place : Int) 64 == 0) = true := by
          have hgf : rs.gone = false := by simpa using hgn
          unfold writeE readyE
          rw [hgf]
          simp [HRP]
        have HN := Lib.hid (show rwrS n len r rw0 ra (i + 1) = ((rwrS n len r rw0 ra i).1.set d (wrR n rs (r.place : Int) (wrI (shR r i len (rw0 i)))), (rwrS n len r rw0 ra i).2 + 1) by rw [HDO.out, if_neg hgn])
        clear hgn
        go_wp2_with fail
        exact ⟨⟨i + 1, hlt, by go_num, by rw [HN.out]; go_num, by rw [HN.out]; exact HUP⟩, by simp [intOf]; omega⟩
    · have i1 : ¬ (i : Int) < (K : Int) + (M : Int) := by omega
      obtain rfl : i = K + M := by omega
      go_wp2_with fail
      refine wp_region_held_drew (S := fun w' => w'.cell? ⟨sb, 1, none⟩ = some (.int .i64 (K : Int)) ∧ w'.cell? ⟨sb, 2, none⟩ = some (.int .i64 (M : Int))) (by kernel_rfl) (by exact s0) (fun hHeld => ?_)
      refine tkH 0 rfl ?_
      refine tkH 1 rfl ?_
      refine tkH 2 rfl ?_
      refine tkH 3 rfl ?_
      refine tkH 4 rfl ?_
      refine tkH 5 rfl ?_
      refine tkH 6 rfl ?_
      refine tkH 7 rfl ?_
      refine tkH 8 rfl ?_
      refine tkH 9 rfl ?_
      refine tkH 10 rfl ?_
      refine wpAnyH_done (by kernel_rfl) ?_ _
      go_wp2_with fail
      go_ret2
      exact ⟨rfl, (RAUpd.pre HW2.out HU.out).post ((Below.refl _ _).drew)⟩
end
section
section
variable {V : Nat → Prop} {w : World} {x n sb K M len c kd gn : Nat} {pl : Int} {ra : List RSt} {A : Option Addr}
set_option maxRecDepth 100000 in
set_option maxHeartbeats 4000000 in
theorem rsput_no (hS : BoxAt w sb #[.pointer (some ⟨x, 0, none⟩), .int .i64 (K : Int), .int .i64 (M : Int)]) (hA : RArrAt V w x n ra) (hk : 0 < ra.length) (hno : rrtB kd pl n = false) :
    Calls Tryz.prog 44 #[.pointer (some ⟨sb, 0, none⟩), .agg #[.int .u8 (kd : Int), .int .i64 pl, .int .u64 (gn : Int)], .slice A len c] w fun e w' => e = .returned (.tuple #[.int .i64 0, .int .i64 2]) ∧ Below w.heap.size w w' := by
  have b0 := BoxAt.new w #[.int .u8 (kd : Int), .int .i64 pl, .int .u64 (gn : Int)] 38
  have hb0 : Below w.heap.size w (w.alloc (.cells #[.int .u8 (kd : Int), .int .i64 pl, .int .u64 (gn : Int)] 38)) := (Below.refl _ _).alloc (Nat.le_refl _) _
  obtain ⟨v, Fs, ps, hB0⟩ := hA.below hb0
  have hrt := rright_any (kd := kd) (pl := pl) (gn := gn) (hS.below hb0) hB0 hk
  rw [hno] at hrt
  have HB := Lib.hid hb0
  clear hb0 hB0 hS hA hno
  go_enter Tryz.func44, Tryz.ntmps44
  go_wp2_with fail
  refine hrt.mono ?_
  clear hrt
  rintro e w1 ⟨rfl, hb1⟩
  have HB1 := Lib.hid (HB.out.trans (hb1.mono HB.out.size))
  clear hb1
  go_wp2_with fail
  go_ret2
  exact ⟨rfl, HB1.out⟩
set_option maxRecDepth 100000 in
set_option maxHeartbeats 4000000 in
theorem rsput_large (hS : BoxAt w sb #[.pointer (some ⟨x, 0, none⟩), .int .i64 (K : Int), .int .i64 (M : Int)]) (hA : RArrAt V w x n ra) (hk : 0 < ra.length) (hyes : rrtB kd pl n = true) (hK : K ≤ 255) (hlx : K * 44 < len) (hlen : len ≤ 100000) :
    Calls Tryz.prog 44 #[.pointer (some ⟨sb, 0, none⟩), .agg #[.int .u8 (kd : Int), .int .i64 pl, .int .u64 (gn : Int)], .slice A len c] w fun e w' => e = .returned (.tuple #[.int .i64 0, .int .i64 260]) ∧ Below w.heap.size w w' := by
  have b0 := BoxAt.new w #[.int .u8 (kd : Int), .int .i64 pl, .int .u64 (gn : Int)] 38
  have hb0 : Below w.heap.size w (w.alloc (.cells #[.int .u8 (kd : Int), .int .i64 pl, .int .u64 (gn : Int)] 38)) := (Below.refl _ _).alloc (Nat.le_refl _) _
  obtain ⟨v, Fs, ps, hB0⟩ := hA.below hb0
  have hS0 := hS.below hb0
  have hrt := rright_any (kd := kd) (pl := pl) (gn := gn) hS0 hB0 hk
  rw [hyes] at hrt
  have HB := Lib.hid hb0
  have HS0 := Lib.hid hS0
  have q1 : (K : Int) * 44 < (len : Int) := by omega
  have q2 : (K : Int) ≤ 255 := by omega
  have q3 : (0 : Int) ≤ (K : Int) := by omega
  clear hb0 hB0 hS hA hyes hS0
  go_enter Tryz.func44, Tryz.ntmps44
  go_wp2_with fail
  refine hrt.mono ?_
  clear hrt
  rintro e w1 ⟨rfl, hb1⟩
  have s1 := (HS0.out.below hb1).cell 1
  have HB1 := Lib.hid (HB.out.trans (hb1.mono HB.out.size))
  clear hb1
  go_wp2_with fail
  go_ret2
  exact ⟨rfl, HB1.out⟩
end
set_option maxRecDepth 100000 in
set_option maxHeartbeats 4000000 in
theorem rsnew_any (k m s : Nat) (h1 : 1 ≤ k) (h2 : k + m ≤ 255) (h3 : 1 ≤ s) (h4 : s ≤ 600) (w : World) :
    Calls Tryz.prog 42 #[.int .i64 (k : Int), .int .i64 (m : Int), .int .i64 (s : Int)] w fun e w' => ∃ sb x V, e = .returned (.pointer (some ⟨sb, 0, none⟩)) ∧ BoxAt w' sb #[.pointer (some ⟨x, 0, none⟩), .int .i64 (k : Int), .int .i64 (m : Int)] ∧ RArrAt V w' x s (List.replicate (k + m) RSt.new) ∧ (∀ b, V b → w.heap.size ≤ b) ∧ w.heap.size ≤ sb ∧ ¬ V sb ∧ Below w.heap.size w w' := by
  have hn := ranew_any (k + m) s (by omega) h2 h3 h4 w
  push_cast at hn
  have q0 : (k : Int) + (m : Int) ≤ 255 := by omega
  have q1 : (0 : Int) ≤ (k : Int) := by omega
  have q2 : (0 : Int) ≤ (m : Int) := by omega
  go_enter Tryz.func42, Tryz.ntmps42
  go_wp2_with fail
  refine hn.mono ?_
  clear hn
  rintro e w1 ⟨x, V, rfl, hA, hV, hb⟩
  have hbx := BoxAt.new w1 #[.pointer (some ⟨x, 0, none⟩), .int .i64 (k : Int), .int .i64 (m : Int)] 86
  have hb2 : Below w1.heap.size w1 (w1.alloc (.cells #[.pointer (some ⟨x, 0, none⟩), .int .i64 (k : Int), .int .i64 (m : Int)] 86)) := (Below.refl _ _).alloc (Nat.le_refl _) _
  have hlt : ∀ b, V b → b < w1.heap.size := fun b hb => hA.lt hb
  have HP := Lib.hid (show BoxAt (w1.alloc (.cells #[.pointer (some ⟨x, 0, none⟩), .int .i64 (k : Int), .int .i64 (m : Int)] 86)) w1.heap.size #[.pointer (some ⟨x, 0, none⟩), .int .i64 (k : Int), .int .i64 (m : Int)] ∧ RArrAt V (w1.alloc (.cells #[.pointer (some ⟨x, 0, none⟩), .int .i64 (k : Int), .int .i64 (m : Int)] 86)) x s (List.replicate (k + m) RSt.new) ∧ (∀ b, V b → w.heap.size ≤ b) ∧ w.heap.size ≤ w1.heap.size ∧ ¬ V w1.heap.size ∧ Below w.heap.size w (w1.alloc (.cells #[.pointer (some ⟨x, 0, none⟩), .int .i64 (k : Int), .int .i64 (m : Int)] 86)) from ⟨hbx, hA.below hb2, hV, hb.size, fun h9 => absurd (hlt _ h9) (Nat.lt_irrefl _), hb.trans (hb2.mono hb.size)⟩)
  clear hA hV hb hbx hb2 hlt
  go_wp2_with fail
  go_ret
  exact ⟨_, _, V, rfl, HP.out⟩
end
section
section
variable {n t N k len : Nat} {sts : List DSt} {ra : List RSt} {r : Ref} {rw : Nat → List Nat}
theorem TInv.fit (h : TInv N n t sts ra) {rs : RSt} (hrs : rs ∈ ra) : Fit n t rs := ⟨h.rng rs hrs, h.few rs hrs⟩
theorem TInv.wstep (h : TInv N n t sts ra) {d : Nat} {st : DSt} {rs : RSt} (hst : sts[d]? = some st) (hrs : ra[d]? = some rs) (z : Int) (bs : List Int) : TInv N n (t + 1) (sts.set d (wrDA n st z bs)) (ra.set d (wrR n rs z bs)) :=
  h.set (Sim.write (h.sim d st rs hst hrs) z bs) ((h.fit (List.mem_of_getElem? hrs)).write z bs)
theorem TInv.puts (h : TInv N n t sts ra) (hN : 1 ≤ N) : ∀ i, TInv N n (t + i) (wrS n r len (fun _ => true) rw sts i).1 (rwrS n len r rw ra i).1
  | 0 => h
  | i + 1 => by
    have ih := TInv.puts h hN i
    have hd : homeN N r.place i < N := Nat.mod_lt _ (by omega)
    obtain ⟨st, h1⟩ : ∃ st, (wrS n r len (fun _ => true) rw sts i).1[homeN sts.length r.place i]? = some st := ⟨_, List.getElem?_eq_getElem (by rw [h.la, ih.la]; exact hd)⟩
    obtain ⟨rs, h2⟩ : ∃ rs, (rwrS n len r rw ra i).1[homeN ra.length r.place i]? = some rs := ⟨_, List.getElem?_eq_getElem (by rw [h.lr, ih.lr]; exact hd)⟩
    rw [wrS_do rfl h1, rwrS_do h2]
    rw [h.la] at h1 ⊢
    rw [h.lr] at h2 ⊢
    exact ih.wstep h1 h2 _ _
theorem TInv.put {xs : List Nat} (h : TInv N n t sts ra) (hN : 1 ≤ N) : TInv N n (t + N) (sts.mapIdx (putQ n k N r xs)) (rwrS n xs.length r (codeRow k 44 (splF 44 xs k k)) ra N).1 := by
  have h1 := TInv.puts (r := r) (len := xs.length) (rw := codeRow k 44 (splF 44 xs k k)) h hN N
  have h2 := wrS_map (n := n) (r := r) (size := xs.length) (wh := fun _ => true) (rw := codeRow k 44 (splF 44 xs k k)) (sts := sts) (by rw [h.la]; exact hN)
  rw [h.la] at h2
  rw [h2] at h1
  exact h1
def failR (ra : List RSt) (d : Int) : List RSt := if 0 ≤ d ∧ d < ra.length then ra.set d.toNat ⟨[], [], true⟩ else ra
def replR (ra : List RSt) (d : Int) : List RSt := if 0 ≤ d ∧ d < ra.length then ra.set d.toNat ⟨[], [], false⟩ else ra
def rotR (n : Nat) (ra : List RSt) (d z off mask : Int) : List RSt := if 0 ≤ d ∧ d < ra.length then (match ra[d.toNat]? with | some rs => ra.set d.toNat (rtR n rs z off mask) | none => ra) else ra
theorem TInv.fail (h : TInv N n t sts ra) (d : Int) : TInv N n (t + 1) (failA n sts d) (failR ra d) := by
  unfold failA failR
  rw [h.la, h.lr]
  split
  · exact h.set ⟨rfl, rfl, fun hd => by simp [DSt.gone] at hd, fun hd => by simp [DSt.gone] at hd, by simp, by simp⟩ (Fit.gone true)
  · exact h.mono (by omega)
theorem TInv.repl (h : TInv N n t sts ra) (d : Int) : TInv N n (t + 1) (replA n sts d) (replR ra d) := by
  unfold replA replR
  rw [h.la, h.lr]
  split
  · exact h.set (Sim.new n) (Fit.gone false)
  · exact h.mono (by omega)
theorem TInv.rot (h : TInv N n t sts ra) (hok : ∀ st ∈ sts, st.ok n) (d z off mask : Int) : TInv N n (t + 1) (rotA n sts d z off mask) (rotR n ra d z off mask) := by
  unfold rotA rotR
  rw [h.la, h.lr]
  split
  · rename_i hd
    have hs : sts[d.toNat]? = some _ := List.getElem?_eq_getElem (by rw [h.la]; omega)
    have hr : ra[d.toNat]? = some _ := List.getElem?_eq_getElem (by rw [h.lr]; omega)
    rw [hs, hr]
    exact h.set (Sim.rot (h.sim _ _ _ hs hr) (hok _ (List.mem_of_getElem? hs)) z off mask) ((h.fit (List.mem_of_getElem? hr)).rot z off mask)
  · exact h.mono (by omega)
theorem TInv.flush (h : TInv N n t sts ra) (hok : ∀ st ∈ sts, st.ok n) : TInv N n (t + 1) (sts.map flushG) (ra.map flR) := by
  refine ⟨by rw [List.length_map, h.la], by rw [List.length_map, h.lr], fun i st rs h1 h2 => ?_, fun rs hrs => ?_, fun rs hrs => ?_⟩
  · rw [List.getElem?_map] at h1 h2
    obtain ⟨st0, hs0, rfl⟩ := Option.map_eq_some_iff.1 h1
    obtain ⟨rs0, hr0, rfl⟩ := Option.map_eq_some_iff.1 h2
    exact Sim.flush (h.sim i _ _ hs0 hr0) (hok _ (List.mem_of_getElem? hs0))
  · obtain ⟨rs0, hr0, rfl⟩ := List.mem_map.1 hrs
    exact ((h.fit hr0).flush).1
  · obtain ⟨rs0, hr0, rfl⟩ := List.mem_map.1 hrs
    exact ((h.fit hr0).flush).2
end
section
variable {V : Nat → Prop} {w : World} {x n t N : Nat} {sts : List DSt} {ra : List RSt}
/-- The document's drive dies, as it may. -/
theorem rfail_t (hA : RArrAt V w x n ra) (h : TInv N n t sts ra) (ht : t < 900000) (d : Int) :
    Calls Tryz.prog 48 #[.pointer (some ⟨x, 0, none⟩), .int .i64 d] w fun e w' => (∃ E : Int, e = .returned (.int .i64 E)) ∧ RAUpd V w w' x n (failR ra d) := by
  obtain ⟨v, Fs, ps, hB⟩ := hA
  unfold failR
  by_cases hd : 0 ≤ d ∧ d < ra.length
  · rw [if_pos hd]
    obtain ⟨e, rfl⟩ : ∃ e : Nat, d = e := ⟨d.toNat, by omega⟩
    have hr : ra[e]? = some _ := List.getElem?_eq_getElem (by omega)
    refine (rafail_in (Lib.hid hB) e hr (h.good (by omega) _ (List.mem_of_getElem? hr))).mono ?_
    rintro e1 w1 ⟨rfl, hu⟩
    exact ⟨⟨_, rfl⟩, hu⟩
  · rw [if_neg hd]
    refine (rafail_out (Lib.hid hB) d hd ()).mono ?_
    rintro e1 w1 ⟨rfl, hb⟩
    exact ⟨⟨_, rfl⟩, RArrAt.upd ⟨v, Fs, ps, hB⟩ hb⟩
theorem rrepl_t (hA : RArrAt V w x n ra) (h : TInv N n t sts ra) (ht : t < 900000) (d : Int) :
    Calls Tryz.prog 50 #[.pointer (some ⟨x, 0, none⟩), .int .i64 d] w fun e w' => (∃ E : Int, e = .returned (.int .i64 E)) ∧ RAUpd V w w' x n (replR ra d) := by
  obtain ⟨v, Fs, ps, hB⟩ := hA
  unfold replR
  by_cases hd : 0 ≤ d ∧ d < ra.length
  · rw [if_pos hd]
    obtain ⟨e, rfl⟩ : ∃ e : Nat, d = e := ⟨d.toNat, by omega⟩
    have hr : ra[e]? = some _ := List.getElem?_eq_getElem (by omega)
    refine (rarepl_in (Lib.hid hB) e hr (h.good (by omega) _ (List.mem_of_getElem? hr))).mono ?_
    rintro e1 w1 ⟨rfl, hu⟩
    exact ⟨⟨_, rfl⟩, hu⟩
  · rw [if_neg hd]
    refine (rarepl_out (Lib.hid hB) d hd ()).mono ?_
    rintro e1 w1 ⟨rfl, hb⟩
    exact ⟨⟨_, rfl⟩, RArrAt.upd ⟨v, Fs, ps, hB⟩ hb⟩
theorem rrot_t (hA : RArrAt V w x n ra) (h : TInv N n t sts ra) (ht : t < 900000) (d z off mask : Int) :
    Calls Tryz.prog 51 #[.pointer (some ⟨x, 0, none⟩), .int .i64 d, .int .i64 z, .int .i64 off, .int .u32 mask] w fun e w' => (∃ E : Int, e = .returned (.int .i64 E)) ∧ RAUpd V w w' x n (rotR n ra d z off mask) := by
  obtain ⟨v, Fs, ps, hB⟩ := hA
  unfold rotR
  by_cases hd : 0 ≤ d ∧ d < ra.length
  · rw [if_pos hd]
    obtain ⟨e, rfl⟩ : ∃ e : Nat, d = e := ⟨d.toNat, by omega⟩
    have hr : ra[e]? = some _ := List.getElem?_eq_getElem (by omega)
    refine (rarot_in (Lib.hid hB) e hr (h.good (by omega) _ (List.mem_of_getElem? hr)) z off mask).mono ?_
    rintro e1 w1 ⟨rfl, hu⟩
    rw [Int.toNat_natCast, hr]
    exact ⟨⟨_, rfl⟩, hu⟩
  · rw [if_neg hd]
    refine (rarot_out (Lib.hid hB) d hd z off mask).mono ?_
    rintro e1 w1 ⟨rfl, hb⟩
    exact ⟨⟨_, rfl⟩, RArrAt.upd ⟨v, Fs, ps, hB⟩ hb⟩
theorem rflush_t (hA : RArrAt V w x n ra) (h : TInv N n t sts ra) (hN : 1 ≤ N) (hN2 : N ≤ 255) (ht : t < 900000) :
    Calls Tryz.prog 45 #[.pointer (some ⟨x, 0, none⟩)] w fun e w' => (∃ E : Int, e = .returned (.int .i64 E)) ∧ RAUpd V w w' x n (ra.map flR) := by
  refine (raflush_any (Lib.hid hA) (by rw [h.lr]; omega) (by rw [h.lr]; omega) (Lib.hid fun rs hrs => h.good (by omega) rs hrs)).mono ?_
  rintro e1 w1 ⟨rfl, hu⟩
  exact ⟨⟨_, rfl⟩, hu⟩
end
end
section
/-- Our drives and coder, and the document's set at sb, beside blocks X. -/
structure Dn (X : Nat → Prop) (w0 w : World) (a cb bf k m n : Nat) (sts : List DSt) (V : Nat → Prop) (sb x : Nat) (ra : List RSt) : Prop where
  mx : MX (fun j => X j ∨ V j ∨ j = sb) w0 w a cb bf k m n sts
  bx : BoxAt w sb #[.pointer (some ⟨x, 0, none⟩), .int .i64 (k : Int), .int .i64 (m : Int)]
  ra : RArrAt V w x n ra
  nv : ¬ V sb
  v0 : ∀ j, V j → w0.heap.size ≤ j
  s0 : w0.heap.size ≤ sb
  xv : ∀ j, X j → ¬ V j
  xs : ¬ X sb
theorem kp_keep {Y : Nat → Prop} {w0 w w' : World} (h1 : Below w0.heap.size w0 w) (h2 : Below w0.heap.size w0 w') (hk : KpX Y w w') : Keep (fun j => ¬ Y j) w w' :=
  ⟨h2.os.trans h1.os.symm, h2.tape.trans h1.tape.symm, h2.output.trans h1.output.symm, hk.2, fun j _ hn => hk.1 j (Classical.not_not.1 hn)⟩
section
variable {X V : Nat → Prop} {w0 w w' : World} {a cb bf k m n sb x : Nat} {sts sts' : List DSt} {ra ra' : List RSt} {f : FuncId} {args : Array Value} {Q : Ending → Prop}
theorem Dn.after (h : Dn X w0 w a cb bf k m n sts V sb x ra) (hM : MX (fun j => X j ∨ V j ∨ j = sb) w0 w' a cb bf k m n sts') (hk : KpX (fun j => X j ∨ V j ∨ j = sb) w w') : Dn X w0 w' a cb bf k m n sts' V sb x ra where
  mx := hM
  bx := hk.box h.bx (.inr (.inr rfl))
  ra := h.ra.keep (kp_keep h.mx.bel hM.bel hk) (fun j hj hn => hn (.inr (.inl hj)))
  nv := h.nv
  v0 := h.v0
  s0 := h.s0
  xv := h.xv
  xs := h.xs
theorem Dn.real (h : Dn X w0 w a cb bf k m n sts V sb x ra) (hc : Calls Tryz.prog f args w fun e w' => Q e ∧ MX (fun j => X j ∨ V j ∨ j = sb) w0 w' a cb bf k m n sts' ∧ KpX (fun j => X j ∨ V j ∨ j = sb) w w') :
    Calls Tryz.prog f args w fun e w' => Q e ∧ Dn X w0 w' a cb bf k m n sts' V sb x ra ∧ KpX X w w' := by
  refine hc.mono ?_
  rintro e w1 ⟨hq, hM, hk⟩
  exact ⟨hq, h.after hM hk, hk.mono fun j hj => .inl hj⟩
theorem Dn.below (h : Dn X w0 w a cb bf k m n sts V sb x ra) (hb : Below w.heap.size w w') : Dn X w0 w' a cb bf k m n sts V sb x ra where
  mx := h.mx.below' hb
  bx := h.bx.below hb
  ra := h.ra.below hb
  nv := h.nv
  v0 := h.v0
  s0 := h.s0
  xv := h.xv
  xs := h.xs
theorem Dn.lt (h : Dn X w0 w a cb bf k m n sts V sb x ra) {j : Nat} (hj : X j) : j < w.heap.size := h.mx.lt (.inl hj)
theorem Dn.refUpd (h : Dn X w0 w a cb bf k m n sts V sb x ra) (hu : RAUpd V w w' x n ra') : ∃ V', Dn X w0 w' a cb bf k m n sts V' sb x ra' ∧ KpX X w w' := by
  obtain ⟨V', hA, hU, hK⟩ := hu
  have hM := h.mx.ownN hK (fun j hj => ⟨.inr (.inl hj), h.v0 j hj⟩)
  have hin : ∀ j, V' j → V j ∨ (w.heap.size ≤ j ∧ j < w'.heap.size) := fun j hj => by
    by_cases hl : j < w.heap.size
    · exact .inl (hU j hj hl)
    · exact .inr ⟨by omega, hA.lt hj⟩
  refine ⟨V', ⟨hM.sub fun j hj => ?_, h.bx.keeps hK h.nv, hA, fun hv => ?_, fun j hj => ?_, h.s0, fun j hj hv => ?_, h.xs⟩, fun j hj => hK.block j (h.lt hj) (h.xv j hj), hK.size⟩
  · rcases hj with h1 | h1 | h1
    · exact .inl (.inl h1)
    · rcases hin j h1 with h2 | h2
      · exact .inl (.inr (.inl h2))
      · exact .inr h2
    · exact .inl (.inr (.inr h1))
  · exact h.nv (hU sb hv h.bx.lt)
  · rcases hin j hj with h2 | h2
    · exact h.v0 j h2
    · exact Nat.le_trans h.mx.bel.size h2.1
  · exact h.xv j hj (hU j hv (h.lt hj))
theorem Dn.ref (h : Dn X w0 w a cb bf k m n sts V sb x ra) (hc : Calls Tryz.prog f args w fun e w' => Q e ∧ RAUpd V w w' x n ra') :
    Calls Tryz.prog f args w fun e w' => Q e ∧ (∃ V', Dn X w0 w' a cb bf k m n sts V' sb x ra') ∧ KpX X w w' := by
  refine hc.mono ?_
  rintro e w1 ⟨hq, hu⟩
  obtain ⟨V', hD, hk⟩ := h.refUpd hu
  exact ⟨hq, ⟨V', hD⟩, hk⟩
/-- A stripe of any name and length, put. -/
def goodP (kd : Nat) (pl : Int) (n k len : Nat) : Bool := rrtB kd pl n && decide (len ≤ k * 44)
def lputX (n k N kd : Nat) (pl : Int) (gn : Nat) (xs : List Nat) (sts : List DSt) : List DSt := if goodP kd pl n k xs.length = true then sts.mapIdx (putQ n k N ⟨kd, pl.toNat, gn⟩ xs) else sts
def rputX (n k N kd : Nat) (pl : Int) (gn : Nat) (xs : List Nat) (ra : List RSt) : List RSt := if goodP kd pl n k xs.length = true then (rwrS n xs.length ⟨kd, pl.toNat, gn⟩ (codeRow k 44 (splF 44 xs k k)) ra N).1 else ra
theorem goodP_ok {kd n k len : Nat} {pl : Int} (h : rrtB kd pl n = true) : ∃ p : Nat, pl = p ∧ (⟨kd, p, 0⟩ : Ref).ok n := by
  have h1 : 1 ≤ kd ∧ kd ≤ 4 ∧ 0 ≤ pl ∧ pl < n := of_decide_eq_true h
  exact ⟨pl.toNat, by omega, ⟨h1.1, h1.2.1, by show pl.toNat < n; omega⟩⟩
def TwoE (e : Ending) : Prop := ∃ E1 E2 : Int, e = .returned (.tuple #[.int .i64 E1, .int .i64 E2])
theorem lputX_any (h : MX X w0 w a cb bf k m n sts) {kd gn len c : Nat} {pl : Int} (hg : gn < 2 ^ 64) (hcl : ∀ st ∈ sts, st.cache.length < 900000) {A : Option Addr} {S : Nat → Prop} {xs : List Nat} (R : RdL ByR 1 S w A len xs) (hc : len ≤ c) (hl : len ≤ 100000) :
    Calls Tryz.prog 43 #[.pointer (some ⟨a, 0, none⟩), .pointer (some ⟨cb, 0, none⟩), .agg #[.int .u8 (kd : Int), .int .i64 pl, .int .u64 (gn : Int)], .slice A len c] w fun e w' => TwoE e ∧ MX X w0 w' a cb bf k m n (lputX n k (k + m) kd pl gn xs sts) ∧ KpX X w w' := by
  have hxl : xs.length = len := R.1
  have hp := h.pos
  unfold lputX
  by_cases hr : rrtB kd pl n = true
  · obtain ⟨p, rfl, hok⟩ := goodP_ok (k := 0) (len := 0) hr
    have hok2 : (⟨kd, p, gn⟩ : Ref).ok n := ⟨hok.k1, hok.k4, hok.p⟩
    by_cases hlx : len ≤ k * 44
    · rw [if_pos (show goodP kd (p : Int) n k xs.length = true by unfold goodP; rw [hr, hxl, decide_eq_true hlx]; rfl)]
      refine (put_m h hok2 (Lib.hid hg) hcl R hc hlx).mono ?_
      rintro e w1 ⟨rfl, hM, hk⟩
      exact ⟨⟨_, _, rfl⟩, hM, hk⟩
    · rw [if_neg (show ¬ goodP kd (p : Int) n k xs.length = true by unfold goodP; rw [hr, hxl, decide_eq_false hlx]; simp)]
      obtain ⟨U, hU⟩ := h.mid.ex
      obtain ⟨C, hA, hC, _⟩ := hU
      refine (sput_large hA h.cod h.len hok2 (by omega) hl).mono ?_
      rintro e w1 ⟨rfl, hb⟩
      exact ⟨⟨_, _, rfl⟩, h.below' hb, KpX.of_below hb fun j hj => h.lt hj⟩
  · have hr' : rrtB kd pl n = false := by simpa using hr
    rw [if_neg (show ¬ goodP kd pl n k xs.length = true by unfold goodP; rw [hr']; simp)]
    obtain ⟨U, C, hA, hC, _⟩ := h.mid.ex
    refine (sput_no hA h.cod h.len (by omega) hr' _).mono ?_
    rintro e w1 ⟨rfl, hb⟩
    exact ⟨⟨_, _, rfl⟩, h.below' hb, KpX.of_below hb fun j hj => h.lt hj⟩
theorem rputX_any {t N : Nat} (h : Dn X w0 w a cb bf k m n sts' V sb x ra) (hT : TInv (k + m) n t sts ra) (ht : t < 800000) {kd gn len c : Nat} {pl : Int} (hg : gn < 2 ^ 64) {A : Option Addr} {S : Nat → Prop} {xs : List Nat} (R : RdL ByR 1 S w A len xs) (hl : len ≤ 100000) :
    Calls Tryz.prog 44 #[.pointer (some ⟨sb, 0, none⟩), .agg #[.int .u8 (kd : Int), .int .i64 pl, .int .u64 (gn : Int)], .slice A len c] w fun e w' => TwoE e ∧ RAUpd V w w' x n (rputX n k (k + m) kd pl gn xs ra) := by
  have hxl : xs.length = len := R.1
  have hp := h.mx.pos
  have hgd := RGd.of_inv hT (by omega)
  unfold rputX
  by_cases hr : rrtB kd pl n = true
  · obtain ⟨p, rfl, hok⟩ := goodP_ok (k := 0) (len := 0) hr
    have hok2 : (⟨kd, p, gn⟩ : Ref).ok n := ⟨hok.k1, hok.k4, hok.p⟩
    by_cases hlx : len ≤ k * 44
    · rw [if_pos (show goodP kd (p : Int) n k xs.length = true by unfold goodP; rw [hr, hxl, decide_eq_true hlx]; rfl)]
      refine (rsput_any h.bx h.ra h.nv hT.lr hp.1 hp.2.2.1 hok2 (by omega) (Lib.hid hg) hgd (by omega) R hlx).mono ?_
      rintro e w1 ⟨rfl, hu⟩
      exact ⟨⟨_, _, rfl⟩, by rw [hxl]; exact hu⟩
    · rw [if_neg (show ¬ goodP kd (p : Int) n k xs.length = true by unfold goodP; rw [hr, hxl, decide_eq_false hlx]; simp)]
      refine (rsput_large h.bx h.ra (by rw [hT.lr]; omega) hr (by omega) (by omega) hl).mono ?_
      rintro e w1 ⟨rfl, hb⟩
      exact ⟨⟨_, _, rfl⟩, h.ra.upd hb⟩
  · have hr' : rrtB kd pl n = false := by simpa using hr
    rw [if_neg (show ¬ goodP kd pl n k xs.length = true by unfold goodP; rw [hr']; simp)]
    refine (rsput_no h.bx h.ra (by rw [hT.lr]; omega) hr').mono ?_
    rintro e w1 ⟨rfl, hb⟩
    exact ⟨⟨_, _, rfl⟩, h.ra.upd hb⟩
theorem TInv.lput {t kd gn : Nat} {pl : Int} {xs : List Nat} (h : TInv (k + m) n t sts ra) (hN : 1 ≤ k + m) : TInv (k + m) n (t + (k + m)) (lputX n k (k + m) kd pl gn xs sts) (rputX n k (k + m) kd pl gn xs ra) := by
  unfold lputX rputX
  split
  · exact h.put hN
  · exact h.mono (by omega)
theorem GdA.lput {t kd gn : Nat} {pl : Int} {xs : List Nat} (h : GdA t sts) (hn : n ≤ 600) (hg : gn < 2 ^ 64) (hk : 1 ≤ k) (hkm : k + m ≤ 255) (hx : Byt xs) : GdA (t + 1) (lputX n k (k + m) kd pl gn xs sts) := by
  unfold lputX
  split
  · rename_i hq
    unfold goodP at hq
    rw [Bool.and_eq_true] at hq
    obtain ⟨p, rfl, hok⟩ := goodP_ok (k := 0) (len := 0) hq.1
    exact h.put ⟨hok.k1, hok.k4, hok.p⟩ hn hg (by omega) hkm (by omega) hx (of_decide_eq_true hq.2)
  · exact h.mono (Nat.le_succ t)
end
end
section
def Frs (st : DSt) : Prop := ∀ b ∈ st.rotten, b = false
theorem frs_put {n k N d : Nat} {r : Ref} (hr : r.ok n) {xs : List Nat} (hx : Byt xs) {st : DSt} (h : Frs st) : Frs (putQ n k N r xs d st) := by
  cases hd : st.dead with
  | true => rw [putQ_dead hd]; exact h
  | false => rw [putQ_live hr hx hd]; exact h
theorem frs_flush {st : DSt} (h : Frs st) : Frs (flushG st) := by
  unfold flushG
  split
  · exact freshL_false _ _ _ _ h
  · exact h
/-- A drive that lives, with nothing under way and nothing spoilt. -/
structure Sld (n : Nat) (st : DSt) : Prop where
  live : st.dead = false
  ok : st.ok n
  cache : st.cache = []
  frs : Frs st
theorem sld_flush {n : Nat} {st : DSt} (h : st.dead = false) (hok : st.ok n) (hf : Frs st) : Sld n (flushG st) := ⟨by rw [flushG_dead]; exact h, flushG_ok hok, by unfold flushG; rw [if_pos h]; rfl, frs_flush hf⟩
theorem cell_rot2 {st : DSt} {z z' : Nat} (hc : st.cache = []) (hne : z' ≠ z) (off : Nat) (mask : Int) : (st.rot z off mask).seen z' = st.seen z' := by
  rw [DSt.seen_nil (st := st.rot z off mask) hc, DSt.seen_nil hc]
  show ((st.stored.set z (rotTo ((st.stored[z]?).getD []) off mask 4))[z']?).getD [] = _
  rw [List.getElem?_set_ne (fun e => hne e.symm)]
end
section
/-- A stripe that is put: its generation, its bytes. -/
abbrev Pt := Nat × List Nat
def ptRef (i : Nat) (p : Pt) : Ref := ⟨3, i, p.1⟩
structure PtOk (k n : Nat) (ps : List Pt) : Prop where
  len : ps.length ≤ n
  gen : ∀ p ∈ ps, p.1 < 2 ^ 64
  byt : ∀ p ∈ ps, Byt p.2
  sz : ∀ p ∈ ps, p.2.length ≤ k * 44
theorem PtOk.ref {k n : Nat} {ps : List Pt} (h : PtOk k n ps) {i : Nat} {p : Pt} (hi : ps[i]? = some p) : (ptRef i p).ok n := ref3_ok (by have := (List.getElem?_eq_some_iff.1 hi).1; have := h.len; omega)
theorem PtOk.hgen {k n : Nat} {ps : List Pt} (h : PtOk k n ps) {i : Nat} {p : Pt} (hi : ps[i]? = some p) : Hid ((ptRef i p).gen < 2 ^ 64) := Lib.hid (h.gen p (List.mem_of_getElem? hi))
/-- Which drives have their shard of each stripe. -/
def Vws (k N : Nat) (ps : List Pt) (gs : Nat → Nat → Bool) (sts : List DSt) : Prop := ∀ i p, ps[i]? = some p → Hds (gs i) k N (ptRef i p) p.2 sts
/-- Drives that live, with nothing under way. -/
def Qt (n N : Nat) (sts : List DSt) : Prop := sts.length = N ∧ ∀ st ∈ sts, st.dead = false ∧ st.ok n ∧ st.cache = []
section
variable {n k N : Nat} {ps : List Pt} {gs : Nat → Nat → Bool} {sts : List DSt}
theorem Qt.deadL (h : Qt n N sts) {d : Nat} (hd : d < N) : deadL sts d = false := by
  have hl : d < sts.length := by rw [h.1]; exact hd
  unfold Go.Proofs.YtihnlhfngmbglaaGreat.deadL
  rw [List.getElem?_eq_getElem hl]
  exact (h.2 _ (List.getElem_mem hl)).1
theorem Qt.same (h : Qt n N sts) : sts.map flushG = sts := by
  conv => rhs; rw [← List.map_id sts]
  refine List.map_congr_left fun st hst => ?_
  obtain ⟨h1, _, h3⟩ := h.2 st hst
  unfold flushG
  rw [if_pos h1]
  show (⟨putL _ 0 st.cache st.stored, freshL _ 0 st.cache st.rotten, [], st.dead⟩ : DSt) = st
  rw [h3]
  show (⟨st.stored, st.rotten, [], st.dead⟩ : DSt) = st
  cases st
  cases h3
  rfl
theorem settle_same {st : DSt} (h : st.cache = []) (keep : Nat → Bool) : st.settle keep = st := by
  show (⟨putL _ 0 st.cache st.stored, freshL _ 0 st.cache st.rotten, [], st.dead⟩ : DSt) = st
  rw [h]
  show (⟨st.stored, st.rotten, [], st.dead⟩ : DSt) = st
  cases st
  cases h
  rfl
theorem Qt.crash (h : Qt n N sts) (ks : List (List Bool)) : sts.mapIdx (crashG ks) = sts := by
  apply List.ext_getElem?
  intro d
  rw [List.getElem?_mapIdx]
  cases hd : sts[d]? with
  | none => rfl
  | some st =>
    show some (st.settle _) = some st
    rw [settle_same (h.2 st (List.mem_of_getElem? hd)).2.2]
theorem Qt.cache (h : Qt n N sts) {c : Nat} (hc : 0 < c) : ∀ st ∈ sts, st.cache.length < c := fun st hst => by rw [(h.2 st hst).2.2]; exact hc
/-! ### Laid -/
structure LayI (n k N : Nat) (ps : List Pt) (i : Nat) (sts : List DSt) : Prop where
  len : sts.length = N
  live : ∀ st ∈ sts, st.dead = false
  cache : ∀ st ∈ sts, st.cache.length ≤ i
  frs : ∀ st ∈ sts, Frs st
  vw : ∀ j p, j < i → ps[j]? = some p → Hds (fun _ => true) k N (ptRef j p) p.2 sts
theorem LayI.zero : LayI n k N ps 0 (newS n N) := by
  refine ⟨by unfold newS; rw [List.length_replicate], fun st h => ?_, fun st h => ?_, fun st h => ?_, fun j p h => by omega⟩
  all_goals
    obtain ⟨d, hd⟩ := List.getElem?_of_mem h
    obtain ⟨rfl, _⟩ := newS_at hd
  · rfl
  · exact Nat.le_refl _
  · intro b hb
    exact List.eq_of_mem_replicate hb
theorem LayI.next {i : Nat} {p : Pt} (h : LayI n k N ps i sts) (hp : PtOk k n ps) (hi : ps[i]? = some p) : LayI n k N ps (i + 1) (sts.mapIdx (putQ n k N (ptRef i p) p.2)) := by
  have hr := hp.ref hi
  have hx := hp.byt p (List.mem_of_getElem? hi)
  have hat : ∀ st ∈ sts.mapIdx (putQ n k N (ptRef i p) p.2), ∃ d s1, s1 ∈ sts ∧ st = putQ n k N (ptRef i p) p.2 d s1 := fun st hst => by
    obtain ⟨d, hd⟩ := List.getElem?_of_mem hst
    obtain ⟨s1, h1, rfl⟩ := mapIdx_at hd
    exact ⟨d, s1, List.mem_of_getElem? h1, rfl⟩
  refine ⟨by rw [List.length_mapIdx, h.len], fun st hst => ?_, fun st hst => ?_, fun st hst => ?_, fun j q hj hq => ?_⟩
  · obtain ⟨d, s1, h1, rfl⟩ := hat st hst
    rw [putQ_live hr hx (h.live s1 h1)]
    exact h.live s1 h1
  · obtain ⟨d, s1, h1, rfl⟩ := hat st hst
    have := h.cache s1 h1
    have := putQ_cache (n := n) (k := k) (N := N) (r := ptRef i p) (xs := p.2) (d := d) (st := s1)
    omega
  · obtain ⟨d, s1, h1, rfl⟩ := hat st hst
    exact frs_put hr hx (h.frs s1 h1)
  · by_cases e : j = i
    · subst e
      obtain rfl : p = q := by rw [hi] at hq; exact Option.some.inj hq
      refine (Hds.new (N := N) hr hx (fun st hst hd => by rw [h.live st hst] at hd; cases hd)).congr fun d hd => ?_
      rw [List.length_mapIdx] at hd
      have hl := h.live _ (List.getElem_mem hd)
      unfold deadL
      rw [List.getElem?_eq_getElem hd]
      show true = !(sts[d]).dead
      rw [hl]
      rfl
    · exact (h.vw j q (by omega) hq).put hr hx (by show i ≠ j; omega)
theorem LayI.flush {L : Nat} (h : LayI n k N ps L sts) (hL : ps.length = L) (hp : PtOk k n ps) (hok : ∀ st ∈ sts, st.ok n) : Qt n N (sts.map flushG) ∧ (∀ st ∈ sts.map flushG, Sld n st) ∧ Vws k N ps (fun _ _ => true) (sts.map flushG) := by
  have hs : ∀ st ∈ sts.map flushG, Sld n st := fun st hst => by
    obtain ⟨s1, h1, rfl⟩ := List.mem_map.1 hst
    exact sld_flush (h.live s1 h1) (hok s1 h1) (h.frs s1 h1)
  refine ⟨⟨by rw [List.length_map, h.len], fun st hst => ⟨(hs st hst).live, (hs st hst).ok, (hs st hst).cache⟩⟩, hs, fun i p hi => ?_⟩
  exact (h.vw i p (by have := (List.getElem?_eq_some_iff.1 hi).1; omega) hi).flush (hp.ref hi) hok
/-! ### Rot -/
/-- Which sectors are rotten, as the views say. -/
def RtV (k N : Nat) (ps : List Pt) (gs : Nat → Nat → Bool) (sts : List DSt) : Prop := ∀ i p d st, ps[i]? = some p → sts[d]? = some st → st.rotten[i]? = some (!gs i d)
def rotG (gs : Nat → Nat → Bool) (d z : Nat) (i x : Nat) : Bool := if i = z ∧ x = d then false else gs i x
theorem rot_step {d z : Nat} (hq : Qt n N sts) (hv : Vws k N ps gs sts) (ht : RtV k N ps gs sts) (hp : PtOk k n ps) (hn : n ≤ 600) (hk2 : k ≤ 255) (hN : 1 ≤ N) (hN2 : N ≤ 255) (hd : d < N) :
    Qt n N (rotA n sts (d : Int) (z : Int) 16 255) ∧ Vws k N ps (rotG gs d z) (rotA n sts (d : Int) (z : Int) 16 255) ∧ RtV k N ps (rotG gs d z) (rotA n sts (d : Int) (z : Int) 16 255) := by
  have hl : d < sts.length := by rw [hq.1]; exact hd
  have hst : sts[d]? = some sts[d] := List.getElem?_eq_getElem hl
  obtain ⟨q1, q2, q3⟩ := hq.2 _ (List.getElem_mem hl)
  have e0 : rotA n sts (d : Int) (z : Int) 16 255 = sts.set d (rtDA n sts[d] (z : Int) 16 255) := by
    unfold rotA
    rw [if_pos ⟨by omega, by omega⟩, Int.toNat_natCast, hst]
  rw [e0]
  by_cases hr : rotDOk sts[d] n (z : Int) 16 255
  · have e1 : rtDA n sts[d] (z : Int) 16 255 = sts[d].rot z 16 255 := by unfold rtDA; rw [if_pos hr]; rfl
    have hz : z < n := by have := hr.1.2.2; omega
    rw [e1]
    refine ⟨⟨by rw [List.length_set]; exact hq.1, fun st h => ?_⟩, fun i p hi => ?_, fun i p x st hi hx => ?_⟩
    · rcases List.mem_or_eq_of_mem_set h with h | rfl
      · exact hq.2 st h
      · refine ⟨q1, ⟨?_, ?_, ?_, q2.c64, q2.cat⟩, q3⟩
        · show (sts[d].stored.set z _).length = n; rw [List.length_set]; exact q2.sl
        · show (sts[d].rotten.set z true).length = n; rw [List.length_set]; exact q2.rl
        · intro y hy
          have hy : y ∈ sts[d].stored.set z (rotTo ((sts[d].stored[z]?).getD []) 16 255 4) := hy
          rcases List.mem_or_eq_of_mem_set hy with hy | rfl
          · exact q2.s64 y hy
          · have hzl : z < sts[d].stored.length := by rw [q2.sl]; exact hz
            rw [List.getElem?_eq_getElem hzl]
            rw [rotTo_len]
            exact q2.s64 _ (List.getElem_mem hzl)
    · refine (hv i p hi).set (fun x hx => by unfold rotG; rw [if_neg (by omega)]) fun _ => ?_
      by_cases e : i = z
      · subst e
        refine .inr ⟨by unfold rotG; rw [if_pos ⟨rfl, rfl⟩], ?_⟩
        have ht1 := ht i p d _ hi hst
        have hr2 := hr.2.2
        rw [Int.toNat_natCast] at hr2
        rw [hr2] at ht1
        have hg : gs i d = true := by
          have := Option.some.inj ht1
          cases hgg : gs i d with
          | true => rfl
          | false => rw [hgg] at this; cases this
        rcases hv i p hi d _ hst with ⟨_, hH⟩ | ⟨hf, _⟩
        · refine lost_rot (off := 16) (mask := 255) (putX_ok (k := k) (xs := p.2) (N := N) (hp.ref hi) hn (hp.hgen hi) (hp.byt p (List.mem_of_getElem? hi)) (by have := hp.sz p (List.mem_of_getElem? hi); omega) hN hN2 d) (by decide) (by decide) (by decide) ?_
          rw [← hH.2]
          exact cell_rot q3 q2 hz 16 255
        · rw [hg] at hf; cases hf
      · have hs : (sts[d].rot z 16 255).seen (ptRef i p).place = sts[d].seen (ptRef i p).place := cell_rot2 q3 (by show i ≠ z; exact e) 16 255
        have hg : rotG gs d z i d = gs i d := by unfold rotG; rw [if_neg (by omega)]
        rw [hg]
        rcases hv i p hi d _ hst with ⟨h1, h2, h3⟩ | ⟨h1, h2⟩
        · exact .inl ⟨h1, h2, by rw [hs]; exact h3⟩
        · exact .inr ⟨h1, lost_seen h2 hs rfl⟩
    · by_cases e : d = x
      · subst e
        rw [List.getElem?_set_self hl] at hx
        obtain rfl := Option.some.inj hx
        show (sts[d].rotten.set z true)[i]? = _
        by_cases e2 : i = z
        · subst e2
          rw [List.getElem?_set_self (by rw [q2.rl]; exact hz)]
          unfold rotG
          rw [if_pos ⟨rfl, rfl⟩]; rfl
        · rw [List.getElem?_set_ne (fun e => e2 e.symm), ht i p d _ hi hst]
          unfold rotG
          rw [if_neg (by omega)]
      · rw [List.getElem?_set_ne e] at hx
        rw [ht i p x st hi hx]
        unfold rotG
        rw [if_neg (by omega)]
  · have e1 : rtDA n sts[d] (z : Int) 16 255 = sts[d] := by unfold rtDA; rw [if_neg hr]
    rw [e1, List.set_getElem_self]
    have hno : ∀ i p, ps[i]? = some p → i = z → gs i d = false := fun i p hi e => by
      subst e
      cases hg : gs i d with
      | false => rfl
      | true =>
        refine absurd ?_ hr
        have := ht i p d _ hi hst
        rw [hg] at this
        exact ⟨⟨q1, by omega, by have := (List.getElem?_eq_some_iff.1 hi).1; have := hp.len; omega⟩, ⟨⟨by decide, by decide⟩, by decide⟩, by rw [Int.toNat_natCast]; exact this⟩
    have he : ∀ i p x, ps[i]? = some p → rotG gs d z i x = gs i x := fun i p x hi => by
      unfold rotG
      split
      · rename_i h
        rw [h.2, hno i p hi h.1]
      · rfl
    exact ⟨hq, fun i p hi => (hv i p hi).congr fun x _ => he i p x hi, fun i p x st hi hx => by rw [he i p x hi]; exact ht i p x st hi hx⟩
end
end
end Go.Proofs.YtihnlhfngmbglaaGreat
namespace Go.Proofs.YtihnlhfngmbglaaGreat
open Go.Shelf Go.Proofs
def Tryz.keysI_ren : Go.Shelf.Ren := ⟨fun | 7 => 67 | 10 => 127 | n => n, fun | 23 => 116 | 26 => 3 | 3 => 4 | 28 => 123 | 0 => 0 | 27 => 122 | 33 => 161 | 4 => 4 | n => n, fun | n => n⟩
theorem Tryz.keysI : Go.Proofs.SlLaysZI.n7 Tryz.prog Tryz.keysI_ren := {
  mixed := by kernel_rfl
  f7 := ⟨Tryz.f67.name, by decide, Tryz.func67.trans (congrArg some (by kernel_rfl))⟩
  f10 := ⟨Tryz.f127.name, by decide, Tryz.func127.trans (congrArg some (by kernel_rfl))⟩
  t0 := Tryz.underlying0
  a0 := Tryz.isAgg0
  z0 := Tryz.sizeOf0
  v0 := Tryz.zeroValue0
  t4 := Tryz.underlying4
  a4 := Tryz.isAgg4
  z4 := Tryz.sizeOf4
  v4 := Tryz.zeroValue4
  t23 := Tryz.underlying116
  a23 := Tryz.isAgg116
  z23 := Tryz.sizeOf116
  v23 := Tryz.zeroValue116
  t26 := Tryz.underlying3
  a26 := Tryz.isAgg3
  z26 := Tryz.sizeOf3
  v26 := Tryz.zeroValue3
  t27 := Tryz.underlying122
  a27 := Tryz.isAgg122
  z27 := Tryz.sizeOf122
  v27 := Tryz.zeroValue122
  t28 := Tryz.underlying123
  a28 := Tryz.isAgg123
  z28 := Tryz.sizeOf123
  v28 := Tryz.zeroValue123
  t33 := Tryz.underlying161
  a33 := Tryz.isAgg161
  z33 := Tryz.sizeOf161
  v33 := Tryz.zeroValue161 }
def Tryz.sortedI_ren : Go.Shelf.Ren := ⟨fun | 6 => 66 | 8 => 125 | 9 => 126 | 11 => 154 | 13 => 156 | 12 => 155 | 23 => 195 | 24 => 196 | 14 => 186 | 15 => 187 | 16 => 188 | 17 => 189 | 18 => 190 | 19 => 191 | 20 => 192 | 21 => 193 | 22 => 194 | 25 => 222 | 26 => 223 | 27 => 224 | 28 => 225 | 29 => 226 | 30 => 227 | 31 => 244 | n => n, fun | 26 => 3 | 28 => 123 | 24 => 26 | 0 => 0 | 3 => 3 | 37 => 238 | 48 => 56 | 50 => 36 | 4 => 4 | 40 => 269 | 39 => 268 | 45 => 173 | 5 => 5 | 9 => 9 | 51 => 304 | 55 => 308 | 57 => 322 | 58 => 82 | 33 => 161 | n => n, fun | n => n⟩
theorem Tryz.sortedI : Go.Proofs.SlLaysZI.n6 Tryz.prog Tryz.sortedI_ren := {
  mixed := by kernel_rfl
  f6 := ⟨Tryz.f66.name, by decide, Tryz.func66.trans (congrArg some (by kernel_rfl))⟩
  f8 := ⟨Tryz.f125.name, by decide, Tryz.func125.trans (congrArg some (by kernel_rfl))⟩
  f11 := ⟨Tryz.f154.name, by decide, Tryz.func154.trans (congrArg some (by kernel_rfl))⟩
  t0 := Tryz.underlying0
  a0 := Tryz.isAgg0
  z0 := Tryz.sizeOf0
  v0 := Tryz.zeroValue0
  t24 := Tryz.underlying26
  a24 := Tryz.isAgg26
  z24 := Tryz.sizeOf26
  v24 := Tryz.zeroValue26
  t26 := Tryz.underlying3
  a26 := Tryz.isAgg3
  z26 := Tryz.sizeOf3
  v26 := Tryz.zeroValue3
  t28 := Tryz.underlying123
  a28 := Tryz.isAgg123
  z28 := Tryz.sizeOf123
  v28 := Tryz.zeroValue123
  i26 := by kernel_rfl }
def Tryz.sortI_ren : Go.Shelf.Ren := ⟨fun | 5 => 126 | 8 => 156 | 7 => 155 | 19 => 195 | 20 => 196 | 10 => 186 | 11 => 187 | 12 => 188 | 13 => 189 | 14 => 190 | 15 => 191 | 16 => 192 | 17 => 193 | 18 => 194 | 30 => 222 | 31 => 223 | 32 => 224 | 33 => 225 | 34 => 226 | 35 => 227 | 40 => 244 | n => n, fun | 23 => 26 | 25 => 3 | 3 => 3 | 32 => 238 | 22 => 26 | 0 => 0 | 44 => 56 | 46 => 36 | 4 => 4 | 36 => 269 | 35 => 268 | 41 => 173 | 5 => 5 | 9 => 9 | 53 => 304 | 57 => 308 | 63 => 322 | 64 => 82 | n => n, fun | n => n⟩
theorem Tryz.sortI : Go.Proofs.SlLaysM.n5 Tryz.prog Tryz.sortI_ren := {
  mixed := by kernel_rfl
  f5 := ⟨Tryz.f126.name, by decide, Tryz.func126.trans (congrArg some (by kernel_rfl))⟩
  f7 := ⟨Tryz.f155.name, by decide, Tryz.func155.trans (congrArg some (by kernel_rfl))⟩
  f8 := Tryz.func156.trans (congrArg some (by kernel_rfl))
  f10 := ⟨Tryz.f186.name, by decide, Tryz.func186.trans (congrArg some (by kernel_rfl))⟩
  f11 := ⟨Tryz.f187.name, by decide, Tryz.func187.trans (congrArg some (by kernel_rfl))⟩
  f12 := ⟨Tryz.f188.name, by decide, Tryz.func188.trans (congrArg some (by kernel_rfl))⟩
  f13 := ⟨Tryz.f189.name, by decide, Tryz.func189.trans (congrArg some (by kernel_rfl))⟩
  f14 := ⟨Tryz.f190.name, by decide, Tryz.func190.trans (congrArg some (by kernel_rfl))⟩
  f15 := ⟨Tryz.f191.name, by decide, Tryz.func191.trans (congrArg some (by kernel_rfl))⟩
  f16 := ⟨Tryz.f192.name, by decide, Tryz.func192.trans (congrArg some (by kernel_rfl))⟩
  f17 := ⟨Tryz.f193.name, by decide, Tryz.func193.trans (congrArg some (by kernel_rfl))⟩
  f18 := ⟨Tryz.f194.name, by decide, Tryz.func194.trans (congrArg some (by kernel_rfl))⟩
  f19 := Tryz.func195.trans (congrArg some (by kernel_rfl))
  f20 := Tryz.func196.trans (congrArg some (by kernel_rfl))
  f30 := ⟨Tryz.f222.name, by decide, Tryz.func222.trans (congrArg some (by kernel_rfl))⟩
  f31 := Tryz.func223.trans (congrArg some (by kernel_rfl))
  f32 := Tryz.func224.trans (congrArg some (by kernel_rfl))
  f33 := ⟨Tryz.f225.name, by decide, Tryz.func225.trans (congrArg some (by kernel_rfl))⟩
  f34 := ⟨Tryz.f226.name, by decide, Tryz.func226.trans (congrArg some (by kernel_rfl))⟩
  f35 := ⟨Tryz.f227.name, by decide, Tryz.func227.trans (congrArg some (by kernel_rfl))⟩
  f40 := ⟨Tryz.f244.name, by decide, Tryz.func244.trans (congrArg some (by kernel_rfl))⟩
  t0 := Tryz.underlying0
  a0 := Tryz.isAgg0
  z0 := Tryz.sizeOf0
  v0 := Tryz.zeroValue0
  t3 := Tryz.underlying3
  a3 := Tryz.isAgg3
  z3 := Tryz.sizeOf3
  v3 := Tryz.zeroValue3
  t4 := Tryz.underlying4
  a4 := Tryz.isAgg4
  z4 := Tryz.sizeOf4
  v4 := Tryz.zeroValue4
  t5 := Tryz.underlying5
  a5 := Tryz.isAgg5
  z5 := Tryz.sizeOf5
  v5 := Tryz.zeroValue5
  t9 := Tryz.underlying9
  a9 := Tryz.isAgg9
  z9 := Tryz.sizeOf9
  v9 := Tryz.zeroValue9
  t22 := Tryz.underlying26
  a22 := Tryz.isAgg26
  z22 := Tryz.sizeOf26
  v22 := Tryz.zeroValue26
  t23 := Tryz.underlying26
  a23 := Tryz.isAgg26
  z23 := Tryz.sizeOf26
  v23 := Tryz.zeroValue26
  t25 := Tryz.underlying3
  a25 := Tryz.isAgg3
  z25 := Tryz.sizeOf3
  v25 := Tryz.zeroValue3
  t32 := Tryz.underlying238
  a32 := Tryz.isAgg238
  z32 := Tryz.sizeOf238
  v32 := Tryz.zeroValue238
  t35 := Tryz.underlying268
  a35 := Tryz.isAgg268
  z35 := Tryz.sizeOf268
  v35 := Tryz.zeroValue268
  t36 := Tryz.underlying269
  a36 := Tryz.isAgg269
  z36 := Tryz.sizeOf269
  v36 := Tryz.zeroValue269
  t41 := Tryz.underlying173
  a41 := Tryz.isAgg173
  z41 := Tryz.sizeOf173
  v41 := Tryz.zeroValue173
  t44 := Tryz.underlying56
  a44 := Tryz.isAgg56
  z44 := Tryz.sizeOf56
  v44 := Tryz.zeroValue56
  t46 := Tryz.underlying36
  a46 := Tryz.isAgg36
  z46 := Tryz.sizeOf36
  v46 := Tryz.zeroValue36
  t53 := Tryz.underlying304
  a53 := Tryz.isAgg304
  z53 := Tryz.sizeOf304
  v53 := Tryz.zeroValue304
  t57 := Tryz.underlying308
  a57 := Tryz.isAgg308
  z57 := Tryz.sizeOf308
  v57 := Tryz.zeroValue308
  t63 := Tryz.underlying322
  a63 := Tryz.isAgg322
  z63 := Tryz.sizeOf322
  v63 := Tryz.zeroValue322
  t64 := Tryz.underlying82
  a64 := Tryz.isAgg82
  z64 := Tryz.sizeOf82
  v64 := Tryz.zeroValue82 }
end Go.Proofs.YtihnlhfngmbglaaGreat

set_option linter.unusedSimpArgs false
set_option linter.unusedVariables false
namespace Go.Proofs.YtihnlhfngmbglaaGreat
open Go.RowKit Go.Cib
attribute [local go_sem] cell_set Later.cell Later.frozen Grw.cell Grw.frozen
section
open Go.Maps Go.Sort Go.Shelf Go.Proofs Go.WideElems Go.MapKept Go.WideShapes Go.ChangeMaps

/-- A reader that asks nothing. -/
def anyRI (_ : Value) : Option (DataW Unit × List MemPlace) := some (.nil, [])
def kOk (x : Int) : Prop := (Lit.int IntKind.i64 x).wf = true
theorem MapAt.ownsI {P : Program} {K : TypeId} (hK : P.underlying K = some (.int .i64)) {w : World} {b : Nat} {es : List (Int × Value)} (h : MapAt (Value.int .i64) w b es) (hk : ∀ p ∈ es, kOk p.1) (hl : es.length ≤ maxLen) :
    ∃ D0 : DataW Unit, w.ownsMap P K anyRI b es.length D0 ∧ Maps.size D0 = es.length ∧ (intKeys D0).Perm (es.map fun p => p.1) := by
  obtain ⟨h0, arr, clock, h1, h2, h3, h4⟩ := h
  have hsz : arr.size = es.length := by have := congrArg List.length h2; simpa using this
  have hkey : ∀ s : Int, kOk s → keyOf P K (.int .i64 s) = some (.int .i64 s) := fun s hs => by
    unfold kOk at hs
    simp [keyOf, hK, mapKey, hs]
  have hkeys : arr.toList.map (·.key) = es.map (fun p => Value.int .i64 p.1) := by
    have := congrArg (List.map Prod.fst) h2
    simpa [List.map_map, Function.comp_def] using this
  have hent : ∀ x ∈ arr.toList, ∃ s, x.key = .int .i64 s ∧ kOk s := fun x hx => by
    have : x.key ∈ es.map (fun p => Value.int .i64 p.1) := by rw [← hkeys]; exact List.mem_map_of_mem hx
    obtain ⟨p, hp, e⟩ := List.mem_map.1 this
    exact ⟨p.1, e.symm, hk p hp⟩
  have hrg : arr.toList.map (rg P K anyRI) = es.map (fun p => (Lit.int .i64 p.1, (DataW.nil : DataW Unit))) := by
    have e1 : arr.toList.map (rg P K anyRI) = (arr.toList.map (·.key)).map (fun v => match v with | .int .i64 s => (Lit.int .i64 s, (DataW.nil : DataW Unit)) | _ => (.bool false, .nil)) := by
      rw [List.map_map]
      refine List.map_congr_left fun x hx => ?_
      obtain ⟨s, hs, hs2⟩ := hent x hx
      simp [WideElems.rg, WideElems.rd, hs, hkey s hs2, anyRI]
    rw [e1, hkeys, List.map_map]
    rfl
  refine ⟨.map ((arr.toList.map (rg P K anyRI)).foldr DataW.insert []), ⟨arr, clock, h1, ⟨by omega, ⟨h4, h3, ?_⟩, fun x hx => ?_⟩, by omega, rfl⟩, ?_, ?_⟩
  · rw [hkeys]
    rw [show (fun p : Int × Value => Value.int .i64 p.1) = Value.int .i64 ∘ (·.1) from rfl, ← List.map_map]
    exact List.Pairwise.map _ (fun a b hab e => hab (by injection e)) h0
  · obtain ⟨s, hs, hs2⟩ := hent x hx
    exact ⟨(.int .i64 s, .nil), by simp [WideElems.rd, hs, hkey s hs2, anyRI]⟩
  · show List.length _ = _
    rw [length_sorted]
    simpa using hsz
  · show List.Perm (List.map _ _) _
    refine ((sorted_perm _).map _).trans ?_
    rw [hrg, List.map_map]
    exact List.Perm.refl _
theorem sort_risesI {ss : List Int} {xs : List Int} (hp : ss.Perm xs) (hr : xs.Pairwise fun x y => x < y) : ss.mergeSort (fun x y => decide (x ≤ y)) = xs := by
  have tr : ∀ a b c : Int, decide (a ≤ b) = true → decide (b ≤ c) = true → decide (a ≤ c) = true := fun a b c h1 h2 => by simp only [decide_eq_true_eq] at *; omega
  have to : ∀ a b : Int, (decide (a ≤ b) || decide (b ≤ a)) = true := fun a b => by simp only [Bool.or_eq_true, decide_eq_true_eq]; omega
  refine List.Perm.eq_of_pairwise (le := fun a b => decide (a ≤ b) = true) (fun a b _ _ h1 h2 => ?_) (List.pairwise_mergeSort tr to ss) ?_ ((List.mergeSort_perm ss _).trans hp)
  · simp only [decide_eq_true_eq] at h1 h2
    omega
  · exact hr.imp fun h => by simp only [decide_eq_true_eq]; omega
theorem ints_ownK {w : World} {base n : Nat} {v : Value} {l : List Int} (h : w.ownsRow base 3 1 v n (l.map (Value.int .i64))) : ∃ A c, v = .slice A n c ∧ n ≤ c ∧ RdL IntR 1 (fun j => base ≤ j) w A n l := by
  have hl : l.length = n := by have := h.1; simpa using this
  rcases h.2 with ⟨rfl, h0⟩ | ⟨g, cap, cur, rfl, hg, hblk, hnc, hcm, hsz, ht⟩
  · subst h0
    exact ⟨none, 0, rfl, Nat.le_refl _, by rw [List.length_eq_zero_iff.1 hl]; exact RdL.nil⟩
  · refine ⟨_, cap, rfl, hnc, hl, fun _ => ⟨g, 0, rfl, hg, (Array.getElem?_eq_some_iff.1 hblk).1, fun i x hx => ⟨[.int .i64 x], rfl, rfl, fun j u hj => ?_⟩⟩⟩
    rcases j with _ | j
    · simp at hj; subst hj
      have hc := h.cells (g := g) rfl i (.int .i64 x) (by rw [List.getElem?_map, hx]; rfl)
      rw [Addr.add_lit, Nat.zero_add] at hc
      rw [show 0 + i * 1 + 0 = i by omega]
      exact hc
    · simp at hj
theorem sortsI (m : Nat) : AnyZI.SortsIn Tryz.prog Tryz.sortedI_ren Fence.wide m :=
  ⟨fun blk off cap ss W hH hblk hsz => callsIn_wide.2 (AnyM.slices_Sort_int Tryz.sortI blk off cap ss W hH hblk hsz),
   fun p cap W => callsIn_wide.2 (AnyM.slices_Sort_int_none Tryz.sortI p cap W)⟩
theorem keysI_it (mb : Option Nat) (W : World) : Calls Tryz.prog 67 #[.map mb] W fun e w' => e = .returned (.func (.func 127) #[] #[.pointer (some ⟨W.heap.size, 0, none⟩)]) ∧ w' = W.alloc (.cells #[.map mb] 116) :=
  (callsIn_wide (n := 5)).1 (AnyZI.keys_in Tryz.keysI Fence.wide 5 trivial rfl mb W)
theorem sortedK_any {w : World} {b p : Nat} {es : List (Int × Value)} {xs : List Int} (hm : MapAt (Value.int .i64) w b es) (hp : w.cell? ⟨p, 0, none⟩ = some (.map (some b))) (hpl : p < w.heap.size) (hk : ∀ q ∈ es, kOk q.1) (hl : es.length ≤ 1000000)
    (hx : (es.map (·.1)).Perm xs) (hr : xs.Pairwise fun x y => x < y) :
    Calls Tryz.prog 66 #[.func (.func 127) #[] #[.pointer (some ⟨p, 0, none⟩)]] w fun e w' => ∃ A c, e = .returned (.slice A xs.length c) ∧ xs.length ≤ c ∧ RdL IntR 1 (fun j => w.heap.size ≤ j) w' A xs.length xs ∧ Below w.heap.size w w' := by
  refine (callsIn_wide (n := 5)).1 ?_
  obtain ⟨D0, hown, hsz, hperm⟩ := MapAt.ownsI (P := Tryz.prog) (K := 3) (by kernel_rfl) hm hk (by unfold maxLen; omega)
  have hseq : SeqGives Fence.wide 2 Tryz.prog 127 #[.pointer (some ⟨p, 0, none⟩)] encZ (fun ss => ss.Perm (intKeys D0)) (Maps.size D0) w :=
    AnyZI.keys_gives (ρ := Tryz.keysI_ren) { Tryz.keysI with } Fence.wide _ trivial rfl (by omega) p b es.length D0 _ hpl hp hown
  have cS := AnyZI.sorted_in Tryz.sortedI Fence.wide 5 trivial trivial trivial trivial rfl (by omega) (sortsI _) (enters_of Tryz.func126 (by kernel_rfl) rfl) 127 #[.pointer (some ⟨p, 0, none⟩)] trivial (enters_of Tryz.func127 (by kernel_rfl) rfl) _ _ (by rw [hsz]; unfold maxLen; omega) (by rw [hsz]; omega) _ hseq
  change CallsIn _ _ Tryz.prog 66 _ _ _ at cS
  refine cS.mono ?_
  rintro e w' ⟨v, ss, rfl, hS, hrow, hnil, hb⟩
  have hperm2 : ss.Perm xs := (hS.trans hperm).trans hx
  have hlen : ss.length = xs.length := hperm2.length_eq
  rw [sort_risesI hperm2 hr, hlen] at hrow
  obtain ⟨A, c, rfl, hc, hrd⟩ := ints_ownK hrow
  exact ⟨A, c, rfl, hc, hrd, hb⟩
end
section
/-- A stripe's name, at any place. -/
structure RfI where
  kind : Int
  place : Int
  gen : Int
def RfI.C (r : RfI) : Array Value := #[.int .u8 r.kind, .int .i64 r.place, .int .u64 r.gen]
def RfI.none_ : RfI := ⟨0, 0, 0⟩
def RfIR (_ : Nat → Prop) (_ : World) (cs : List Value) (x : RfI) : Prop := cs = [.int .u8 x.kind, .int .i64 x.place, .int .u64 x.gen]
theorem RfIR.stable : Stable RfIR := fun _ _ _ _ _ _ h _ => h
theorem RfIR.one : ∀ S w cs x, RfIR S w cs x → ∀ u ∈ cs, u.oneCell' = true := by
  rintro S w cs x rfl u hu
  simp only [List.mem_cons, List.not_mem_nil, or_false] at hu
  rcases hu with rfl | rfl | rfl <;> rfl
theorem sl_rfi : SlTy Tryz.prog 34 38 (.agg #[.int .u8 0, .int .i64 0, .int .u64 0]) 3 24 := ⟨by kernel_rfl, by kernel_rfl, by kernel_rfl, by omega⟩
theorem rfi_at {S : Nat → Prop} {w : World} {A : Option Addr} {n : Nat} {xs : List RfI} (h : RdL RfIR 3 S w A n xs) {i : Nat} (hi : i < n) : ∃ b o x, A = some ⟨b, o, none⟩ ∧ xs[i]? = some x ∧ b < w.heap.size ∧ S b ∧ w.cell? ⟨b, o + i * 3, none⟩ = some (.int .u8 x.kind) ∧ w.cell? ⟨b, o + i * 3 + 1, none⟩ = some (.int .i64 x.place) ∧ w.cell? ⟨b, o + i * 3 + 2, none⟩ = some (.int .u64 x.gen) := by
  obtain ⟨b, o, rfl, hS, hlt⟩ := h.addr hi
  obtain ⟨hl, cs, h1, h2, h3⟩ := h.at hi
  have h4 : cs = [.int .u8 (xs[i]).kind, .int .i64 (xs[i]).place, .int .u64 (xs[i]).gen] := h2
  subst h4
  refine ⟨b, o, xs[i], rfl, by simp [hl], hlt, hS, ?_, ?_, ?_⟩
  · simpa using h3 0 _ rfl
  · simpa using h3 1 _ rfl
  · simpa using h3 2 _ rfl
def plF (xs : List RfI) (i : Nat) : Int := (xs.getD i RfI.none_).place
theorem plF_at {xs : List RfI} {i : Nat} {x : RfI} (h : xs[i]? = some x) : plF xs i = x.place := by unfold plF; rw [List.getD_eq_getElem?_getD, h]; rfl
/-- The first least one of those of which it is said so. -/
def lstF (is : Nat → Bool) (pl : Nat → Int) : Nat → Nat × Bool
  | 0 => (0, false)
  | i + 1 => if is i = true ∧ ((lstF is pl i).2 = false ∨ pl i < pl (lstF is pl i).1) then (i, true) else lstF is pl i
/-! ### the scrubber -/
end
section
theorem un_ibmap : Tryz.prog.underlying 116 = some (.map 3 4) := by kernel_rfl
theorem kt_intL : KeyTy Tryz.prog 3 (Value.int .i64) := keyTy_int (by kernel_rfl)
/-- A contract of a call that tells how many rows there are. -/
def CNt (w : World) (vc : Value) (N : Nat) : Prop := ∀ W, Below w.heap.size w W → Calls Tryz.prog 57 #[vc] W fun e w' => e = .returned (.int .i64 (N : Int)) ∧ Below W.heap.size W w'
theorem CNt.below {w w' : World} {vc : Value} {N : Nat} (h : CNt w vc N) (hb : Below w.heap.size w w') : CNt w' vc N := fun W hW => h W (hb.trans (hW.mono hb.size))
def drvE (l : List Nat) : List (Int × Value) := l.map fun d : Nat => ((d : Int), Value.bool true)
theorem drvE_new (i : Nat) : mput (drvE (List.range i)) (i : Int) (.bool true) = drvE (List.range (i + 1)) := by
  rw [mput_new _ _ _ (fun p hp => by
    obtain ⟨d, hd, rfl⟩ := List.mem_map.1 hp
    have := List.mem_range.1 hd
    show (d : Int) ≠ i
    omega)]
  unfold drvE
  rw [List.range_succ, List.map_append]
  rfl
theorem mdel_drv {d0 : Nat} : ∀ (l : List Nat), l.Nodup → mdel (drvE l) (d0 : Int) = drvE (l.filter fun d => decide (d ≠ d0))
  | [], _ => rfl
  | x :: l, h => by
    have h2 := List.nodup_cons.1 h
    have ih := mdel_drv (d0 := d0) l h2.2
    show (if ((x : Int) = (d0 : Int)) then drvE l else ((x : Int), Value.bool true) :: mdel (drvE l) d0) = _
    by_cases e : x = d0
    · subst e
      rw [if_pos rfl, List.filter_cons_of_neg (by simp), List.filter_eq_self.2 (fun a ha => by
        have : a ≠ x := fun e => h2.1 (e ▸ ha)
        simpa using this)]
    · rw [if_neg (by omega), List.filter_cons_of_pos (by simpa using e), ih]
      rfl
set_option maxHeartbeats 4000000 in
theorem ldrives_any {w : World} {vc : Value} {N : Nat} (hN : CNt w vc N) (hN2 : N ≤ 255) :
    Calls Tryz.prog 63 #[vc] w fun e w' => ∃ mb, e = .returned (.map (some mb)) ∧ MapAt (Value.int .i64) w' mb (drvE (List.range N)) ∧ Below w.heap.size w w' ∧ w.heap.size ≤ mb := by
  have hmm := @run_makeMap Tryz.prog
  have hb0 : Below w.heap.size w (w.alloc (.map #[] 0)) := (Below.refl _ _).alloc (Nat.le_refl _) _
  have hm0 : MapAt (Value.int .i64) (w.alloc (.map #[] 0)) w.heap.size (drvE (List.range 0)) := MapAt.new _ w
  have hn := hN _ hb0
  obtain ⟨wA, hwA⟩ : ∃ wA, w.alloc (.map #[] 0) = wA := ⟨_, rfl⟩
  rw [hwA] at hb0 hm0 hn
  obtain ⟨mb, hmb⟩ : ∃ mb, w.heap.size = mb := ⟨_, rfl⟩
  have HMB := Lib.hid hmb
  rw [hmb] at hm0
  have hN3 : (N : Int) ≤ 255 := by omega
  clear hN
  go_enter Tryz.func63, Tryz.ntmps63
  go_wp2_with fail
  refine hn.mono ?_
  clear hn
  rintro e w1 ⟨rfl, hb1⟩
  have HM := Lib.hid (hm0.below hb1)
  have HB := Lib.hid (hb0.trans (hb1.mono hb0.size))
  clear hm0 hb1 hb0 hmm hwA
  go_wp2_with fail
  go_loopw [8] (fun vi wr => ∃ i : Nat, i ≤ N ∧ vi = .int .i64 i ∧ Hid (MapAt (Value.int .i64) wr mb (drvE (List.range i))) ∧ Hid (Below w.heap.size w wr)) (fun vi _ => N - (intOf vi).toNat)
  case atStart => exact ⟨0, Nat.zero_le _, rfl, HM, HB⟩
  case round =>
    clear HM HB
    obtain ⟨i, hi, rfl, HM, HB⟩ := hrel
    have p0 : (0 : Int) ≤ (i : Int) := Int.natCast_nonneg _
    by_cases hlt : i < N
    · have p1 : (i : Int) < (N : Int) := by omega
      obtain ⟨w5, hu, hm5, hg5, hs5⟩ := run_mapUpdate kt_intL un_ibmap HM.out (i : Int) (.bool true)
      rw [drvE_new] at hm5
      have HM5 := Lib.hid hm5
      have HB5 := Lib.hid (HB.out.grown hg5 HB.out.size (fun j hj => by injection hj with hj; have := HMB.out; omega))
      clear hm5 hg5 hs5
      go_wp2_with fail
      exact ⟨⟨i + 1, by omega, by go_num, HM5, HB5⟩, by simp [intOf]; omega⟩
    · have p1 : ¬ (i : Int) < (N : Int) := by omega
      obtain rfl : i = N := by omega
      go_wp2_with fail
      go_ret
      exact ⟨mb, rfl, HM.out, (by rw [← HMB.out]; exact HB.out), (by rw [← HMB.out]; exact Nat.le_refl _)⟩
/-! ### Spots -/
def missL (g : Nat → Bool) (N : Nat) : List Nat := (List.range N).filter fun d => !g d
def missZ (g : Nat → Bool) (N : Nat) : List Int := (missL g N).map fun d : Nat => (d : Int)
theorem missZ_len (g : Nat → Bool) (N : Nat) : (missZ g N).length = (missL g N).length := by unfold missZ; rw [List.length_map]
theorem missZ_up (g : Nat → Bool) (N : Nat) : (missZ g N).Pairwise fun x y => x < y := by
  unfold missZ missL
  refine List.pairwise_map.2 ((List.Pairwise.filter _ List.pairwise_lt_range).imp fun h => by omega)
/-- What Whole tells of a stripe: by drives. -/
def WhOk (g : Nat → Bool) (N : Nat) (place : Int) (ws : List Bool) : Prop := (ws = [] ∧ ∀ d, d < N → g d = false) ∨ ∃ p : Nat, place = p ∧ ws = (List.range N).map fun i => g (homeN N p i)
/-- A contract of Whole. -/
def WhC (w : World) (va vc : Value) (r : RfI) (g : Nat → Bool) (N : Nat) : Prop := ∀ W, Below w.heap.size w W → Calls Tryz.prog 64 #[va, vc, .agg r.C] W fun e w' => ∃ A L c ws, e = .returned (.slice A L c) ∧ L ≤ c ∧ RdL BoolR 1 (fun j => W.heap.size ≤ j) w' A L ws ∧ WhOk g N r.place ws ∧ Below W.heap.size W w'
theorem WhC.below {w w' : World} {va vc : Value} {r : RfI} {g : Nat → Bool} {N : Nat} (h : WhC w va vc r g N) (hb : Below w.heap.size w w') : WhC w' va vc r g N := fun W hW => h W (hb.trans (hW.mono hb.size))
/-- Which drives stand yet behind i of the shards. -/
def leftD (g : Nat → Bool) (N p i : Nat) : List Nat := (List.range N).filter fun d => !(g d && decide (ixN N p d < i))
theorem leftD_zero (g : Nat → Bool) (N p : Nat) : leftD g N p 0 = List.range N := List.filter_eq_self.2 fun d _ => by simp
theorem leftD_none {g : Nat → Bool} {N : Nat} (h : ∀ d, d < N → g d = false) : missL g N = List.range N := List.filter_eq_self.2 fun d hd => by rw [h d (List.mem_range.1 hd)]; rfl
theorem leftD_all (g : Nat → Bool) {N p : Nat} (hN : 1 ≤ N) : leftD g N p N = missL g N := by
  refine List.filter_congr fun d hd => ?_
  rw [decide_eq_true (ixN_lt hN), Bool.and_true]
theorem leftD_nodup (g : Nat → Bool) (N p i : Nat) : (leftD g N p i).Nodup := List.Pairwise.filter _ List.nodup_range
theorem leftD_del {g : Nat → Bool} {N p i : Nat} (hi : i < N) (hg : g (homeN N p i) = true) : (leftD g N p i).filter (fun d => decide (d ≠ homeN N p i)) = leftD g N p (i + 1) := by
  unfold leftD
  rw [List.filter_filter]
  refine List.filter_congr fun d hd => ?_
  have hd := List.mem_range.1 hd
  by_cases e : d = homeN N p i
  · subst e
    rw [ix_home (by omega) hi, hg]
    simp
  · have h1 : ixN N p d ≠ i := fun h => e (by rw [← h, home_ix (by omega) hd])
    rw [decide_eq_true (show d ≠ homeN N p i from e), Bool.true_and]
    congr 2
    exact decide_eq_decide.2 (by omega)
theorem leftD_keep {g : Nat → Bool} {N p i : Nat} (hi : i < N) (hg : g (homeN N p i) = false) : leftD g N p i = leftD g N p (i + 1) := by
  unfold leftD
  refine List.filter_congr fun d hd => ?_
  have hd := List.mem_range.1 hd
  by_cases e : d = homeN N p i
  · subst e
    rw [hg]
    simp
  · have h1 : ixN N p d ≠ i := fun h => e (by rw [← h, home_ix (by omega) hd])
    congr 2
    exact decide_eq_decide.2 (by omega)
theorem drvE_del {g : Nat → Bool} {N p i : Nat} (hi : i < N) (hg : g (homeN N p i) = true) : mdel (drvE (leftD g N p i)) (homeN N p i : Int) = drvE (leftD g N p (i + 1)) := by
  rw [mdel_drv _ (leftD_nodup g N p i), leftD_del hi hg]
end
section
theorem run_del {w : World} {mb : Nat} {es : List (Int × Value)} (hm : MapAt (Value.int .i64) w mb es) (k : Int) (K2 ty : TypeId) : ∃ w', (Builtin.delete_ #[116, K2] ty #[.map (some mb), .int .i64 k]).run Tryz.prog w = .ok (.tuple #[]) w' ∧ MapAt (Value.int .i64) w' mb (mdel es k) ∧ w.grownBy w' (some mb) ∧ w'.heap.size = w.heap.size := run_delete kt_intL un_ibmap hm k K2 ty
structure Plan (g : Nat → Bool) (N : Nat) (place : Int) (ws : List Bool) (D : Nat → List Nat) : Prop where
  z : D 0 = List.range N
  l : D ws.length = missL g N
  s : ∀ i x, ws[i]? = some x → 1 ≤ N ∧ ∃ p : Nat, place = p ∧ (x = true → mdel (drvE (D i)) (homeN N p i : Int) = drvE (D (i + 1))) ∧ (x = false → D i = D (i + 1))
  sub : ∀ i, ∀ d ∈ D i, d < N
theorem WhOk.plan {g : Nat → Bool} {N : Nat} {place : Int} {ws : List Bool} (h : WhOk g N place ws) : ∃ D, Plan g N place ws D := by
  rcases h with ⟨rfl, h⟩ | ⟨p, rfl, rfl⟩
  · exact ⟨fun _ => List.range N, rfl, (leftD_none h).symm, fun i x hx => by simp at hx, fun i d hd => List.mem_range.1 hd⟩
  · refine ⟨leftD g N p, leftD_zero g N p, ?_, fun i x hx => ?_, fun i d hd => List.mem_range.1 (List.mem_filter.1 hd).1⟩
    · rw [List.length_map, List.length_range]
      by_cases h1 : 1 ≤ N
      · exact leftD_all g h1
      · obtain rfl : N = 0 := by omega
        rfl
    · rw [List.getElem?_map] at hx
      by_cases hi : i < N
      · rw [List.getElem?_range hi] at hx
        obtain rfl := Option.some.inj hx
        exact ⟨by omega, p, rfl, fun h => drvE_del hi h, fun h => leftD_keep hi h⟩
      · rw [List.getElem?_eq_none (by rw [List.length_range]; omega)] at hx
        cases hx
set_option maxRecDepth 100000 in
set_option maxHeartbeats 16000000 in
theorem spots_any {w : World} {va vc : Value} {r : RfI} {g : Nat → Bool} {N : Nat} (hN : CNt w vc N) (hW : WhC w va vc r g N) (hN2 : N ≤ 255) :
    Calls Tryz.prog 21 #[va, vc, .agg r.C] w fun e w' => ∃ A c, e = .returned (.slice A (missL g N).length c) ∧ (missL g N).length ≤ c ∧ RdL IntR 1 (fun j => w.heap.size ≤ j) w' A (missL g N).length (missZ g N) ∧ Below w.heap.size w w' := by
  obtain ⟨rk, rp, rg⟩ := r
  have hb0 : Below w.heap.size w (w.alloc (.cells #[.int .u8 rk, .int .i64 rp, .int .u64 rg] 38)) := (Below.refl _ _).alloc (Nat.le_refl _) _
  have bR := BoxAt.new w #[.int .u8 rk, .int .i64 rp, .int .u64 rg] 38
  obtain ⟨wA, hwA⟩ : ∃ wA, w.alloc (.cells #[.int .u8 rk, .int .i64 rp, .int .u64 rg] 38) = wA := ⟨_, rfl⟩
  obtain ⟨q, hq⟩ : ∃ q, w.heap.size = q := ⟨_, rfl⟩
  rw [hwA] at hb0 bR
  have hd := ldrives_any (hN.below hb0) hN2
  have HQ := Lib.hid hq
  rw [hq] at bR
  have HN := Lib.hid hN
  have HW := Lib.hid hW
  have HB0 := Lib.hid hb0
  have BR := Lib.hid bR
  unfold RfI.C
  dsimp only
  clear hN hW hb0 bR
  go_enter Tryz.func21, Tryz.ntmps21
  go_wp2_with fail
  refine hd.mono ?_
  clear hd hwA
  rintro e w1 ⟨mb, rfl, hm1, hb1, hmb⟩
  have HB1 := Lib.hid (HB0.out.trans (hb1.mono HB0.out.size))
  have hw := HW.out w1 HB1.out
  have bR1 := BR.out.below hb1
  have k0 := bR1.cell 0
  have k1 := bR1.cell 1
  have k2 := bR1.cell 2
  have HM1 := Lib.hid hm1
  have BR1 := Lib.hid bR1
  have HM2lt := Lib.hid (show mb < w1.heap.size from hm1.lt)
  have hqm : q < mb := by have := BR.out.lt; omega
  have HQM := Lib.hid hqm
  unfold RfI.C at hw
  dsimp only at hw
  clear hb1 hmb hm1 bR1 HB0 BR
  go_wp2_with fail
  refine hw.mono ?_
  clear hw k0 k1 k2
  rintro e w2 ⟨A, L, c, ws, rfl, hLc, hRW, hWO, hb2⟩
  have HB2 := Lib.hid (HB1.out.trans (hb2.mono HB1.out.size))
  have HM2 := Lib.hid (HM1.out.below hb2)
  have BR2 := Lib.hid (BR1.out.below hb2)
  have HRW := Lib.hid hRW
  have hwl := hRW.1
  have HWO := Lib.hid hWO
  have hL2 : L ≤ N := by
    rcases hWO with ⟨e, _⟩ | ⟨p, _, e⟩
    · rw [e] at hwl; simp at hwl; omega
    · rw [e] at hwl; simp at hwl; omega
  have hN3 : (N : Int) ≤ 255 := by omega
  have hL3 : (L : Int) ≤ 255 := by omega
  have HWL := Lib.hid hwl
  obtain ⟨D, hD⟩ := HWO.out.plan
  have HD := Lib.hid hD
  have HM2' := Lib.hid (show MapAt (Value.int .i64) w2 mb (drvE (D 0)) by rw [hD.z]; exact HM2.out)
  clear hb2 HB1 HM1 BR1 hRW hWO hwl HWO hD HM2
  go_wp2_with fail
  go_loopw [17] (fun vi wr => ∃ i : Nat, i ≤ L ∧ vi = .int .i64 i ∧ Hid (MapAt (Value.int .i64) wr mb (drvE (D i))) ∧ Hid (Below w.heap.size w wr) ∧ Hid (Keep (fun j => j = mb) w2 wr)) (fun vi _ => L - (intOf vi).toNat)
  case atStart => exact ⟨0, Nat.zero_le _, rfl, HM2', HB2, Lib.hid (Keep.refl _ _)⟩
  case round =>
    clear HM2'
    obtain ⟨i, hi, rfl, HM, HB, HK⟩ := hrel
    have p0 : (0 : Int) ≤ (i : Int) := Int.natCast_nonneg _
    by_cases hlt : i < L
    · have p1 : (i : Int) < (L : Int) := by omega
      obtain ⟨b, o, x, eA, hx, v0⟩ := bool_at (HRW.out.keep BoolR.stable HK.out (fun j hj e => by have := HM2lt.out; omega)) hlt
      subst eA
      obtain ⟨hN1, p, erp, ht, hf⟩ := HD.out.s i x hx
      subst erp
      cases x with
      | false =>
        rw [hf rfl] at HM
        clear hx ht hf
        go_wp2_with fail
        exact ⟨⟨i + 1, by omega, by go_num, HM, HB, HK⟩, by simp [intOf]; omega⟩
      | true =>
        have HT := Lib.hid (ht rfl)
        have hdr : Below wr.heap.size wr wr.drew := (Below.refl _ _).drew
        have hn := HN.out wr.drew HB.out.drew
        have hho := fun W => home_any (w := W) (n := N) (place := p) (i := i) hN1 (by omega)
        have bRr := (BR2.out.keeps HK.out (by have := HQM.out; omega)).below hdr
        have s0 : wr.drew.cell? ⟨q, 1, none⟩ = some (.int .i64 (p : Int)) := bRr.cell 1
        have BRr := Lib.hid bRr
        have HMr := Lib.hid (HM.out.below hdr)
        have HKr := Lib.hid (HK.out.trans (Keep.of_below (F := fun j => j = mb) hdr) (fun _ h _ => h))
        have HBr := Lib.hid HB.out.drew
        clear hx ht hf bRr hdr HM HK HB
        go_wp2_with fail
        refine wp_region_held_drew (S := fun w' => w'.cell? ⟨q, 1, none⟩ = some (.int .i64 (p : Int))) (by kernel_rfl) (by first | exact s0 | exact s5 | exact s6 | exact s7) (fun hHeld => ?_)
        refine tkH 0 rfl ?_
        refine tkH 1 rfl ?_
        refine tkH 3 rfl ?_
        refine tkH 4 rfl ?_
        refine tkH 5 rfl ?_
        refine rdH 2 rfl fun K hK => ?_
        try simp (maxSteps := 2000000) only [zz1, zz2, zz3]
        go_simp
        go_at_call 57
        refine hn.mono ?_
        clear hn
        rintro e w5 ⟨rfl, hb5⟩
        have s5 : w5.cell? ⟨q, 1, none⟩ = some (.int .i64 (p : Int)) := (BRr.out.below hb5).cell 1
        have HM5 := Lib.hid (HMr.out.below hb5)
        have HB5 := Lib.hid (HBr.out.trans (hb5.mono HBr.out.size))
        have HK5 := Lib.hid (HKr.out.trans (Keep.of_below (F := fun j => j = mb) hb5) (fun _ h _ => h))
        have BR5 := Lib.hid (BRr.out.below hb5)
        clear hb5
        try (go_wp2_with fail)
        refine hK.out _ _ (by first | exact s0 | exact s5 | exact s6 | exact s7) (fun hHeld => ?_)
        clear hK K
        try simp (maxSteps := 2000000) only [zz1, zz2, zz3, Act.put, zz4, zz5, zz6]
        refine rdH 6 rfl fun K hK => ?_
        try simp (maxSteps := 2000000) only [zz1, zz2, zz3]
        go_simp
        go_at_call 65
        refine (hho _).mono ?_
        clear hho
        rintro e w6 ⟨rfl, hb6⟩
        have s6 : w6.cell? ⟨q, 1, none⟩ = some (.int .i64 (p : Int)) := (BR5.out.below hb6).cell 1
        have hm6 := HM5.out.below hb6
        have HM6 := Lib.hid hm6
        have HB6 := Lib.hid (HB5.out.trans (hb6.mono HB5.out.size))
        have HK6 := Lib.hid (HK5.out.trans (Keep.of_below (F := fun j => j = mb) hb6) (fun _ h _ => h))
        have BR6 := Lib.hid (BR5.out.below hb6)
        obtain ⟨w7, hdl, hm7, hg7, hs7⟩ := run_del hm6 (homeN N p i : Int) 3 0
        rw [HT.out] at hm7
        have HM7 := Lib.hid hm7
        have s7 : w7.cell? ⟨q, 1, none⟩ = some (.int .i64 (p : Int)) := (BR6.out.grw hg7 (by intro e; injection e with e; have := HQM.out; omega)).cell 1
        have HB7 := Lib.hid (HB6.out.grown hg7 HB6.out.size (fun j hj => by injection hj with hj; have := HQM.out; have := HQ.out; omega))
        have HK7 := Lib.hid (HK6.out.trans (Keep.of_grown hg7) (fun j hj _ => by injection hj))
        clear hb6 hm6 hm7 hg7 hs7
        try (go_wp2_with fail)
        refine hK.out _ _ (by first | exact s0 | exact s5 | exact s6 | exact s7) (fun hHeld => ?_)
        clear hK K
        try simp (maxSteps := 2000000) only [zz1, zz2, zz3, Act.put, zz4, zz5, zz6]
        refine rdH 7 rfl fun K hK => ?_
        try simp (maxSteps := 2000000) only [zz1, zz2, zz3]
        go_simp
        refine hK.out _ _ (by first | exact s0 | exact s5 | exact s6 | exact s7) (fun hHeld => ?_)
        clear hK K
        try simp (maxSteps := 2000000) only [zz1, zz2, zz3, Act.put, zz4, zz5, zz6]
        refine wpAnyH_done (by kernel_rfl) ?_ _
        go_wp2_with fail
        exact ⟨⟨i + 1, by omega, by go_num, HM7, HB7, HK7⟩, by simp [intOf]; omega⟩
    · have p1 : ¬ (i : Int) < (L : Int) := by omega
      obtain rfl : i = L := by omega
      have hm := HM.out
      have hDl := HD.out.l
      rw [HWL.out] at hDl
      rw [hDl] at hm
      have hkw := keysI_it (some mb) wr
      have wA : Below wr.heap.size wr (wr.alloc (.cells #[.map (some mb)] 116)) := (Below.refl _ _).alloc (Nat.le_refl _) _
      have hml : (missL g N).length ≤ 255 := by
        have := List.length_filter_le (fun d => !g d) (List.range N)
        rw [List.length_range] at this
        unfold missL
        omega
      have hmap : (drvE (missL g N)).map (·.1) = missZ g N := by unfold drvE missZ; rw [List.map_map]; rfl
      have hel : (drvE (missL g N)).length ≤ 1000000 := by unfold drvE; simp only [List.length_map]; omega
      have cS := sortedK_any (xs := missZ g N) (hm.below wA) (p := wr.heap.size) ((BoxAt.new wr #[.map (some mb)] 116).cell 0) (by rw [World.size_alloc]; omega) (fun x hx => by
        obtain ⟨d, hd, rfl⟩ := List.mem_map.1 hx
        have h1 : d < N := List.mem_range.1 (List.mem_filter.1 hd).1
        show (Lit.int IntKind.i64 (d : Int)).wf = true
        have h2 : IntKind.i64.min = -9223372036854775808 := by decide
        have h3 : IntKind.i64.max = 9223372036854775807 := by decide
        show (decide (IntKind.i64.min ≤ (d : Int)) && decide ((d : Int) ≤ IntKind.i64.max)) = true
        rw [h2, h3, Bool.and_eq_true, decide_eq_true_eq, decide_eq_true_eq]
        omega) hel (by rw [hmap]) (missZ_up g N)
      rw [missZ_len] at cS
      obtain ⟨M, hMl⟩ : ∃ M, (missL g N).length = M := ⟨_, rfl⟩
      rw [hMl] at cS hml
      have HML := Lib.hid hMl
      have HBA := Lib.hid (HB.out.trans (wA.mono HB.out.size))
      have hs1 : w.heap.size ≤ (wr.alloc (.cells #[.map (some mb)] 116)).heap.size := HBA.out.size
      have HS1 := Lib.hid hs1
      clear hm hDl wA hmap hMl hs1
      go_wp2_with fail
      refine hkw.mono ?_
      clear hkw
      rintro e w8 ⟨rfl, h8⟩
      subst h8
      go_wp2_with fail
      refine cS.mono ?_
      clear cS
      rintro e w9 ⟨A, c9, rfl, hc9, hr9, hb9⟩
      have HR9 := Lib.hid (hr9.weaken (S' := fun j => w.heap.size ≤ j) IntR.stable (fun j hj => Nat.le_trans HS1.out hj))
      have HB9 := Lib.hid (HBA.out.trans (hb9.mono HBA.out.size))
      clear hr9 hb9
      go_wp2_with fail
      go_ret
      have hM := HML.out
      subst hM
      exact ⟨A, c9, rfl, hc9, HR9.out, HB9.out⟩
set_option maxHeartbeats 4000000 in
theorem missing_any {w : World} {va vc : Value} {r : RfI} {g : Nat → Bool} {N : Nat} (hN : CNt w vc N) (hW : WhC w va vc r g N) (hN2 : N ≤ 255) :
    Calls Tryz.prog 23 #[va, vc, .agg r.C] w fun e w' => e = .returned (.int .i64 ((missL g N).length : Nat)) ∧ Below w.heap.size w w' := by
  have hb0 : Below w.heap.size w (w.alloc (.cells r.C 38)) := (Below.refl _ _).alloc (Nat.le_refl _) _
  have hs := spots_any (hN.below hb0) (hW.below hb0) hN2
  obtain ⟨rk, rp, rg⟩ := r
  unfold RfI.C at hb0 hs ⊢
  dsimp only at hb0 hs ⊢
  have HB0 := Lib.hid hb0
  obtain ⟨M, hMl⟩ : ∃ M, (missL g N).length = M := ⟨_, rfl⟩
  rw [hMl] at hs ⊢
  clear hN hW hb0 hMl
  go_enter Tryz.func23, Tryz.ntmps23
  go_wp2_with fail
  refine hs.mono ?_
  clear hs
  rintro e w1 ⟨A, c, rfl, _, _, hb⟩
  have HB := Lib.hid (HB0.out.trans (hb.mono HB0.out.size))
  clear hb
  go_wp2_with fail
  go_ret
  exact ⟨rfl, HB.out⟩
end
section
set_option maxRecDepth 100000 in
set_option maxHeartbeats 8000000 in
theorem over_any {w w1 : World} {va vc : Value} {S : Nat → Prop} {A : Option Addr} {n c N : Nat} {rs : List RfI} {gs : Nat → Nat → Bool} (hb : Below w.heap.size w w1) (R : RdL RfIR 3 S w A n rs) (hn : n ≤ 1000000) (hN : CNt w vc N) (hN2 : N ≤ 255)
    (hW : Hid (∀ i r, rs[i]? = some r → WhC w va vc r (gs i) N)) {f : FuncId} {cap : Array Value} (hff : Hid (∀ args w, (callFunc f args).run Tryz.prog w = .ok (.enter f args) w))
    {Inv : Nat → World → Prop} (h0 : Hid (Inv 0 w1)) (hIb : Hid (∀ i W W', Inv i W → Below W.heap.size W W' → Inv i W')) (hIw : Hid (∀ i W, Inv i W → Below w.heap.size w W))
    (hst : Hid (∀ i r W, rs[i]? = some r → Inv i W → Calls Tryz.prog f (#[.agg r.C, .int .i64 ((missL (gs i) N).length : Nat)] ++ cap) W fun e W' => e = .returned (.tuple #[]) ∧ Inv (i + 1) W')) :
    Calls Tryz.prog 61 #[va, vc, .slice A n c, .func (.func f) #[] cap] w1 fun e w' => e = .returned (.tuple #[]) ∧ Inv n w' := by
  have g1 := hff.out
  have HR := Lib.hid R
  have HN := Lib.hid hN
  have q0 : (n : Int) ≤ 1000000 := by omega
  clear R hN hb
  go_enter Tryz.func61, Tryz.ntmps61
  go_wp2_with fail
  go_loopw [12] (fun vi wr => ∃ (i : Nat), i ≤ n ∧ vi = .int .i64 i ∧ Hid (Inv i wr)) (fun vi _ => n - (intOf vi).toNat)
  case atStart => exact ⟨0, Nat.zero_le _, rfl, h0⟩
  case round =>
    obtain ⟨i, hi, rfl, HI⟩ := hrel
    have p0 : (0 : Int) ≤ (i : Int) := Int.natCast_nonneg _
    have HB := Lib.hid (hIw.out i wr HI.out)
    by_cases hlt : i < n
    · have p1 : (i : Int) < (n : Int) := by omega
      obtain ⟨b, o, x, eA, hx, hbl, _, x0, x1, x2⟩ := rfi_at (HR.out.below RfIR.stable HB.out) hlt
      subst eA
      have hw := hW.out i x hx
      have hst1 := fun W => hst.out i x W hx
      obtain ⟨rk, rp, rg⟩ := x
      dsimp only at x0 x1 x2
      have HB' := HB.out
      have hb2 : Below wr.heap.size wr (wr.alloc (.cells #[.int .u8 rk, .int .i64 rp, .int .u64 rg] 38)) := (Below.refl _ _).alloc (Nat.le_refl _) _
      have bR2 := BoxAt.new wr #[.int .u8 rk, .int .i64 rp, .int .u64 rg] 38
      obtain ⟨W2, hW2⟩ : ∃ W2, wr.alloc (.cells #[.int .u8 rk, .int .i64 rp, .int .u64 rg] 38) = W2 := ⟨_, rfl⟩
      rw [hW2] at hb2 bR2
      obtain ⟨q, hq⟩ : ∃ q, wr.heap.size = q := ⟨_, rfl⟩
      rw [hq] at bR2
      have hbw := HB'.trans (hb2.mono HB'.size)
      have hms := missing_any (HN.out.below hbw.drew) (hw.below hbw.drew) hN2
      have HI2 := Lib.hid (hIb.out i wr W2 HI.out hb2)
      have HST := Lib.hid hst1
      have hmn : (missL (gs i) N).length ≤ 255 := by
        have := List.length_filter_le (fun d => !gs i d) (List.range N)
        rw [List.length_range] at this
        unfold missL
        omega
      obtain ⟨M, hM⟩ : ∃ M, (missL (gs i) N).length = M := ⟨_, rfl⟩
      rw [hM] at hms HST hmn
      have s0 : W2.drew.cell? ⟨q, 0, none⟩ = some (.int .u8 rk) ∧ W2.drew.cell? ⟨q, 1, none⟩ = some (.int .i64 rp) ∧ W2.drew.cell? ⟨q, 2, none⟩ = some (.int .u64 rg) := ⟨bR2.cell 0, bR2.cell 1, bR2.cell 2⟩
      have BR2 := Lib.hid (bR2.below (Below.refl _ _).drew)
      have HId := Lib.hid (hIb.out i W2 W2.drew HI2.out (Below.refl _ _).drew)
      unfold RfI.C at hms HST
      dsimp only at hms HST
      clear hw hst1 hx HB' hb2 bR2 hbw hM HI HI2
      go_wp2_with fail
      refine wp_region_L (S := fun w' => w'.cell? ⟨q, 0, none⟩ = some (.int .u8 rk) ∧ w'.cell? ⟨q, 1, none⟩ = some (.int .i64 rp) ∧ w'.cell? ⟨q, 2, none⟩ = some (.int .u64 rg)) [6] (by kernel_rfl) (by first | exact s0 | exact s5) (fun hHeld => ?_)
      refine tkL 0 rfl ?_
      refine tkL 1 rfl ?_
      refine tkLB 2 5 rfl ?_
      refine tkLB 3 5 rfl ?_
      refine tkLB 4 5 rfl ?_
      refine rdL 5 rfl fun K hK => ?_
      try simp (maxSteps := 2000000) only [zz1, zz2, zz3]
      go_simp
      go_at_call 23
      refine hms.mono ?_
      clear hms
      rintro e w5 ⟨rfl, hb5⟩
      have bR5 := BR2.out.below hb5
      have s5 : w5.cell? ⟨q, 0, none⟩ = some (.int .u8 rk) ∧ w5.cell? ⟨q, 1, none⟩ = some (.int .i64 rp) ∧ w5.cell? ⟨q, 2, none⟩ = some (.int .u64 rg) := ⟨bR5.cell 0, bR5.cell 1, bR5.cell 2⟩
      have HI5 := Lib.hid (hIb.out i _ w5 HId.out hb5)
      have hst5 := HST.out w5 HI5.out
      clear hb5 bR5
      try (go_wp2_with fail)
      refine hK.out _ _ (by first | exact s0 | exact s5) (fun hHeld => ?_)
      clear hK K
      try simp (maxSteps := 2000000) only [zz1, zz2, zz3, Act.put, zz4, zz5, zz6]
      refine lsL 6 rfl fun K hK => ?_
      try simp (maxSteps := 2000000) only [zz1, zz2, zz3]
      go_simp
      refine hst5.mono ?_
      clear hst5
      rintro e w6 ⟨rfl, hI6⟩
      have HI6 := Lib.hid hI6
      clear hI6
      try (go_wp2_with fail)
      refine hK.out _ _ ?_
      clear hK K
      try simp (maxSteps := 2000000) only [zz1, zz2, zz3, Act.put, zz4, zz5, zz6]
      refine wpAnyL_done (by kernel_rfl) ?_ _
      go_wp2_with fail
      exact ⟨⟨i + 1, by omega, by go_num, HI6⟩, by simp [intOf]; omega⟩
    · have p1 : ¬ (i : Int) < (n : Int) := by omega
      obtain rfl : i = n := by omega
      go_wp2_with fail
      go_end0
      exact ⟨rfl, HI.out⟩
end
end Go.Proofs.YtihnlhfngmbglaaGreat
