/-
  Drives side by side and the document's: they are the same, whatever is done.
-/
import Derived.Test.YtolmpopjonkfgaaPl10
set_option linter.unusedSimpArgs false
set_option linter.unusedVariables false
namespace Go.Proofs.Ytolmpopjonkfgaa
open Go.RowKit Go.Cib
attribute [local go_sem] cell_set Later.cell Later.frozen Grw.cell Grw.frozen

/-- Each drive is as the document's; each has been little used. -/
structure TInv (n s t : Nat) (sa : List DSt) (ra : List RSt) : Prop where
  la : sa.length = n
  lr : ra.length = n
  sim : ∀ (i : Nat) (st : DSt) (rs : RSt), sa[i]? = some st → ra[i]? = some rs → Sim s st rs
  rng : ∀ rs ∈ ra, (∀ e ∈ rs.L, 0 ≤ e.at_ ∧ e.at_ < s) ∧ ∀ e ∈ rs.wait, 0 ≤ e.at_ ∧ e.at_ < s
  few : ∀ rs ∈ ra, rs.size ≤ t
theorem badE_none (L : List Ev) (z : Int) (h : ∀ e ∈ L, e.at_ ≠ z) : badE L z = false := by
  unfold badE
  suffices hh : ∀ (L : List Ev) (b : Bool), (∀ e ∈ L, e.at_ ≠ z) → L.foldl (fun bad e => if e.at_ = z then !(e.mask == 0) else bad) b = b from hh L false h
  intro L
  induction L with
  | nil => intro b _; rfl
  | cons e L ih =>
    intro b hb
    rw [List.foldl_cons, if_neg (hb e (by simp))]
    exact ih b (fun d hd => hb d (List.mem_cons_of_mem _ hd))
section
variable {n s t : Nat} {sa : List DSt} {ra : List RSt}
theorem TInv.good (h : TInv n s t sa ra) (ht : t < 1000000) : ∀ rs ∈ ra, RGood rs := fun rs hrs => by
  obtain ⟨i, hi, rfl⟩ := List.mem_iff_getElem.1 hrs
  have hsi : i < sa.length := by rw [h.la, ← h.lr]; exact hi
  have S := h.sim i _ _ (List.getElem?_eq_getElem hsi) (List.getElem?_eq_getElem hi)
  have := h.few _ hrs
  unfold RSt.size at this
  exact ⟨by omega, S.ok, fun e he => (S.okw e he).2⟩
theorem TInv.cache (h : TInv n s t sa ra) (ht : t < 1000000) : ∀ st ∈ sa, st.cache.length < 1000000 := fun st hst => by
  obtain ⟨i, hi, rfl⟩ := List.mem_iff_getElem.1 hst
  have hri : i < ra.length := by rw [h.lr, ← h.la]; exact hi
  have S := h.sim i _ _ (List.getElem?_eq_getElem hi) (List.getElem?_eq_getElem hri)
  have := h.few _ (List.getElem_mem hri)
  have h2 := congrArg List.length S.cache
  rw [List.length_map] at h2
  unfold RSt.size at this
  omega
theorem TInv.at_ (h : TInv n s t sa ra) {d : Nat} (hd : d < n) : ∃ st rs, sa[d]? = some st ∧ ra[d]? = some rs ∧ Sim s st rs ∧ rs.size ≤ t ∧ (∀ e ∈ rs.L, 0 ≤ e.at_ ∧ e.at_ < s) ∧ ∀ e ∈ rs.wait, 0 ≤ e.at_ ∧ e.at_ < s := by
  have h1 : sa[d]? = some (sa[d]'(by rw [h.la]; exact hd)) := List.getElem?_eq_getElem _
  have h2 : ra[d]? = some (ra[d]'(by rw [h.lr]; exact hd)) := List.getElem?_eq_getElem _
  exact ⟨_, _, h1, h2, h.sim d _ _ h1 h2, h.few _ (List.mem_of_getElem? h2), h.rng _ (List.mem_of_getElem? h2)⟩
theorem TInv.new (n s : Nat) : TInv n s 0 (List.replicate n (DSt.new s)) (List.replicate n RSt.new) := by
  refine ⟨by simp, by simp, fun i st rs h1 h2 => ?_, fun rs h => ?_, fun rs h => ?_⟩
  · have e1 := List.eq_of_mem_replicate (List.mem_of_getElem? h1)
    have e2 := List.eq_of_mem_replicate (List.mem_of_getElem? h2)
    subst e1; subst e2
    exact Sim.new s
  · have e := List.eq_of_mem_replicate h
    subst e; simp [RSt.new]
  · have e := List.eq_of_mem_replicate h
    subst e; simp [RSt.new, RSt.size]
theorem TInv.mono (h : TInv n s t sa ra) {t' : Nat} (ht : t ≤ t') : TInv n s t' sa ra := ⟨h.la, h.lr, h.sim, h.rng, fun rs hrs => Nat.le_trans (h.few rs hrs) ht⟩
/-- Is a drive of the document's as it may be behind one step more? -/
def Fit (s t : Nat) (rs : RSt) : Prop := ((∀ e ∈ rs.L, 0 ≤ e.at_ ∧ e.at_ < s) ∧ ∀ e ∈ rs.wait, 0 ≤ e.at_ ∧ e.at_ < s) ∧ rs.size ≤ t
theorem TInv.set (h : TInv n s t sa ra) {d : Nat} {st' : DSt} {rs' : RSt} (hs : Sim s st' rs') (hf : Fit s (t + 1) rs') : TInv n s (t + 1) (sa.set d st') (ra.set d rs') := by
  refine ⟨by simp [h.la], by simp [h.lr], fun i st rs h1 h2 => ?_, fun rs hrs => ?_, fun rs hrs => ?_⟩
  · by_cases hi : d = i
    · subst hi
      have hl := (List.getElem?_eq_some_iff.1 h1).1
      have hl2 := (List.getElem?_eq_some_iff.1 h2).1
      rw [List.getElem?_set_self (by simpa using hl)] at h1
      rw [List.getElem?_set_self (by simpa using hl2)] at h2
      injection h1 with h1
      injection h2 with h2
      subst h1; subst h2
      exact hs
    · rw [List.getElem?_set_ne hi] at h1 h2
      exact h.sim i st rs h1 h2
  · rcases List.mem_or_eq_of_mem_set hrs with h1 | h1
    · exact h.rng rs h1
    · rw [h1]; exact hf.1
  · rcases List.mem_or_eq_of_mem_set hrs with h1 | h1
    · exact Nat.le_succ_of_le (h.few rs h1)
    · rw [h1]; exact hf.2
theorem TInv.map (h : TInv n s t sa ra) (f : Nat → DSt → DSt) (g : Nat → RSt → RSt) (hfg : ∀ (i : Nat) (st : DSt) (rs : RSt), sa[i]? = some st → ra[i]? = some rs → Sim s (f i st) (g i rs) ∧ Fit s (t + 1) (g i rs)) : TInv n s (t + 1) (sa.mapIdx f) (ra.mapIdx g) := by
  have hat : ∀ rs ∈ ra.mapIdx g, ∃ (i : Nat) (st : DSt) (r : RSt), sa[i]? = some st ∧ ra[i]? = some r ∧ rs = g i r := fun rs hrs => by
    obtain ⟨i, hi, rfl⟩ := List.mem_iff_getElem.1 hrs
    have hir : i < ra.length := by simpa using hi
    have his : i < sa.length := by rw [h.la, ← h.lr]; exact hir
    exact ⟨i, _, _, List.getElem?_eq_getElem his, List.getElem?_eq_getElem hir, by rw [List.getElem_mapIdx]⟩
  refine ⟨by simp [h.la], by simp [h.lr], fun i st rs h1 h2 => ?_, fun rs hrs => ?_, fun rs hrs => ?_⟩
  · rw [List.getElem?_mapIdx] at h1 h2
    cases h3 : sa[i]? with
    | none => rw [h3] at h1; cases h1
    | some st0 =>
      cases h4 : ra[i]? with
      | none => rw [h4] at h2; cases h2
      | some rs0 =>
        rw [h3] at h1
        rw [h4] at h2
        injection h1 with h1
        injection h2 with h2
        subst h1; subst h2
        exact (hfg i st0 rs0 h3 h4).1
  · obtain ⟨i, st, r, h1, h2, rfl⟩ := hat rs hrs
    exact (hfg i st r h1 h2).2.1
  · obtain ⟨i, st, r, h1, h2, rfl⟩ := hat rs hrs
    exact (hfg i st r h1 h2).2.2
end
section
variable {s t : Nat} {rs : RSt}
theorem Fit.write (h : Fit s t rs) (z : Int) (bs : List Int) : Fit s (t + 1) (wrR s rs z bs) := by
  refine ⟨?_, Nat.le_trans (wrR_size s rs z bs) (by have := h.2; omega)⟩
  unfold wrR
  split
  · rename_i hw
    refine ⟨h.1.1, fun e he => ?_⟩
    rcases List.mem_append.1 he with h1 | h1
    · exact h.1.2 e h1
    · simp only [List.mem_singleton] at h1; subst h1; exact hw.2.1
  · exact h.1
theorem Fit.flush (h : Fit s t rs) : Fit s (t + 1) (flR rs) := by
  unfold flR
  split
  · refine ⟨⟨fun e he => (List.mem_append.1 he).elim (h.1.1 e) (h.1.2 e), by simp⟩, ?_⟩
    have := h.2
    unfold RSt.size at this ⊢
    simp; omega
  · exact ⟨h.1, Nat.le_succ_of_le h.2⟩
theorem Fit.crash (h : Fit s t rs) (ks : List (List Bool)) (d : Nat) : Fit s (t + 1) (crR ks d rs) := by
  refine ⟨⟨fun e he => (List.mem_append.1 he).elim (h.1.1 e) (fun h2 => h.1.2 e (keptE_mem _ _ _ _ h2)), by simp [crR]⟩, ?_⟩
  have h1 := h.2
  have h2 := keptE_len (keepOf (kAt ks d)) rs.wait 0
  unfold RSt.size at h1 ⊢
  simp [crR]; omega
theorem Fit.rot (h : Fit s t rs) (z off mask : Int) : Fit s (t + 1) (rtR s rs z off mask) := by
  unfold rtR
  split
  · rename_i hr
    refine ⟨⟨fun e he => ?_, h.1.2⟩, ?_⟩
    · rcases List.mem_append.1 he with h1 | h1
      · exact h.1.1 e h1
      · simp only [List.mem_singleton] at h1; subst h1; exact hr.2.1
    · have := h.2
      unfold RSt.size at this ⊢
      simp; omega
  · exact ⟨h.1, Nat.le_succ_of_le h.2⟩
theorem Fit.gone (b : Bool) : Fit s (t + 1) ⟨[], [], b⟩ := ⟨⟨by simp, by simp⟩, by simp [RSt.size]⟩
end
/-! ### The same answers -/
section
variable {s : Nat} {st : DSt} {rs : RSt}
theorem Sim.read_eq (h : Sim s st rs) (z : Int) : rreadL rs s z = readL st s z := by
  unfold rreadL readL
  rw [h.dead]
  by_cases hz : readyE rs.gone s z = 0
  · rw [if_pos hz, if_pos hz]
    obtain ⟨hd, h0, hn⟩ := (ready_iff2 _ _ _).1 hz
    have := h.seen (h.dead.trans hd) (show z.toNat < s by omega)
    rw [show ((z.toNat : Nat) : Int) = z by omega] at this
    exact this
  · rw [if_neg hz, if_neg hz]
theorem Sim.stored_eq (h : Sim s st rs) (z : Int) : rstoredL rs s z = storedL st s z := by
  unfold rstoredL storedL
  rw [h.dead]
  by_cases hz : readyE rs.gone s z = 0
  · rw [if_pos hz, if_pos hz]
    obtain ⟨hd, h0, hn⟩ := (ready_iff2 _ _ _).1 hz
    have := h.stored (h.dead.trans hd) z.toNat (by omega)
    rw [show ((z.toNat : Nat) : Int) = z by omega] at this
    rw [this]; rfl
  · rw [if_neg hz, if_neg hz]
theorem Sim.rotten_eq (h : Sim s st rs) (hr : ∀ e ∈ rs.L, 0 ≤ e.at_ ∧ e.at_ < s) (z : Int) : (!rs.gone && badE rs.L z) = rottenL st s z := by
  unfold rottenL
  rw [h.dead]
  cases hd : rs.gone with
  | true => simp [readyE]
  | false =>
    by_cases hz : 0 ≤ z ∧ z < s
    · rw [(ready_iff2 false s z).2 ⟨rfl, hz⟩, if_pos rfl]
      have := h.rotten (h.dead.trans hd) z.toNat (by omega)
      rw [show ((z.toNat : Nat) : Int) = z by omega] at this
      rw [this]; rfl
    · rw [if_neg (fun e => hz ((ready_iff2 false s z).1 e).2), badE_none rs.L z (fun e he hez => hz (by have := hr e he; omega))]
      rfl
theorem Sim.rotC_eq (h : Sim s st rs) (z off mask : Int) : rotC st.dead s z off mask ((st.rotten[z.toNat]?).getD false) = rotC rs.gone s z off mask (badE rs.L z) := by
  rw [h.dead]
  by_cases hz : readyE rs.gone s z = 0
  · obtain ⟨hd, h0, hn⟩ := (ready_iff2 _ _ _).1 hz
    have := h.rotten (h.dead.trans hd) z.toNat (by omega)
    rw [show ((z.toNat : Nat) : Int) = z by omega] at this
    rw [this]; rfl
  · rw [rotC_ready hz, rotC_ready hz]
end
theorem TInv.alive {n s t : Nat} {sa : List DSt} {ra : List RSt} (h : TInv n s t sa ra) : aliveL sa = goneL ra := by
  apply List.ext_getElem?
  intro i
  rw [aliveL, goneL, List.getElem?_map, List.getElem?_map]
  by_cases hi : i < n
  · obtain ⟨st, rs, h1, h2, S, _⟩ := h.at_ hi
    rw [h1, h2]
    simp [S.dead]
  · rw [List.getElem?_eq_none (by rw [h.la]; omega), List.getElem?_eq_none (by rw [h.lr]; omega)]; rfl
theorem TInv.put_eq {n s t : Nat} {sa : List DSt} {ra : List RSt} (h : TInv n s t sa ra) (z : Int) (rows : List (List Int)) : sa.mapIdx (putOk s z rows) = ra.mapIdx (putOkR s z rows) := by
  apply List.ext_getElem?
  intro i
  rw [List.getElem?_mapIdx, List.getElem?_mapIdx]
  by_cases hi : i < n
  · obtain ⟨st, rs, h1, h2, S, _⟩ := h.at_ hi
    rw [h1, h2]
    simp [putOk, putOkR, S.dead]
  · rw [List.getElem?_eq_none (by rw [h.la]; omega), List.getElem?_eq_none (by rw [h.lr]; omega)]; rfl
theorem TInv.rows_eq {n s t : Nat} {sa : List DSt} {ra : List RSt} (h : TInv n s t sa ra) (z : Int) : ra.map (fun rs => rreadL rs s z) = sa.map (fun st => readL st s z) := by
  apply List.ext_getElem?
  intro i
  rw [List.getElem?_map, List.getElem?_map]
  by_cases hi : i < n
  · obtain ⟨st, rs, h1, h2, S, _⟩ := h.at_ hi
    rw [h1, h2]
    simp [S.read_eq]
  · rw [List.getElem?_eq_none (by rw [h.lr]; omega), List.getElem?_eq_none (by rw [h.la]; omega)]; rfl
/-- Ours (a) and the document's (x), apart, made since w0. -/
structure Twin (w0 : World) (U V : Nat → Prop) (wr : World) (a x n s t : Nat) (sa : List DSt) (ra : List RSt) : Prop where
  da : ArrAt U wr a s sa
  dr : RArrAt V wr x s ra
  dis : ∀ k, U k → ¬ V k
  u1 : ∀ k, U k → w0.heap.size ≤ k
  v1 : ∀ k, V k → w0.heap.size ≤ k
  below : Below w0.heap.size w0 wr
  inv : TInv n s t sa ra
theorem RArrAt.keepR {V G : Nat → Prop} {w w' : World} {x s : Nat} {ra : List RSt} (h : RArrAt V w x s ra) (hk : Keep G w w') (hd : ∀ k, V k → ¬ G k) : RArrAt V w' x s ra := h.keep hk hd
/-- Ours went on, the document's not yet. -/
structure Half (w0 : World) (U V : Nat → Prop) (wr : World) (a x s : Nat) (sa : List DSt) (ra : List RSt) : Prop where
  da : ArrAt U wr a s sa
  dr : RArrAt V wr x s ra
  dis : ∀ k, U k → ¬ V k
  u1 : ∀ k, U k → w0.heap.size ≤ k
  v1 : ∀ k, V k → w0.heap.size ≤ k
  below : Below w0.heap.size w0 wr
theorem Twin.half {w0 : World} {U V : Nat → Prop} {wr : World} {a x n s t : Nat} {sa : List DSt} {ra : List RSt} (h : Twin w0 U V wr a x n s t sa ra) : Half w0 U V wr a x s sa ra := ⟨h.da, h.dr, h.dis, h.u1, h.v1, h.below⟩
theorem Half.later {w0 : World} {U V : Nat → Prop} {wr w2 : World} {a x s : Nat} {sa : List DSt} {ra : List RSt} (h : Half w0 U V wr a x s sa ra) (hb : Below wr.heap.size wr w2) : Half w0 U V w2 a x s sa ra :=
  ⟨h.da.below hb, h.dr.below hb, h.dis, h.u1, h.v1, h.below.trans (hb.mono h.below.size)⟩
theorem Half.updA {w0 : World} {U V : Nat → Prop} {wr w2 : World} {a x s : Nat} {sa sa' : List DSt} {ra : List RSt} (h : Half w0 U V wr a x s sa ra) (hu : AUpd U wr w2 a s sa') : ∃ U', Half w0 U' V w2 a x s sa' ra ∧ Keep U wr w2 := by
  obtain ⟨U', hA, hU, hK⟩ := hu
  have hs := h.below.size
  refine ⟨U', ⟨hA, h.dr.keep hK (fun k hv hu => h.dis k hu hv), fun k hu hv => h.dis k (hU k hu (h.dr.lt hv)) hv, fun k hu => ?_, h.v1, h.below.trans (hK.below hs h.u1)⟩, hK⟩
  by_cases hlt : k < wr.heap.size
  · exact h.u1 k (hU k hu hlt)
  · omega
theorem Half.updR {w0 : World} {U V : Nat → Prop} {wr w2 : World} {a x s : Nat} {sa : List DSt} {ra ra' : List RSt} (h : Half w0 U V wr a x s sa ra) (hu : RAUpd V wr w2 x s ra') : ∃ V', Half w0 U V' w2 a x s sa ra' ∧ Keep V wr w2 := by
  obtain ⟨V', hA, hV, hK⟩ := hu
  have hs := h.below.size
  refine ⟨V', ⟨h.da.keep hK (fun k hu hv => h.dis k hu hv), hA, fun k hu hv => h.dis k hu (hV k hv (h.da.lt hu)), h.u1, fun k hv => ?_, h.below.trans (hK.below hs h.v1)⟩, hK⟩
  by_cases hlt : k < wr.heap.size
  · exact h.v1 k (hV k hv hlt)
  · omega
theorem Half.twin {w0 : World} {U V : Nat → Prop} {wr : World} {a x n s t : Nat} {sa : List DSt} {ra : List RSt} (h : Half w0 U V wr a x s sa ra) (hi : TInv n s t sa ra) : Twin w0 U V wr a x n s t sa ra := ⟨h.da, h.dr, h.dis, h.u1, h.v1, h.below, hi⟩
theorem Twin.later {w0 : World} {U V : Nat → Prop} {wr w2 : World} {a x n s t : Nat} {sa : List DSt} {ra : List RSt} (h : Twin w0 U V wr a x n s t sa ra) (hb : Below wr.heap.size wr w2) : Twin w0 U V w2 a x n s t sa ra := (h.half.later hb).twin h.inv
/-- Behind an act. -/
def Went (w0 : World) (w' : World) (a x n s t : Nat) : Prop := ∃ U V sa ra, Twin w0 U V w' a x n s t sa ra
end Go.Proofs.Ytolmpopjonkfgaa
