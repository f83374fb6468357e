/-
  A buffer's writes: as a list that rises, and as a map in memory.
-/
import Derived.Test.YtpibaahiboajhaaStr
set_option linter.unusedSimpArgs false
set_option linter.unusedVariables false
namespace Go.Proofs.Ytpibaahiboajhaa
open Go.RowKit Go.Cib
attribute [local go_sem] cell_set Later.cell Later.frozen Grw.cell Grw.frozen

structure Wr where
  key : ByteArray
  dead : Bool
  val : List Int
def WrR (S : Nat → Prop) (w : World) (cs : List Value) (x : Wr) : Prop := ∃ A m c, cs = [.string x.key, .bool x.dead, .slice A m c] ∧ RdL U8R 1 S w A m x.val
theorem WrR.stable : Stable WrR := by
  rintro S S' w w' cs e ⟨A, m, c, rfl, h⟩ hk
  exact ⟨A, m, c, rfl, h.stable U8R.stable hk⟩
theorem WrR.one : ∀ S w cs x, WrR S w cs x → ∀ u ∈ cs, u.oneCell' = true := by
  rintro S w cs x ⟨A, m, c, rfl, _⟩ u hu
  simp only [List.mem_cons, List.not_mem_nil, or_false] at hu
  rcases hu with rfl | rfl | rfl <;> rfl
/-- What lies in the map. -/
def WvR (S : Nat → Prop) (w : World) (v : Value) (x : Wr) : Prop := ∃ A m c, v = .agg #[.string x.key, .bool x.dead, .slice A m c] ∧ RdL U8R 1 S w A m x.val

/-! ### Lists that rise -/
def RisesW (L : List Wr) : Prop := L.Pairwise fun x y => Op.bytesLess x.key.toList y.key.toList = true
def insW : List Wr → Wr → List Wr
  | [], x => [x]
  | y :: r, x => if Op.bytesLess y.key.toList x.key.toList = true then y :: insW r x else if y.key = x.key then x :: r else x :: y :: r
def findW : List Wr → ByteArray → Option Wr
  | [], _ => none
  | y :: r, k => if y.key = k then some y else findW r k
theorem findW_mem {L : List Wr} {k : ByteArray} {x : Wr} (h : findW L k = some x) : x ∈ L ∧ x.key = k := by
  induction L with
  | nil => cases h
  | cons y r ih =>
    unfold findW at h
    split at h
    · injection h with h; subst h; exact ⟨by simp, by assumption⟩
    · exact ⟨List.mem_cons_of_mem _ (ih h).1, (ih h).2⟩
theorem findW_none {L : List Wr} {k : ByteArray} : findW L k = none ↔ ∀ x ∈ L, x.key ≠ k := by
  induction L with
  | nil => simp [findW]
  | cons y r ih =>
    unfold findW
    split
    · rename_i e; simp [e]
    · rename_i e; simp [ih, e]
theorem mem_ins {L : List Wr} {x y : Wr} (h : y ∈ insW L x) : y = x ∨ y ∈ L := by
  induction L with
  | nil => simpa [insW] using h
  | cons z r ih =>
    unfold insW at h
    split at h
    · rcases List.mem_cons.1 h with h | h
      · exact .inr (by simp [h])
      · rcases ih h with h | h
        · exact .inl h
        · exact .inr (List.mem_cons_of_mem _ h)
    · split at h
      · rcases List.mem_cons.1 h with h | h
        · exact .inl h
        · exact .inr (List.mem_cons_of_mem _ h)
      · rcases List.mem_cons.1 h with h | h
        · exact .inl h
        · exact .inr h
theorem rises_ins {L : List Wr} (h : RisesW L) (x : Wr) : RisesW (insW L x) := by
  induction L with
  | nil => exact List.pairwise_singleton _ _
  | cons y r ih =>
    obtain ⟨h1, h2⟩ := List.pairwise_cons.1 h
    unfold insW
    split
    · rename_i hlt
      refine List.pairwise_cons.2 ⟨fun z hz => ?_, ih h2⟩
      rcases mem_ins hz with rfl | hz
      · exact hlt
      · exact h1 z hz
    · rename_i hlt
      split
      · rename_i e
        exact List.pairwise_cons.2 ⟨fun z hz => by rw [← e]; exact h1 z hz, h2⟩
      · rename_i e
        have hxy : Op.bytesLess x.key.toList y.key.toList = true := by
          cases hxy : Op.bytesLess x.key.toList y.key.toList with
          | true => rfl
          | false => exact absurd (bl_tri (by simpa using hlt) hxy) e
        refine List.pairwise_cons.2 ⟨fun z hz => ?_, h⟩
        rcases List.mem_cons.1 hz with rfl | hz
        · exact hxy
        · exact bl_trans hxy (h1 z hz)
theorem findW_head {y : Wr} {r : List Wr} {k : ByteArray} (h : RisesW (y :: r)) (hk : Op.bytesLess y.key.toList k.toList = false) (hne : y.key ≠ k) : findW r k = none := by
  refine findW_none.2 fun x hx e => ?_
  have h1 := (List.pairwise_cons.1 h).1 x hx
  subst e
  rw [h1] at hk; cases hk
theorem find_ins {L : List Wr} (h : RisesW L) (x : Wr) (k : ByteArray) : findW (insW L x) k = if x.key = k then some x else findW L k := by
  induction L with
  | nil => simp [insW, findW]
  | cons y r ih =>
    obtain ⟨h1, h2⟩ := List.pairwise_cons.1 h
    unfold insW
    split
    · rename_i hlt
      have hne := bl_ne hlt
      unfold findW
      rw [ih h2]
      by_cases hy : y.key = k
      · rw [if_pos hy, if_pos hy, if_neg (fun e => hne (hy.trans e.symm))]
      · rw [if_neg hy, if_neg hy]
    · split
      · rename_i e
        simp only [findW]
        by_cases hx : x.key = k
        · rw [if_pos hx, if_pos hx]
        · rw [if_neg hx, if_neg hx, if_neg (fun e2 => hx (e.symm.trans e2))]
      · rfl
theorem ins_len {L : List Wr} (h : RisesW L) (x : Wr) : (insW L x).length = L.length + (if (findW L x.key).isSome then 0 else 1) := by
  induction L with
  | nil => simp [insW, findW]
  | cons y r ih =>
    obtain ⟨h1, h2⟩ := List.pairwise_cons.1 h
    unfold insW
    split
    · rename_i hlt
      rw [List.length_cons, ih h2, List.length_cons]
      rw [show findW (y :: r) x.key = findW r x.key by rw [findW, if_neg (bl_ne hlt)]]; omega
    · rename_i hlt
      split
      · rename_i e
        simp [findW, e]
      · rename_i e
        have hf : findW (y :: r) x.key = none := by
          unfold findW
          rw [if_neg e]
          exact findW_head h (by simpa using hlt) e
        rw [hf]; simp
/-- Why a write can't be. -/
def wrE (L : List Wr) (x : Wr) : Int := if ¬ (0 < x.key.size ∧ x.key.size ≤ 16) then 200 else if 400 < x.val.length ∨ (findW L x.key = none ∧ 16 ≤ L.length) then 260 else 0
def wrW (L : List Wr) (x : Wr) : List Wr := if wrE L x = 0 then insW L x else L
structure WOk (L : List Wr) : Prop where
  rises : RisesW L
  len : L.length ≤ 16
  each : ∀ x ∈ L, x.key.size ≤ 16 ∧ x.val.length ≤ 400
theorem WOk.nil : WOk [] := ⟨List.Pairwise.nil, by simp, by simp⟩
theorem wrE_ok {L : List Wr} {x : Wr} (h : wrE L x = 0) : 0 < x.key.size ∧ x.key.size ≤ 16 ∧ x.val.length ≤ 400 ∧ (findW L x.key = none → L.length < 16) := by
  unfold wrE at h
  split at h
  · cases h
  · split at h
    · cases h
    · rename_i h1 h2
      have h1 := Decidable.not_not.1 h1
      refine ⟨h1.1, h1.2, by omega, fun hn => ?_⟩
      by_cases hl : 16 ≤ L.length
      · exact absurd (.inr ⟨hn, hl⟩) h2
      · omega
theorem WOk.write {L : List Wr} (h : WOk L) (x : Wr) : WOk (wrW L x) := by
  unfold wrW
  split
  · rename_i he
    obtain ⟨h1, h2, h3, h4⟩ := wrE_ok he
    refine ⟨rises_ins h.rises x, ?_, fun y hy => ?_⟩
    · rw [ins_len h.rises]
      cases hf : findW L x.key with
      | none => have := h4 hf; simp; omega
      | some z => have := h.len; simp; omega
    · rcases mem_ins hy with rfl | hy
      · exact ⟨h2, h3⟩
      · exact h.each y hy
  · exact h

/-! ### In memory -/
/-- The map (block bb) has these writes. -/
def BufM (w : World) (bb : Nat) (L : List Wr) : Prop := ∃ es, MapAt Value.string w bb es ∧ es.length = L.length ∧
  ∀ k, (mlook es k = none ∧ findW L k = none) ∨ ∃ v x, mlook es k = some v ∧ findW L k = some x ∧ WvR (· ≠ bb) w v x
structure BufB (w : World) (b bb : Nat) (L : List Wr) : Prop where
  cell : w.cell? ⟨b, 0, none⟩ = some (.map (some bb))
  ne : b ≠ bb
  lt : b < w.heap.size
  map : BufM w bb L
  ok : WOk L
theorem WvR.keep {S F : Nat → Prop} {w w' : World} {v : Value} {x : Wr} (h : WvR S w v x) (hk : Keep F w w') (hd : ∀ b, S b → ¬ F b) : WvR S w' v x := by
  obtain ⟨A, m, c, rfl, hr⟩ := h
  exact ⟨A, m, c, rfl, hr.keep U8R.stable hk hd⟩
theorem BufM.below {w w' : World} {bb : Nat} {L : List Wr} (h : BufM w bb L) (hb : Below w.heap.size w w') : BufM w' bb L := by
  obtain ⟨es, h1, h2, h3⟩ := h
  refine ⟨es, h1.below hb, h2, fun k => (h3 k).imp id ?_⟩
  rintro ⟨v, x, e1, e2, e3⟩
  exact ⟨v, x, e1, e2, e3.keep (F := fun _ => False) (Keep.of_below hb) (fun _ _ h => h)⟩
theorem BufB.below {w w' : World} {b bb : Nat} {L : List Wr} (h : BufB w b bb L) (hb : Below w.heap.size w w') : BufB w' b bb L :=
  ⟨(hb.cell (p := ⟨b, 0, none⟩) h.lt).trans h.cell, h.ne, by have := h.lt; have := hb.size; omega, h.map.below hb, h.ok⟩
theorem BufM.keep {F : Nat → Prop} {w w' : World} {bb : Nat} {L : List Wr} (h : BufM w bb L) (hk : Keep F w w') (hF : ∀ k, ¬ F k) : BufM w' bb L := by
  refine h.below ⟨hk.os, hk.tape, hk.output, hk.size, fun k hlt => hk.block k hlt (hF k)⟩
end Go.Proofs.Ytpibaahiboajhaa
