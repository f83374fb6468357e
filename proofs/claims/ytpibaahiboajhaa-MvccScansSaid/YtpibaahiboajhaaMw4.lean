/-
  What a scan tells, row by row: plain.
-/
import Derived.Test.YtpibaahiboajhaaMw3
set_option linter.unusedSimpArgs false
set_option linter.unusedVariables false
namespace Go.Proofs.Ytpibaahiboajhaa
open Go.RowKit Go.Cib
attribute [local go_sem] cell_set Later.cell Later.frozen Grw.cell Grw.frozen

theorem span_filter {f t : ByteArray} : ∀ {L : List Ent}, Rises L → spanE f t L = L.filter fun y => inB f t y.key
  | [], _ => rfl
  | y :: L, hR => by
    have hr := List.pairwise_cons.1 hR
    have ih := span_filter (f := f) (t := t) hr.2
    unfold spanE fromE at ih ⊢
    rw [List.filter_cons, List.filter_cons]
    cases hf : Op.bytesLess y.key.toList f.toList with
    | true =>
      have hi : inB f t y.key = false := by unfold inB; rw [hf]; rfl
      rw [hi, if_neg (by decide), if_neg (by decide)]
      exact ih
    | false =>
      rw [if_pos (by decide), List.takeWhile_cons]
      cases hi : inB f t y.key with
      | true => rw [if_pos rfl, if_pos rfl, ih]
      | false =>
        rw [if_neg (by decide), if_neg (by decide)]
        symm
        rw [List.filter_eq_nil_iff]
        intro x hx
        have hyx := hr.1 x hx
        unfold inB at hi ⊢
        rw [hf] at hi
        simp only [Bool.not_false, Bool.true_and, Bool.or_eq_false_iff] at hi
        rw [hi.1]
        cases hxt : Op.bytesLess x.key.toList t.toList with
        | false => simp
        | true => rw [bl_trans hyx hxt] at hi; simp at hi
def scnt (f t : ByteArray) (at_ : Int) (L : List Ent) : List Fd := fdsL at_ (L.filter fun y => inB f t y.key)
theorem scnt_take {f t : ByteArray} {at_ : Int} {L : List Ent} {i : Nat} {y : Ent} (h : L[i]? = some y) : scnt f t at_ (L.take (i + 1)) = scnt f t at_ (L.take i) ++ (if inB f t y.key then (fdE at_ y).toList else []) := by
  unfold scnt
  rw [List.take_add_one, h, List.filter_append]
  cases hi : inB f t y.key with
  | true => simp only [Option.toList, List.filter_cons, hi, if_true, List.filter_nil]; rw [fdsL_snoc]; rfl
  | false => simp [hi]
theorem scnt_skip {f t : ByteArray} {at_ : Int} {L : List Ent} {i n : Nat} {y : Ent} (h : L[i]? = some y) (hn : n = (scnt f t at_ (L.take i)).length) (hs : inB f t y.key = false ∨ fdE at_ y = none) : n = (scnt f t at_ (L.take (i + 1))).length := by
  rw [scnt_take h]
  rcases hs with hs | hs
  · rw [hs]; simpa using hn
  · rw [hs]; simpa using hn
theorem scnt_hit {f t : ByteArray} {at_ : Int} {L : List Ent} {i n : Nat} {y : Ent} {x : Fd} (h : L[i]? = some y) (hn : n = (scnt f t at_ (L.take i)).length) (hi : inB f t y.key = true) (hx : fdE at_ y = some x) : n + 1 = (scnt f t at_ (L.take (i + 1))).length ∧ (scnt f t at_ L)[n]? = some x := by
  have e1 : scnt f t at_ (L.take (i + 1)) = scnt f t at_ (L.take i) ++ [x] := by rw [scnt_take h, hi, hx]; rfl
  refine ⟨by rw [e1, List.length_append, ← hn]; rfl, ?_⟩
  have e2 : scnt f t at_ L = scnt f t at_ (L.take (i + 1)) ++ scnt f t at_ (L.drop (i + 1)) := by
    unfold scnt fdsL
    rw [← List.filterMap_append, ← List.filter_append, List.take_append_drop]
  rw [e2, e1, List.append_assoc, hn, List.getElem?_append_right (Nat.le_refl _), Nat.sub_self]
  rfl
theorem scan_hit {f t : ByteArray} {at_ most : Int} {L : List Ent} (hR : Rises L) {n : Nat} {x : Fd} (h : (scnt f t at_ L)[n]? = some x) (hm : (n : Int) < most) : (scanR f t at_ most L)[n]? = some x := by
  unfold scanR
  rw [span_filter hR, List.getElem?_take_of_lt (by omega)]
  exact h
theorem scan_end {f t : ByteArray} {at_ most : Int} {L : List Ent} (hR : Rises L) {i n : Nat} (hi : i ≤ L.length) (hn : n = (scnt f t at_ (L.take i)).length) (hle : (n : Int) ≤ most ∨ n = 0) (h : i = L.length ∨ most ≤ (n : Int)) : (scanR f t at_ most L).length = n := by
  have hall : (scnt f t at_ (L.take i)).length ≤ (scnt f t at_ L).length := by
    have e2 : scnt f t at_ L = scnt f t at_ (L.take i) ++ scnt f t at_ (L.drop i) := by
      unfold scnt fdsL
      rw [← List.filterMap_append, ← List.filter_append, List.take_append_drop]
    rw [e2, List.length_append]; omega
  unfold scanR
  rw [span_filter hR, List.length_take]
  show min most.toNat (scnt f t at_ L).length = n
  rcases h with h | h
  · have : (scnt f t at_ L).length = n := by rw [hn, h, List.take_length]
    omega
  · omega
theorem getE_at {L : List Ent} (hR : Rises L) {i : Nat} {y : Ent} (h : L[i]? = some y) : getE L y.key = some y.vers := by
  have hi := (List.getElem?_eq_some_iff.1 h).1
  have hy := (List.getElem?_eq_some_iff.1 h).2
  have e : L = L.take i ++ y :: L.drop (i + 1) := by rw [← hy, ← List.drop_eq_getElem_cons hi, List.take_append_drop]
  rw [e]
  refine getE_some (fun x hx => ?_) rfl
  rw [e] at hR
  exact (List.pairwise_append.1 hR).2.2 x hx y (List.mem_cons_self ..)
theorem scan_rd {w w' : World} {v : Value} {l : List Fd} (h : OwnL FdR 82 6 w.heap.size (w.heap.size ≤ ·) w' v l.length l) : ∃ A c, v = .slice A l.length c ∧ l.length ≤ c ∧ RdL FdR 6 (w.heap.size ≤ ·) w' A l.length l :=
  h.rd (fun k hk => hk) (fun cs x hx => FdR.stable _ _ _ _ _ _ hx fun b hb _ => ⟨hb.1, rfl⟩)
theorem fdE_dead {at_ : Int} {y : Ent} (h : atL y.vers at_ = none ∨ ∃ d, atL y.vers at_ = some d ∧ d.dead = true) : fdE at_ y = none := by
  unfold fdE valueL
  rcases h with h | ⟨d, h, hd⟩
  · rw [h]; rfl
  · rw [h]; simp [hd]
theorem fdE_live {at_ : Int} {y : Ent} {d : Ver} (h : atL y.vers at_ = some d) (hd : d.dead = false) : fdE at_ y = some ⟨y.key, false, [], d.blob.places, d.blob.gen, d.blob.size⟩ := by
  unfold fdE valueL
  rw [h]; simp [hd]
theorem atL_mem {l : List Ver} {s : Int} {x : Ver} (h : atL l s = some x) : x ∈ l := by
  unfold atL at h
  split at h
  · exact List.mem_of_find?_eq_some h
  · cases h
end Go.Proofs.Ytpibaahiboajhaa
