/-
  A map of strings, as the kit's contracts of the keys want it; lists of strings.
-/
import Derived.Test.YtpibaahiboajhaaStr
import Derived.Shelf.SlIter.Nil
import Derived.Shelf.SortM.Plain
import Derived.Shelf.SortM.SortNone
import Derived.Ground.GgzProg
import Derived.Ground.SlgmProg
set_option linter.unusedSimpArgs false
set_option linter.unusedVariables false
namespace Go.Proofs.Ytpibaahiboajhaa
open Go.RowKit Go.Cib Go.Maps Go.Sort Go.Shelf Go.Proofs Go.WideElems Go.MapKept Go.WideShapes Go.ChangeMaps

def StrR (_ : Nat → Prop) (_ : World) (cs : List Value) (x : ByteArray) : Prop := cs = [.string x]
theorem StrR.stable : Stable StrR := fun _ _ _ _ _ _ h _ => h
theorem StrR.one : ∀ S w cs x, StrR S w cs x → ∀ u ∈ cs, u.oneCell' = true := by
  rintro S w cs x rfl u hu
  simp only [List.mem_singleton] at hu
  subst hu; rfl
/-- A reader that asks nothing. -/
def anyR (_ : Value) : Option (DataW Unit × List MemPlace) := some (.nil, [])
theorem MapAt.owns {P : Program} {K : TypeId} (hK : P.underlying K = some .string) {w : World} {b : Nat} {es : List (ByteArray × Value)} (h : MapAt Value.string w b es) (hk : ∀ p ∈ es, p.1.size ≤ maxLen) (hl : es.length ≤ maxLen) :
    ∃ D0 : DataW Unit, w.ownsMap P K anyR b es.length D0 ∧ Maps.size D0 = es.length ∧ (strKeys D0).Perm (es.map fun p => p.1.toList) := by
  obtain ⟨h0, arr, clock, h1, h2, h3, h4⟩ := h
  have hsz : arr.size = es.length := by have := congrArg List.length h2; simpa using this
  have hkey : ∀ s : ByteArray, s.size ≤ maxLen → keyOf P K (.string s) = some (.string s.toList) := fun s hs => by
    rw [ByteArray.toList_eq]
    simp [keyOf, hK, mapKey, hs]
  have hkeys : arr.toList.map (·.key) = es.map (fun p => Value.string p.1) := by
    have := congrArg (List.map Prod.fst) h2
    simpa [List.map_map, Function.comp_def] using this
  have hent : ∀ x ∈ arr.toList, ∃ s, x.key = .string s ∧ s.size ≤ maxLen := fun x hx => by
    have : x.key ∈ es.map (fun p => Value.string p.1) := by rw [← hkeys]; exact List.mem_map_of_mem hx
    obtain ⟨p, hp, e⟩ := List.mem_map.1 this
    exact ⟨p.1, e.symm, hk p hp⟩
  have hrg : arr.toList.map (rg P K anyR) = es.map (fun p => (Lit.string p.1.toList, (DataW.nil : DataW Unit))) := by
    have e1 : arr.toList.map (rg P K anyR) = (arr.toList.map (·.key)).map (fun v => match v with | .string s => (Lit.string s.toList, (DataW.nil : DataW Unit)) | _ => (.bool false, .nil)) := by
      rw [List.map_map]
      refine List.map_congr_left fun x hx => ?_
      obtain ⟨s, hs, hs2⟩ := hent x hx
      simp [WideElems.rg, WideElems.rd, hs, hkey s hs2, anyR]
    rw [e1, hkeys, List.map_map]
    rfl
  refine ⟨.map ((arr.toList.map (rg P K anyR)).foldr DataW.insert []), ⟨arr, clock, h1, ⟨by omega, ⟨h4, h3, ?_⟩, fun x hx => ?_⟩, by omega, rfl⟩, ?_, ?_⟩
  · rw [hkeys]
    rw [show (fun p : ByteArray × Value => Value.string p.1) = Value.string ∘ (·.1) from rfl, ← List.map_map]
    exact List.Pairwise.map _ (fun a b hab e => hab (by injection e)) h0
  · obtain ⟨s, hs, hs2⟩ := hent x hx
    exact ⟨(.string s.toList, .nil), by simp [WideElems.rd, hs, hkey s hs2, anyR]⟩
  · show List.length _ = _
    rw [length_sorted]
    simpa using hsz
  · show List.Perm (List.map _ _) _
    refine ((sorted_perm _).map _).trans ?_
    rw [hrg, List.map_map]
    exact List.Perm.refl _
/-- What the kit's contract of the sort hands back, as a list of strings. -/
theorem strs_own {w : World} {base : Nat} {K : TypeId} {v : Value} {l : List (List UInt8)} {xs : List ByteArray} (h : w.ownsRow base K 1 v xs.length (l.map encStr)) (hl : l = xs.map (·.toList)) : OwnL StrR K 1 base (fun b => base ≤ b) w v xs.length xs := by
  subst hl
  refine ⟨xs.map (fun x => [.string x]), ?_, rfl, by simp, ?_, ?_⟩
  · have e : (xs.map (fun x => [Value.string x])).flatten = (xs.map (·.toList)).map encStr := by
      rw [List.map_map]
      clear h
      induction xs with
      | nil => rfl
      | cons x r ih =>
        simp only [List.map_cons, List.flatten_cons, ih, Function.comp]
        have : encStr x.toList = .string x := by
          show Value.string ⟨x.toList.toArray⟩ = _
          rw [show (⟨x.toList.toArray⟩ : ByteArray) = x from str_ext (by simp)]
        rw [this]; rfl
    rw [e]; exact h
  · intro cs hcs
    obtain ⟨x, _, rfl⟩ := List.mem_map.1 hcs
    rfl
  · intro i cs x h1 h2
    rw [List.getElem?_map, h2] at h1
    injection h1 with h1
    exact h1.symm
/-- A list that rises is what any order of it sorts to. -/
theorem sort_rises {ss : List (List UInt8)} {xs : List ByteArray} (hp : ss.Perm (xs.map (·.toList))) (hr : xs.Pairwise fun x y => Op.bytesLess x.toList y.toList = true) : ss.mergeSort (fun x y => decide (x ≤ y)) = xs.map (·.toList) := by
  have tr : ∀ a b c : List UInt8, leB a b = true → leB b c = true → leB a c = true := fun a b c h1 h2 => by simp only [leB, decide_eq_true_eq] at *; exact List.le_trans h1 h2
  have to : ∀ a b : List UInt8, (leB a b || leB b a) = true := fun a b => by simp only [leB, Bool.or_eq_true, decide_eq_true_eq]; exact List.le_total a b
  refine List.Perm.eq_of_pairwise (le := fun a b => leB a b = true) (fun a b _ _ h1 h2 => ?_) (List.pairwise_mergeSort tr to ss) ?_ ((List.mergeSort_perm ss leB).trans hp)
  · simp only [leB, decide_eq_true_eq] at h1 h2
    exact List.le_antisymm h1 h2
  · refine List.Pairwise.map _ (fun a b h => ?_) hr
    rw [bl_eq, decide_eq_true_eq] at h
    simp only [leB, decide_eq_true_eq]
    exact List.not_lt.1 (fun h2 => absurd (List.lt_trans h h2) (List.lt_irrefl _))
end Go.Proofs.Ytpibaahiboajhaa
