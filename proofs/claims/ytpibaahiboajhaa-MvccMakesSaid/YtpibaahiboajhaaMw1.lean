/-
  The page's example of a store of versions.
-/
import Derived.Test.YtpibaahiboajhaaMv9
set_option linter.unusedSimpArgs false
set_option linter.unusedVariables false
namespace Go.Proofs.Ytpibaahiboajhaa
open Go.RowKit Go.Cib
attribute [local go_sem] cell_set Later.cell Later.frozen Grw.cell Grw.frozen

theorem putE_mem {k : ByteArray} {v : List Ver} : ∀ {f : List Ent} {x : Ent}, x ∈ putE f k v → x = ⟨k, v⟩ ∨ x ∈ f
  | [], x, h => .inl (List.mem_singleton.1 h)
  | e :: l, x, h => by
    unfold putE at h
    split at h
    · rcases List.mem_cons.1 h with rfl | h
      · exact .inr (List.mem_cons_self ..)
      · exact (putE_mem h).imp id (List.mem_cons_of_mem _)
    · split at h
      · rcases List.mem_cons.1 h with rfl | h
        · exact .inl rfl
        · exact .inr (List.mem_cons_of_mem _ h)
      · rcases List.mem_cons.1 h with rfl | h
        · exact .inl rfl
        · exact .inr h
theorem putAll_mem : ∀ {l L : List Ent} {x : Ent}, x ∈ putAll L l → x ∈ l ∨ x ∈ L
  | [], L, x, h => .inr h
  | e :: l, L, x, h => by
    rcases putAll_mem (L := putE L e.key e.vers) h with h | h
    · exact .inl (List.mem_cons_of_mem _ h)
    · rcases putE_mem h with rfl | h
      · exact .inl (List.mem_cons_self ..)
      · exact .inr h
theorem changed_ok {nb : Nat} {last st : Int} {L : List Ent} (hL : OkL nb last L) (h0 : 0 ≤ last) (hst : last < st) : ∀ {chs : List Chg} {pk : ByteArray} {l : List Ent}, (∀ c ∈ chs, c.blob.places.length ≤ 17592186043904) → changedL L st pk chs = some l → OkL (nb + 1) st l
  | [], _, l, _, h => by simp [changedL] at h; subst h; exact fun e he => by cases he
  | c :: cs, pk, l, hc, h => by
    rw [changedL] at h
    split at h
    · rename_i lv hadd
      split at h
      · rename_i hk
        cases hr : changedL L st c.key cs with
        | none => rw [hr] at h; cases h
        | some r =>
          rw [hr] at h
          simp at h
          subst h
          have ih := changed_ok hL h0 hst (fun c hc' => hc c (List.mem_cons_of_mem _ hc')) hr
          have hg := getE_ok hL c.key
          have hgp : ∀ v ∈ (getE L c.key).getD [], 0 < v.stamp ∧ v.stamp ≤ last := fun v hv => by
            unfold getE at hv
            cases hf : L.find? fun e => decide (e.key = c.key) with
            | none => rw [hf] at hv; cases hv
            | some e => rw [hf] at hv; exact (hL e (List.mem_of_find?_eq_some hf)).pos v hv
          unfold addL at hadd
          split at hadd
          · rename_i hR
            cases hadd
            intro e he
            rcases List.mem_cons.1 he with rfl | he
            · refine ⟨?_, by simp, hR, fun v hv => ?_, fun v hv => ?_, ?_⟩
              · have : keyOk c.key = true := by simp at hk; exact hk.1
                unfold keyOk at this
                simpa using this
              · rcases List.mem_cons.1 hv with rfl | hv
                · exact ⟨by show 0 < st; omega, Int.le_refl _⟩
                · have := hgp v hv; exact ⟨this.1, by omega⟩
              · rcases List.mem_cons.1 hv with rfl | hv
                · exact hc c (List.mem_cons_self ..)
                · exact hg.2 v hv
              · have := hg.1; simp only [List.length_cons]; omega
            · exact ih e he
          · cases hadd
      · cases h
    · cases h
theorem OkL.mono {nb nb' : Nat} {last last' : Int} {L : List Ent} (h : OkL nb last L) (h1 : nb ≤ nb') (h2 : last ≤ last') : OkL nb' last' L := fun e he =>
  ⟨(h e he).key, (h e he).ne, (h e he).right, fun v hv => ⟨((h e he).pos v hv).1, Int.le_trans ((h e he).pos v hv).2 h2⟩, (h e he).small, Nat.le_trans (h e he).len h1⟩
/-- A record applied, or not: the rows are as they may be. -/
theorem apply_ok {nb : Nat} {last st : Int} {L : List Ent} {chs : List Chg} (hL : OkL nb last L) (h0 : 0 ≤ last) (hc : ∀ c ∈ chs, c.blob.places.length ≤ 17592186043904) :
    OkL (nb + 1) (if (applyL L last st chs).isSome then st else last) ((applyL L last st chs).getD L) ∧ 0 ≤ (if (applyL L last st chs).isSome then st else last) ∧ ((applyL L last st chs).getD L).length ≤ L.length + chs.length := by
  unfold applyL
  cases hcd : changedL L st ⟨#[]⟩ chs with
  | none => exact ⟨by simpa using hL.mono (Nat.le_succ _) (Int.le_refl _), by simpa using h0, by simp⟩
  | some l =>
    by_cases hle : st ≤ last
    · simp only [if_pos hle]
      exact ⟨by simpa using hL.mono (Nat.le_succ _) (Int.le_refl _), by simpa using h0, by simp⟩
    · simp only [if_neg hle]
      refine ⟨?_, by simp; omega, ?_⟩
      · simp only [Option.isSome_some, if_true, Option.getD_some]
        intro e he
        rcases putAll_mem he with he | he
        · exact changed_ok hL h0 (by omega) hc hcd e he
        · exact (hL.mono (Nat.le_succ _) (by omega)) e he
      · have := putAll_len L l
        rw [changedL_len hcd] at this
        exact this
/-! ### The example -/
def exA : ByteArray := ⟨#[97]⟩
def exC1 : Chg := ⟨exA, false, ⟨[], 0, 4⟩⟩
def exC2 : Chg := ⟨exA, true, ⟨[], 0, 0⟩⟩
def exL1 : List Ent := [⟨exA, [⟨1, false, ⟨[], 0, 4⟩⟩]⟩]
def exL2 : List Ent := [⟨exA, [⟨2, true, ⟨[], 0, 0⟩⟩, ⟨1, false, ⟨[], 0, 4⟩⟩]⟩]
theorem ex_lt : Op.bytesLess (⟨#[]⟩ : ByteArray).toList exA.toList = true := by rw [ByteArray.toList_eq, ByteArray.toList_eq]; decide
theorem ex_ge : Op.bytesLess exA.toList exA.toList = false := bl_irrefl _
theorem ex_apply1 : applyL [] 0 1 [exC1] = some exL1 := by
  have h : changedL [] 1 ⟨#[]⟩ [exC1] = some exL1 := by
    rw [changedL_cons_some (l := [⟨1, false, ⟨[], 0, 4⟩⟩]) (by rfl) (by decide) ex_lt]; rfl
  unfold applyL; rw [h]; rfl
theorem ex_get : getE exL1 exA = some [⟨1, false, ⟨[], 0, 4⟩⟩] := by rfl
theorem ex_apply2 : applyL exL1 1 2 [exC2] = some exL2 := by
  have h : changedL exL1 2 ⟨#[]⟩ [exC2] = some exL2 := by
    rw [changedL_cons_some (l := [⟨2, true, ⟨[], 0, 0⟩⟩, ⟨1, false, ⟨[], 0, 4⟩⟩]) (by rfl) (by decide) ex_lt]; rfl
  unfold applyL; rw [h]
  show some (putE exL1 exA _) = _
  unfold exL1 putE
  rw [if_neg (by rw [ex_ge]; decide), if_pos rfl]; rfl
theorem ex_apply3 : applyL exL2 2 2 [] = none := by rfl
theorem ex_at : atL ((getE exL2 exA).getD []) 1 = some ⟨1, false, ⟨[], 0, 4⟩⟩ := by rfl
theorem ex_live : sumL liveW exL2 = 0 := by rfl
theorem ex_vers : sumL versW exL2 = 2 := by rfl
theorem ex_scan1 : (scanR ⟨#[]⟩ ⟨#[]⟩ 1 9 exL2).length = 1 := by unfold scanR; rw [span_all]; rfl
theorem ex_scan2 : (scanR ⟨#[]⟩ ⟨#[]⟩ 2 9 exL2).length = 0 := by unfold scanR; rw [span_all]; rfl
end Go.Proofs.Ytpibaahiboajhaa
