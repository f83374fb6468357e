/-
  BufferSees, walked.
-/
import Derived.Test.YtpibaahiboajhaaBuf19
import Derived.Deep.CutRange
set_option linter.unusedSimpArgs false
set_option linter.unusedVariables false
namespace Go.Proofs.Ytpibaahiboajhaa
open Go.RowKit Go.Cib
attribute [local go_sem] cell_set Later.cell Later.frozen Grw.cell Grw.frozen
open Go.Maps Go.Sort Go.Shelf Go.Proofs

theorem sl_str : SlTy Try.prog 107 9 (.string ⟨#[]⟩) 1 16 := ⟨by kernel_rfl, by kernel_rfl, by kernel_rfl, by omega⟩
theorem _root_.Go.RowKit.Below.trans_of {w0 w1 w2 : World} (h2 : Below w1.heap.size w1 w2) (h1 : Below w0.heap.size w0 w1) : Below w0.heap.size w0 w2 := h1.trans (h2.mono h1.size)
theorem sortedW_own {w : World} {b p : Nat} {es : List (ByteArray × Value)} {xs : List ByteArray} (hm : MapAt Value.string w b es) (hp : w.cell? ⟨p, 0, none⟩ = some (.map (some b))) (hpl : p < w.heap.size) (hk : ∀ q ∈ es, q.1.size ≤ maxLen) (hl : es.length ≤ 1000000)
    (hx : (es.map (·.1)).Perm xs) (hr : xs.Pairwise fun x y => Op.bytesLess x.toList y.toList = true) :
    Calls Try.prog 94 #[.func (.func 127) #[] #[.pointer (some ⟨p, 0, none⟩)]] w fun e w' => ∃ v, e = .returned v ∧ OwnL StrR 9 1 w.heap.size (w.heap.size ≤ ·) w' v xs.length xs ∧ Below w.heap.size w w' := by
  refine (callsIn_wide (n := 5)).1 ?_
  obtain ⟨D0, hown, hsz, hperm⟩ := MapAt.owns (P := Try.prog) (K := 9) (by kernel_rfl) hm hk (by unfold maxLen; omega)
  have hseq : SeqGives Fence.wide 2 Try.prog 127 #[.pointer (some ⟨p, 0, none⟩)] encStr (fun ss => ss.Perm (strKeys D0)) (Maps.size D0) w :=
    AnyZ.keys_gives (ρ := Try.keysW_ren) { Try.keysW with } Fence.wide _ trivial rfl (by omega) p b es.length D0 _ hpl hp hown
  have cS := AnyZ.sorted_in Try.sortedW Fence.wide 5 trivial trivial trivial trivial rfl (by omega) (sortsW _) (enters_of Try.func126 (by kernel_rfl) rfl) 127 #[.pointer (some ⟨p, 0, none⟩)] trivial (enters_of Try.func127 (by kernel_rfl) rfl) _ _ (by rw [hsz]; unfold maxLen; omega) (by rw [hsz]; omega) _ hseq
  change CallsIn _ _ Try.prog 94 _ _ _ at cS
  refine cS.mono ?_
  rintro e w' ⟨v, ss, rfl, hS, hrow, hnil, hb⟩
  have hperm2 : ss.Perm (xs.map (·.toList)) := (hS.trans hperm).trans (by
    have := hx.map (·.toList)
    rwa [List.map_map] at this)
  have hlen : ss.length = xs.length := by have := hperm2.length_eq; simpa using this
  rw [sort_rises hperm2 hr, hlen] at hrow
  exact ⟨v, rfl, strs_own hrow rfl, hb⟩
set_option maxRecDepth 100000 in
theorem bkeys_own {w : World} {b bb : Nat} {L : List Wr} (h : Hid (BufB w b bb L)) :
    Calls Try.prog 56 #[.pointer (some ⟨b, 0, none⟩)] w fun e w' => ∃ v, e = .returned v ∧ OwnL StrR 9 1 (w.heap.size + 1) (w.heap.size + 1 ≤ ·) w' v L.length (L.map (·.key)) ∧ Below w.heap.size w w' ∧ w.heap.size + 1 ≤ w'.heap.size := by
  obtain ⟨es, hm, hl, h3⟩ := h.out.map
  have hmem : ∀ k, k ∈ es.map (·.1) ↔ k ∈ L.map (·.key) := fun k => by
    rw [List.mem_map, List.mem_map]
    constructor
    · rintro ⟨⟨a, v⟩, hp, rfl⟩
      rcases h3 a with ⟨e1, e2⟩ | ⟨v', x, e1, e2, _⟩
      · exact absurd rfl (look_none.1 e1 _ hp)
      · exact ⟨x, (findW_mem e2).1, (findW_mem e2).2⟩
    · rintro ⟨x, hx, rfl⟩
      rcases h3 x.key with ⟨e1, e2⟩ | ⟨v', x', e1, e2, _⟩
      · exact absurd rfl (findW_none.1 e2 x hx)
      · exact ⟨_, look_mem e1, rfl⟩
  have hrs : (L.map (·.key)).Pairwise fun x y => Op.bytesLess x.toList y.toList = true := List.pairwise_map.2 h.out.ok.rises
  have hnd : (L.map (·.key)).Nodup := hrs.imp fun h => bl_ne h
  have hperm : (es.map (·.1)).Perm (L.map (·.key)) := (List.perm_ext_iff_of_nodup hm.1 hnd).2 hmem
  have hks : ∀ q ∈ es, q.1.size ≤ maxLen := fun q hq => by
    obtain ⟨x, hx, e⟩ := List.mem_map.1 ((hmem q.1).1 (List.mem_map_of_mem hq))
    have := (h.out.ok.each x hx).1
    rw [← e]; unfold maxLen; omega
  have hel : es.length ≤ 1000000 := by have := h.out.ok.len; omega
  have p0 := h.out.cell
  have hn := bnone_is w p0
  have hkw := keysW_it (some bb) w
  have wA : Below w.heap.size w (w.alloc (.cells #[.map (some bb)] 117)) := (by repeat (first | (with_reducible exact Below.refl _ _) | (with_reducible assumption) | (with_reducible refine Below.drew ?_) | (with_reducible refine Below.setCell ?_ ?_ _) | (with_reducible refine Below.alloc ?_ ?_ _) | (with_reducible refine Below.later ?_ ?_ _) | (first | (with_reducible exact Nat.le_refl _) | omega | (simp only [World.size_alloc, World.size_setCell, World.size_drew] <;> omega))))
  have cS := sortedW_own (hm.below wA) (p := w.heap.size) ((BoxAt.new w #[.map (some bb)] 117).cell 0) (by simp) hks hel hperm hrs
  rw [List.length_map] at cS
  have HW := Lib.hid wA
  clear hm hl h3 hmem hrs hnd hperm hks hel wA
  go_enter Try.func56, Try.ntmps56
  go_wp2_with fail
  refine hn.mono ?_
  rintro e w9 ⟨rfl, h1⟩
  replace h1 := h1.symm
  subst h1
  go_wp2_with fail
  refine hkw.mono ?_
  rintro e w2 ⟨rfl, h2⟩
  subst h2
  go_wp2_with fail
  refine cS.mono ?_
  rintro e w3 ⟨v, rfl, hr, hb⟩
  have T3 := Lib.hid (below_then hb HW.out)
  have hsz : w.heap.size + 1 ≤ w3.heap.size := by have := hb.size; rw [World.size_alloc] at this; exact this
  have R3 : Hid (OwnL StrR 9 1 (w.heap.size + 1) (w.heap.size + 1 ≤ ·) w3 v L.length (L.map (·.key))) := Lib.hid (by simpa only [World.size_alloc] using hr)
  clear hr hb cS hn hkw
  go_wp2_with fail
  go_ret
  exact ⟨v, rfl, R3.out, T3.out, hsz⟩

theorem ofKey_mem {k : ByteArray} {l : List Fd} {n : Nat} {y : Fd} (h : y ∈ ofKey k (l.take n)) : y ∈ l := List.mem_of_mem_take (List.mem_filter.1 h).1
theorem want_eq {L : List Wr} {f t k : ByteArray} {xs W0 : List Fd} {H B C zd : Bool} {z : Wr} (hH : (findW L k).isSome = H) (hz : (findW L k).getD w0 = z) (hd : z.dead = zd) (hB : inB f t k = B) (hC : (H && (!zd && B)) = C) (hW : W0 = if C = true then [fdOf z] else []) :
    W0 ++ (if (!H && B) = true then ofKey k xs else []) = wantF L f t k xs := by
  unfold wantF
  subst hW; subst hC; subst hd; subst hB
  cases hf : findW L k with
  | none =>
    rw [hf] at hH
    have hH : H = false := hH.symm
    subst hH
    simp
  | some y =>
    rw [hf] at hH hz
    have hH : H = true := hH.symm
    have hz : y = z := hz
    subst hH; subst hz
    simp
end Go.Proofs.Ytpibaahiboajhaa
