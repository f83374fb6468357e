/-
  A buffer's keys, rising.
-/
import Derived.Test.YtpibaahiboajhaaBuf2
import Derived.Test.YtpibaahiboajhaaStrMap
import Derived.Test.YtpibaahiboajhaaBufS
set_option linter.unusedSimpArgs false
set_option linter.unusedVariables false
namespace Go.Proofs.Ytpibaahiboajhaa
open Go.RowKit Go.Cib
attribute [local go_sem] cell_set Later.cell Later.frozen Grw.cell Grw.frozen
open Go.Maps Go.Sort Go.Shelf Go.Proofs


theorem sortsW (m : Nat) : AnyZ.SortsIn Try.prog Try.sortedW_ren Fence.wide m :=
  ⟨fun blk off cap ss W hH hblk hsz => callsIn_wide.2 (AnyM.slices_Sort_string Try.sortW blk off cap ss W hH hblk hsz),
   fun p cap W => callsIn_wide.2 (AnyM.slices_Sort_string_none Try.sortW p cap W)⟩
theorem keysW_it (mb : Option Nat) (W : World) : Calls Try.prog 95 #[.map mb] W fun e w' => e = .returned (.func (.func 127) #[] #[.pointer (some ⟨W.heap.size, 0, none⟩)]) ∧ w' = W.alloc (.cells #[.map mb] 117) :=
  (callsIn_wide (n := 5)).1 (AnyZ.keys_in Try.keysW Fence.wide 5 trivial rfl mb W)
theorem sortedW_any {w : World} {b p : Nat} {es : List (ByteArray × Value)} {xs : List ByteArray} (hm : MapAt Value.string w b es) (hp : w.cell? ⟨p, 0, none⟩ = some (.map (some b))) (hpl : p < w.heap.size) (hk : ∀ q ∈ es, q.1.size ≤ maxLen) (hl : es.length ≤ 1000000)
    (hx : (es.map (·.1)).Perm xs) (hr : xs.Pairwise fun x y => Op.bytesLess x.toList y.toList = true) :
    Calls Try.prog 94 #[.func (.func 127) #[] #[.pointer (some ⟨p, 0, none⟩)]] w fun e w' => ∃ A c, e = .returned (.slice A xs.length c) ∧ RdL StrR 1 (w.heap.size ≤ ·) w' A xs.length xs ∧ Below w.heap.size w w' := by
  refine (callsIn_wide (n := 5)).1 ?_
  obtain ⟨D0, hown, hsz, hperm⟩ := MapAt.owns (P := Try.prog) (K := 9) (by kernel_rfl) hm hk (by unfold maxLen; omega)
  have hseq : SeqGives Fence.wide 2 Try.prog 127 #[.pointer (some ⟨p, 0, none⟩)] encStr (fun ss => ss.Perm (strKeys D0)) (Maps.size D0) w :=
    AnyZ.keys_gives (ρ := Try.keysW_ren) { Try.keysW with } Fence.wide _ trivial rfl (by omega) p b es.length D0 _ hpl hp hown
  have cS := AnyZ.sorted_in Try.sortedW Fence.wide 5 trivial trivial trivial trivial rfl (by omega) (sortsW _) (enters_of Try.func126 (by kernel_rfl) rfl) 127 #[.pointer (some ⟨p, 0, none⟩)] trivial (enters_of Try.func127 (by kernel_rfl) rfl) _ _ (by rw [hsz]; unfold maxLen; omega) (by rw [hsz]; omega) _ hseq
  change CallsIn _ _ Try.prog 94 _ _ _ at cS
  refine cS.mono ?_
  rintro e w' ⟨v, ss, rfl, hS, hrow, hnil, hb⟩
  have hperm2 : ss.Perm (xs.map (·.toList)) := (hS.trans hperm).trans (by
    have := hx.map (·.toList)
    rwa [List.map_map] at this)
  have hlen : ss.length = xs.length := by have := hperm2.length_eq; simpa using this
  rw [sort_rises hperm2 hr, hlen] at hrow
  have hown := strs_own hrow rfl
  obtain ⟨A, c, rfl, _, hrd⟩ := hown.rd (S' := fun b => w.heap.size ≤ b) (fun b hb => hb) (fun cs x hx => hx)
  exact ⟨A, c, rfl, hrd, hb⟩
set_option maxRecDepth 100000 in
theorem bkeys_ok {w : World} {b bb : Nat} {L : List Wr} (h : Hid (BufB w b bb L)) :
    Calls Try.prog 56 #[.pointer (some ⟨b, 0, none⟩)] w fun e w' => ∃ A c, e = .returned (.slice A L.length c) ∧ RdL StrR 1 (w.heap.size ≤ ·) w' A L.length (L.map (·.key)) ∧ Below w.heap.size w w' := by
  obtain ⟨es, hm, hl, h3⟩ := h.out.map
  have hmem : ∀ k, k ∈ es.map (·.1) ↔ k ∈ L.map (·.key) := fun k => by
    rw [List.mem_map, List.mem_map]
    constructor
    · rintro ⟨⟨a, v⟩, hp, rfl⟩
      rcases h3 a with ⟨e1, e2⟩ | ⟨v', x, e1, e2, _⟩
      · exact absurd rfl (look_none.1 e1 _ hp)
      · exact ⟨x, (findW_mem e2).1, (findW_mem e2).2⟩
    · rintro ⟨x, hx, rfl⟩
      rcases h3 x.key with ⟨e1, e2⟩ | ⟨v', x', e1, e2, _⟩
      · exact absurd rfl (findW_none.1 e2 x hx)
      · exact ⟨_, look_mem e1, rfl⟩
  have hrs : (L.map (·.key)).Pairwise fun x y => Op.bytesLess x.toList y.toList = true := List.pairwise_map.2 h.out.ok.rises
  have hnd : (L.map (·.key)).Nodup := hrs.imp fun h => bl_ne h
  have hperm : (es.map (·.1)).Perm (L.map (·.key)) := (List.perm_ext_iff_of_nodup hm.1 hnd).2 hmem
  have hks : ∀ q ∈ es, q.1.size ≤ maxLen := fun q hq => by
    obtain ⟨x, hx, e⟩ := List.mem_map.1 ((hmem q.1).1 (List.mem_map_of_mem hq))
    have := (h.out.ok.each x hx).1
    rw [← e]; unfold maxLen; omega
  have hel : es.length ≤ 1000000 := by have := h.out.ok.len; omega
  have p0 := h.out.cell
  have hn := bnone_is w p0
  have hkw := keysW_it (some bb) w
  have wA : Below w.heap.size w (w.alloc (.cells #[.map (some bb)] 117)) := (by repeat (first | (with_reducible exact Below.refl _ _) | (with_reducible assumption) | (with_reducible refine Below.drew ?_) | (with_reducible refine Below.setCell ?_ ?_ _) | (with_reducible refine Below.alloc ?_ ?_ _) | (with_reducible refine Below.later ?_ ?_ _) | (first | (with_reducible exact Nat.le_refl _) | omega | (simp only [World.size_alloc, World.size_setCell, World.size_drew] <;> omega))))
  have cS := sortedW_any (hm.below wA) (p := w.heap.size) ((BoxAt.new w #[.map (some bb)] 117).cell 0) (by simp) hks hel hperm hrs
  rw [List.length_map] at cS
  have HW := Lib.hid wA
  have hs1 : w.heap.size ≤ (w.alloc (.cells #[.map (some bb)] 117)).heap.size := by simp
  clear hm hl h3 hmem hrs hnd hperm hks hel wA
  go_enter Try.func56, Try.ntmps56
  go_wp2_with fail
  refine hn.mono ?_
  rintro e w9 ⟨rfl, h1⟩
  replace h1 := h1.symm
  subst h1
  go_wp2_with fail
  refine hkw.mono ?_
  rintro e w2 ⟨rfl, h2⟩
  subst h2
  go_wp2_with fail
  refine cS.mono ?_
  rintro e w3 ⟨A, c, rfl, hr, hb⟩
  have T3 := Lib.hid (below_then hb HW.out)
  have R3 := Lib.hid (hr.weaken (S' := (w.heap.size ≤ ·)) StrR.stable (fun b hb => Nat.le_trans hs1 hb))
  clear hr hb cS hn hkw
  go_wp2_with fail
  go_ret
  exact ⟨A, c, rfl, R3.out, T3.out⟩
theorem bkeys_none {w : World} {p : Option Addr} (h : Hid (BNone w p)) :
    Calls Try.prog 56 #[.pointer p] w fun e w' => e = .returned (.slice none 0 0) ∧ w' = w := by
  have hn := h.out w (Below.refl _ _)
  go_enter Try.func56, Try.ntmps56
  go_wp2_with fail
  refine hn.mono ?_
  rintro e w1 ⟨rfl, h1⟩
  replace h1 := h1.symm
  subst h1
  go_wp2_with fail
  go_ret
  exact ⟨rfl, rfl⟩
end Go.Proofs.Ytpibaahiboajhaa
