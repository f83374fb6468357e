/-
  An oracle in memory: the starts that are open, and the horizon.
-/
import Derived.Test.YtpibaahiboajhaaOsc2
set_option linter.unusedSimpArgs false
set_option linter.unusedVariables false
namespace Go.Proofs.Ytpibaahiboajhaa
open Go.RowKit Go.Cib
attribute [local go_sem] cell_set Later.cell Later.frozen Grw.cell Grw.frozen
open Go.Sort Go.Proofs Go.Shelf

theorem run_min_u (ts : Array TypeId) (t : TypeId) (x y : Int) (w : World) : (Builtin.min_ ts t #[.int .u64 x, .int .u64 y]).run Try.prog w = .ok (.int .u64 (min x y)) w := by
  rw [run_min_int2, show (if y < x then y else x) = min x y by omega]
theorem u64_in {S : Nat → Prop} {w : World} {A : Option Addr} {m : Nat} {xs : List Int} (h : RdL U64R 1 S w A m xs) {i : Nat} (hi : i < m) : ∃ b o x, A = some ⟨b, o, none⟩ ∧ xs[i]? = some x ∧ b < w.heap.size ∧ S b ∧ w.cell? ⟨b, o + i, none⟩ = some (.int .u64 x) := by
  obtain ⟨b, o, rfl, hS, hlt, hc⟩ := h.2 (by omega)
  have hx : xs[i]? = some (xs[i]'(by rw [h.1]; exact hi)) := List.getElem?_eq_getElem _
  obtain ⟨cs, e1, e2, e3⟩ := hc i _ hx
  have e2 : cs = [.int .u64 (xs[i]'(by rw [h.1]; exact hi))] := e2
  subst e2
  have := e3 0 _ rfl
  rw [show o + i * 1 + 0 = o + i by omega] at this
  exact ⟨b, o, _, rfl, hx, hlt, hS, this⟩
theorem u64_get {S : Nat → Prop} {w : World} {b o n : Nat} {xs : List Int} (h : RdL U64R 1 S w (some ⟨b, o, none⟩) n xs) {k : Nat} (hk : k < n) : ∃ x, xs[k]? = some x ∧ b < w.heap.size ∧ S b ∧ w.cell? ⟨b, o + k, none⟩ = some (.int .u64 x) := by
  obtain ⟨b', o', x, e, h1⟩ := u64_in h hk
  injection e with e
  injection e with e1 e2
  subst e1; subst e2
  exact ⟨x, h1⟩

theorem take_snoc_u {xs : List Int} {i : Nat} {x : Int} (h : xs[i]? = some x) : xs.take (i + 1) = xs.take i ++ [x] := by
  rw [List.take_add_one, h]
  rfl
/-- The least of a list and a number. -/
def hor (last : Int) (L : List Int) : Int := L.foldl min last
theorem hor_spec (L : List Int) : ∀ last, hor last L ≤ last ∧ (∀ x ∈ L, hor last L ≤ x) ∧ (hor last L = last ∨ hor last L ∈ L) := by
  induction L with
  | nil => intro last; exact ⟨Int.le_refl _, by simp, Or.inl rfl⟩
  | cons y L ih =>
    intro last
    obtain ⟨h1, h2, h3⟩ := ih (min last y)
    have e : hor last (y :: L) = hor (min last y) L := rfl
    rw [e]
    refine ⟨by omega, fun x hx => ?_, ?_⟩
    · rcases List.mem_cons.1 hx with rfl | hx
      · omega
      · exact h2 x hx
    · rcases h3 with h3 | h3
      · rw [h3]
        by_cases hly : last ≤ y
        · exact Or.inl (by omega)
        · exact Or.inr (by rw [show min last y = y by omega]; simp)
      · exact Or.inr (by simp [h3])
theorem hor_same {last : Int} {L M : List Int} (h : ∀ s, s ∈ L ↔ s ∈ M) : hor last L = hor last M := by
  obtain ⟨a1, a2, a3⟩ := hor_spec L last
  obtain ⟨b1, b2, b3⟩ := hor_spec M last
  have h1 : hor last L ≤ hor last M := by
    rcases b3 with e | e
    · omega
    · exact a2 _ ((h _).2 e)
  have h2 : hor last M ≤ hor last L := by
    rcases a3 with e | e
    · omega
    · exact b2 _ ((h _).1 e)
  omega
theorem hor_snoc (last : Int) (L : List Int) (x : Int) : hor last (L ++ [x]) = min (hor last L) x := by
  unfold hor
  rw [List.foldl_append]
  rfl

set_option maxRecDepth 100000 in
set_option maxHeartbeats 4000000 in
theorem ostarts_ok {w : World} {o b : Nat} {last most : Int} {L : List Int} {xs : List Int} (h : OrcAt w o b last most L) (hr : xs.Pairwise (· < ·)) (hx : ∀ s, s ∈ xs ↔ s ∈ L) :
    Calls Try.prog 29 #[.pointer (some ⟨o, 0, none⟩)] w fun e w' => ∃ A c, e = .returned (.slice A xs.length c) ∧ RdL U64R 1 (w.heap.size ≤ ·) w' A xs.length xs ∧ Below w.heap.size w w' := by
  have hn := onone_is (h.box.cell 2)
  have c2 := h.box.cell 2
  obtain ⟨es, m1, m2⟩ := h.map
  have hmem : ∀ s, s ∈ es.map (·.1) ↔ s ∈ L := fun s => by
    have h2 := m2 s
    by_cases hs : L.count s = 0
    · rw [if_pos hs] at h2
      refine ⟨fun hm => ?_, fun hl => absurd (List.count_pos_iff.2 hl) (by omega)⟩
      obtain ⟨p, hp, rfl⟩ := List.mem_map.1 hm
      exact absurd rfl (look_none.1 h2 p hp)
    · rw [if_neg hs] at h2
      exact ⟨fun _ => List.count_pos_iff.1 (by omega), fun _ => List.mem_map.2 ⟨_, look_mem h2, rfl⟩⟩
  have hnd : xs.Nodup := hr.imp (fun h => by omega)
  have hperm : (es.map (·.1)).Perm xs := (List.perm_ext_iff_of_nodup m1.1 hnd).2 (fun s => (hmem s).trans (hx s).symm)
  have hel : es.length ≤ 1000000 := by
    have := nodup_len _ L m1.1 (fun s hs => (hmem s).1 hs)
    have h3 := h.len
    simp only [List.length_map] at this
    omega
  have hk := keysU_it (some b) w
  have wA : Below w.heap.size w (w.alloc (.cells #[.map (some b)] 51)) := (Below.refl _ w).alloc (Nat.le_refl _) _
  have cS := sorted_u (m1.below wA) (p := w.heap.size) ((BoxAt.new w #[.map (some b)] 51).cell 0) (by simp) hel hperm hr
  have HW := Lib.hid wA
  have hs1 : w.heap.size ≤ (w.alloc (.cells #[.map (some b)] 51)).heap.size := by simp
  clear m1 m2 hmem hnd hperm hel wA h
  go_enter Try.func29, Try.ntmps29
  go_wp2_with fail
  refine hn.mono ?_
  rintro e w9 ⟨rfl, h1⟩
  replace h1 := h1.symm
  subst h1
  go_wp2_with fail
  refine hk.mono ?_
  rintro e w2 ⟨rfl, h2⟩
  subst h2
  go_wp2_with fail
  refine cS.mono ?_
  rintro e w3 ⟨A, c, rfl, hrd, hb⟩
  have T3 := Lib.hid (below_then hb HW.out)
  have R3 := Lib.hid (hrd.weaken (S' := (w.heap.size ≤ ·)) U64R.stable (fun b hb => Nat.le_trans hs1 hb))
  clear hrd hb cS hn hk
  go_wp2_with fail
  go_ret
  exact ⟨A, c, rfl, R3.out, T3.out⟩
attribute [local go_sem ↓] run_min_u
set_option maxRecDepth 100000 in
set_option maxHeartbeats 4000000 in
theorem ohor_ok {w : World} {o b : Nat} {last most : Int} {L : List Int} {xs : List Int} (h : OrcAt w o b last most L) (hr : xs.Pairwise (· < ·)) (hx : ∀ s, s ∈ xs ↔ s ∈ L) (hlen : xs.length ≤ 1000) :
    Calls Try.prog 31 #[.pointer (some ⟨o, 0, none⟩)] w fun e w' => e = .returned (.int .u64 (hor last L)) ∧ Below w.heap.size w w' := by
  have hl := olast_ok h
  have hs := ostarts_ok h hr hx
  rw [← hor_same hx]
  clear h hr hx
  go_enter Try.func31, Try.ntmps31
  go_wp2_with fail
  refine hl.mono ?_
  rintro e w1 ⟨rfl, h1⟩
  replace h1 := h1.symm
  subst h1
  go_wp2_with fail
  refine hs.mono ?_
  rintro e w2 ⟨A, c, rfl, hrd, hb⟩
  have R := Lib.hid hrd
  have B := Lib.hid hb
  clear hrd hb hs hl
  go_wp2_with fail
  go_loopw [3, 11] (fun vh vi wq => ∃ i : Nat, i ≤ xs.length ∧ vi = .int .i64 i ∧ vh = .int .u64 (hor last (xs.take i)) ∧ wq = w2) (fun _ vi _ => xs.length - (intOf vi).toNat)
  case atStart => exact ⟨0, Nat.zero_le _, rfl, rfl, rfl⟩
  case round =>
    obtain ⟨i, hi, rfl, rfl, rfl⟩ := hrel
    have q2 : (0 : Int) ≤ (i : Int) := Int.natCast_nonneg _
    by_cases hil : i < xs.length
    · have q1 : (i : Int) < (xs.length : Int) := by omega
      obtain ⟨bb, oo, x, rfl, hxi, _, _, hc⟩ := u64_in R.out hil
      have HT : Hid (hor last (xs.take (i + 1)) = min (hor last (xs.take i)) x) := Lib.hid (by rw [take_snoc_u hxi, hor_snoc])
      clear hxi
      go_wp2_with fail
      exact ⟨⟨i + 1, by omega, by go_num, by rw [HT.out], by first | rfl | trivial⟩, by simp [intOf]; omega⟩
    · obtain rfl : i = xs.length := by omega
      have q1 : ¬ (xs.length : Int) < (xs.length : Int) := by omega
      go_wp2_with fail
      go_ret
      exact ⟨rfl, B.out⟩
end Go.Proofs.Ytpibaahiboajhaa
