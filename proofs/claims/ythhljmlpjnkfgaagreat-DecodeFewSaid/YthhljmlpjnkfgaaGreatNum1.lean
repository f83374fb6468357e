/-
  Whether all are shards' numbers, and none stands twice.
-/
import Derived.Test.YthhljmlpjnkfgaaGreatCod3
import Derived.Test.YthhljmlpjnkfgaaGreatLibMap
set_option linter.unusedSimpArgs false
set_option linter.unusedVariables false
namespace Go.Proofs.YthhljmlpjnkfgaaGreat
open Go.RowKit Go.Cib
attribute [local go_sem] cell_set Later.cell Later.frozen Grw.cell Grw.frozen

def numOk (n : Nat) (xs : List Int) : Prop := (∀ x ∈ xs, 0 ≤ x ∧ x < n) ∧ xs.Nodup
instance (n : Nat) (xs : List Int) : Decidable (numOk n xs) := inferInstanceAs (Decidable (_ ∧ _))
theorem zero_boolN : ∀ w, (zeroValue 4).run Tryz.prog w = .ok (.bool false) w := fun w => by kernel_rfl
theorem kt_int : KeyTy Tryz.prog 3 (Value.int .i64) := keyTy_int (by kernel_rfl)
theorem un_imap : Tryz.prog.underlying 104 = some (.map 3 4) := by kernel_rfl
theorem int_at {S : Nat → Prop} {w : World} {b o n : Nat} {xs : List Int} (h : RdL IntR 1 S w (some ⟨b, o, none⟩) n xs) {k : Nat} (hk : k < n) : ∃ x, xs[k]? = some x ∧ w.cell? ⟨b, o + k, none⟩ = some (.int .i64 x) := by
  obtain ⟨hl, cs, _, rfl, h2⟩ := h.at hk
  refine ⟨xs[k], List.getElem?_eq_getElem hl, ?_⟩
  have := h2 0 _ rfl
  rwa [Nat.mul_one, Nat.add_zero] at this
/-- Which numbers were met. -/
def SeenI (w : World) (b : Nat) (l : List Int) : Prop := ∃ es : List (Int × Value), MapAt (Value.int .i64) w b es ∧ ∀ x, (mlook es x).getD (.bool false) = .bool (decide (x ∈ l))
set_option maxRecDepth 100000 in
set_option maxHeartbeats 8000000 in
theorem numbers_any {w : World} {cb b k m n c : Nat} {A : Option Addr} {S : Nat → Prop} {xs : List Int} (H : CodAt w cb b k m) (R : RdL IntR 1 S w A n xs) (hn : n ≤ 1000000) :
    Calls Tryz.prog 30 #[.pointer (some ⟨cb, 0, none⟩), .slice A n c] w fun e w' => e = .returned (.bool (decide (numOk (k + m) xs))) ∧ Below w.heap.size w w' := by
  have HC := Lib.hid H
  have HR := Lib.hid R
  have hxl := R.1
  have q0 : (n : Int) ≤ 1000000 := by omega
  have hmm := @run_makeMap Tryz.prog
  have hb0 : Below w.heap.size w (w.alloc (.map #[] 0)) := (Below.refl _ _).alloc (Nat.le_refl _) _
  have hs0 : SeenI (w.alloc (.map #[] 0)) w.heap.size [] := ⟨[], MapAt.new _ w, fun x => by simp [mlook]⟩
  have HB0 := Lib.hid hb0
  have HS0 := Lib.hid hs0
  clear H R hb0 hs0
  go_enter Tryz.func30, Tryz.ntmps30
  go_wp2_with fail
  clear hmm
  go_loopw [11] (fun vi wr => ∃ i : Nat, i ≤ n ∧ vi = .int .i64 i ∧ Hid (SeenI wr w.heap.size (xs.take i)) ∧ Hid (Below w.heap.size w wr) ∧ Hid (numOk (k + m) (xs.take i))) (fun vi _ => n - (intOf vi).toNat)
  case atStart => exact ⟨0, Nat.zero_le _, rfl, HS0, HB0, Lib.hid ⟨fun x hx => by simp at hx, by simp⟩⟩
  case round =>
    clear HS0 HB0
    obtain ⟨i, hi, rfl, HS, HB, HK⟩ := hrel
    have p0 : (0 : Int) ≤ (i : Int) := Int.natCast_nonneg _
    by_cases hlt : i < n
    · have p1 : (i : Int) < (n : Int) := by omega
      obtain ⟨bb, o, rfl, _, hbb⟩ := HR.out.addr hlt
      obtain ⟨x, hx, v1⟩ := int_at HR.out hlt
      have v1' := (HB.out.cell (p := ⟨bb, o + i, none⟩) hbb).trans v1
      have htk : xs.take (i + 1) = xs.take i ++ [x] := by rw [List.take_add_one, hx]; rfl
      have hbad : ∀ h : ¬ numOk (k + m) (xs.take (i + 1)), decide (numOk (k + m) xs) = false := fun h => decide_eq_false fun h2 => h ⟨fun y hy => h2.1 y (List.mem_of_mem_take hy), (List.take_sublist _ _).nodup h2.2⟩
      have hN := cn_any (HC.out.below HB.out)
      have HBAD := Lib.hid hbad
      have HTK := Lib.hid htk
      clear v1 hbad htk hx
      by_cases h1 : x < 0
      · have hf := HBAD.out (fun h => by have := (h.1 x (by rw [HTK.out]; simp)).1; omega)
        have HF := Lib.hid hf
        clear hf hN
        go_wp2_with fail
        go_ret
        exact ⟨by rw [HF.out]; rfl, HB.out⟩
      · by_cases h2 : x ≥ ((k + m : Nat) : Int)
        · have hf := HBAD.out (fun h => by have := (h.1 x (by rw [HTK.out]; simp)).2; omega)
          have HF := Lib.hid hf
          have h2' : x ≥ (k : Int) + (m : Int) := by omega
          clear hf
          go_wp2_with (go_at_call 29; refine hN.mono ?_; rintro e w2 ⟨rfl, hb2⟩; have HB2 := Lib.hid (HB.out.trans (hb2.mono HB.out.size)); clear hN hb2)
          go_ret
          exact ⟨by rw [HF.out]; rfl, HB2.out⟩
        · have h2' : ¬ x ≥ (k : Int) + (m : Int) := by omega
          obtain ⟨es, hm, hlk⟩ := HS.out
          have hl := fun w' (hb : Below wr.heap.size wr w') => run_lookup kt_int un_imap zero_boolN (hm.below hb) x false
          simp only [hlk x, Bool.false_eq_true, if_false] at hl
          by_cases h3 : x ∈ xs.take i
          · have hf := HBAD.out (fun h => by
              have h4 := h.2
              rw [HTK.out, List.nodup_append] at h4
              exact h4.2.2 x h3 x (by simp) rfl)
            have HF := Lib.hid hf
            rw [decide_eq_true h3] at hl
            clear hf h3 hlk
            go_wp2_with (go_at_call 29; refine hN.mono ?_; rintro e w2 ⟨rfl, hb2⟩; have hl2 := hl w2 hb2; have HB2 := Lib.hid (HB.out.trans (hb2.mono HB.out.size)); clear hN hb2 hl)
            go_ret
            exact ⟨by rw [HF.out]; rfl, HB2.out⟩
          · rw [decide_eq_false h3] at hl
            have hok : numOk (k + m) (xs.take (i + 1)) := by
              rw [HTK.out]
              refine ⟨fun y hy => ?_, ?_⟩
              · rcases List.mem_append.1 hy with hy | hy
                · exact HK.out.1 y hy
                · rw [List.mem_singleton.1 hy]; omega
              · rw [List.nodup_append]
                exact ⟨HK.out.2, by simp, fun y hy z hz e => h3 (by rw [List.mem_singleton.1 hz] at e; rwa [← e])⟩
            have HOK := Lib.hid hok
            have HM := Lib.hid hm
            have HLK := Lib.hid hlk
            clear hok h3 hlk hm
            go_wp2_with (first
              | (go_at_call 29; refine hN.mono ?_; rintro e w2 ⟨rfl, hb2⟩; have hl2 := hl w2 hb2; have HB2 := Lib.hid (HB.out.trans (hb2.mono HB.out.size)); have HM2 := Lib.hid (HM.out.below hb2); clear hN hb2 hl)
              | (refine wpList_mapUpdate kt_int un_imap rfl (.inl rfl) (k := x) (val := .bool true) (by rfl) (by rfl) (by rfl) HM2.out ?_; intro ug hmu hsz; have HMU := Lib.hid hmu; have HB3 := Lib.hid (show Below w.heap.size w ug.to from HB2.out.grown ug.ok HB2.out.size (fun k e => by cases e; exact Nat.le_refl _)); clear hmu hsz))
            have hse : SeenI ug.to w.heap.size (xs.take (i + 1)) := ⟨_, HMU.out, fun y => by
              rw [look_put, HTK.out]
              by_cases e : x = y
              · rw [if_pos e, e]; simp
              · rw [if_neg e, HLK.out y]
                have : (y ∈ xs.take i ++ [x]) ↔ y ∈ xs.take i := by
                  rw [List.mem_append, List.mem_singleton]
                  exact ⟨fun h => h.resolve_right (fun h => e h.symm), .inl⟩
                simp only [this]⟩
            exact ⟨⟨i + 1, by omega, by go_num, Lib.hid hse, HB3, HOK⟩, by simp [intOf]; omega⟩
    · have p1 : ¬ (i : Int) < (n : Int) := by omega
      have hx := HK.out
      rw [List.take_of_length_le (by omega)] at hx
      have hf : decide (numOk (k + m) xs) = true := decide_eq_true hx
      have HF := Lib.hid hf
      clear hf hx
      go_wp2_with fail
      go_ret
      exact ⟨by rw [HF.out]; rfl, HB.out⟩
end Go.Proofs.YthhljmlpjnkfgaaGreat
