/-
  A store's acts among the arguments: few.
-/
import Derived.Test.YtpibaahiboajhaaMw2
set_option linter.unusedSimpArgs false
set_option linter.unusedVariables false
namespace Go.Proofs.Ytpibaahiboajhaa
open Go.RowKit Go.Cib
attribute [local go_sem] cell_set Later.cell Later.frozen Grw.cell Grw.frozen

theorem upto {α : Type} {l : List α} {p : α → Prop} {n : Nat} (hn : l.length ≤ n) (h : ∀ j x, j < n → l[j]? = some x → p x) : ∀ x ∈ l, p x := by
  intro x hx
  obtain ⟨j, hj, rfl⟩ := List.getElem_of_mem hx
  exact h j _ (by omega) (List.getElem?_eq_getElem hj)
def FewC (m : Nat) (chs : List Chg) (e : Ending) : Prop := ∃ r : Bool, e = .returned (.bool r) ∧ (r = true → m ≤ 30 ∧ ∀ c ∈ chs, c.blob.places.length ≤ 402)
theorem FewC.no {m : Nat} {chs : List Chg} : FewC m chs (.returned (.bool false)) := ⟨false, rfl, fun h => by cases h⟩
set_option maxRecDepth 100000 in
set_option maxHeartbeats 4000000 in
theorem fewC_any {S : Nat → Prop} {w : World} {A : Option Addr} {m c : Nat} {st : Int} {chs : List Chg} (R : Hid (RdL ChgR 5 S w A m chs)) :
    Calls Try.prog 69 #[.int .i64 0, .agg #[.int .u64 st, .slice A m c]] w fun e w' => FewC m chs e ∧ Below w.heap.size w w' := by
  have hlen : chs.length = m := R.out.1
  have X0 := BoxAt.new w #[.int .u64 st, .slice A m c] 63
  have hal0 : Below w.heap.size w (w.alloc (.cells #[.int .u64 st, .slice A m c] 63)) := (Below.refl _ _).alloc (Nat.le_refl _) _
  obtain ⟨w0, hw0⟩ : ∃ w0, w.alloc (.cells #[.int .u64 st, .slice A m c] 63) = w0 := ⟨_, rfl⟩
  obtain ⟨rb, hrb⟩ : ∃ rb, w.heap.size = rb := ⟨_, rfl⟩
  rw [hw0] at X0 hal0
  rw [hrb] at X0
  have r01 := X0.cell 1
  have HR := Lib.hid (R.out.below ChgR.stable hal0)
  have HB := Lib.hid hal0
  clear hal0 X0
  go_enter Try.func69, Try.ntmps69
  go_wp2_with fail
  go_loopw [5] (fun vi wr => ∃ i : Nat, i ≤ m ∧ i ≤ 40 ∧ vi = .int .i64 i ∧ Hid (∀ j x, j < i → chs[j]? = some x → x.blob.places.length ≤ 402) ∧ wr = w0) (fun vi _ => 100 - (intOf vi).toNat)
  case atStart => exact ⟨0, Nat.zero_le _, by omega, rfl, Lib.hid (fun j x hj => absurd hj (by omega)), rfl⟩
  case round =>
    obtain ⟨i, hi, h100, rfl, HF, hw⟩ := hrel
    replace hw := hw.symm
    subst hw
    have q2 : (0 : Int) ≤ (i : Int) := Int.natCast_nonneg _
    by_cases hlt : i < m ∧ i < 40
    · have q1 : (i : Int) < (m : Int) := by omega
      have q3 : (i : Int) < 40 := by omega
      obtain ⟨b, o, rfl, _, hb⟩ := HR.out.addr hlt.1
      obtain ⟨x, PA, pm, pc, hx, hpc, hp, d0, d1, d2, d3, d4⟩ := chg_at HR.out hlt.1
      have hpl : x.blob.places.length = pm := hp.1
      have HF2 : pm ≤ 402 → Hid (∀ j y, j < i + 1 → chs[j]? = some y → y.blob.places.length ≤ 402) := fun h => Lib.hid (fun j y hj hy => by
        by_cases hji : j = i
        · subst hji
          rw [hx] at hy
          injection hy with hy
          subst hy
          omega
        · exact HF.out j y (by omega) hy)
      clear hx hp hpl HF
      by_cases h1 : pm ≤ 60
      · have e1 : ¬ (60 : Int) < (pm : Int) := by omega
        have e3 : ¬ (402 : Int) < (pm : Int) := by omega
        replace HF2 := HF2 (by omega)
        by_cases h4 : x.key.size ≤ 100
        · have e4 : ¬ (100 : Int) < (x.key.size : Int) := by omega
          go_wp2_with fail
          exact ⟨⟨i + 1, by omega, by omega, by go_num, HF2, trivial⟩, by simp [intOf]; omega⟩
        · have e4 : (100 : Int) < (x.key.size : Int) := by omega
          go_wp2_with fail
          go_ret
          subst hrb
          exact ⟨FewC.no, HB.out⟩
      · have e1 : (60 : Int) < (pm : Int) := by omega
        by_cases h2 : pm < 400
        · have e2 : (pm : Int) < 400 := by omega
          go_wp2_with fail
          go_ret
          subst hrb
          exact ⟨FewC.no, HB.out⟩
        · have e2 : ¬ (pm : Int) < 400 := by omega
          by_cases h3 : pm ≤ 402
          · have e3 : ¬ (402 : Int) < (pm : Int) := by omega
            replace HF2 := HF2 (by omega)
            by_cases h4 : x.key.size ≤ 100
            · have e4 : ¬ (100 : Int) < (x.key.size : Int) := by omega
              go_wp2_with fail
              exact ⟨⟨i + 1, by omega, by omega, by go_num, HF2, trivial⟩, by simp [intOf]; omega⟩
            · have e4 : (100 : Int) < (x.key.size : Int) := by omega
              go_wp2_with fail
              go_ret
              subst hrb
              exact ⟨FewC.no, HB.out⟩
          · have e3 : (402 : Int) < (pm : Int) := by omega
            go_wp2_with fail
            go_ret
            subst hrb
            exact ⟨FewC.no, HB.out⟩
    · have HE : Hid (m ≤ 30 → m ≤ 30 ∧ ∀ x ∈ chs, x.blob.places.length ≤ 402) := Lib.hid (fun h1 => ⟨h1, upto (n := i) (by omega) (fun j y hj hy => HF.out j y hj hy)⟩)
      have hfin : ∀ (q1 : (i : Int) < (m : Int)), ¬ (i : Int) < 40 := fun h => by omega
      by_cases q1 : (i : Int) < (m : Int)
      · have q3 : ¬ (i : Int) < 40 := hfin q1
        have e1 : ¬ (m : Int) ≤ 30 := by omega
        clear hfin
        go_wp2_with fail
        go_ret
        subst hrb
        exact ⟨FewC.no, HB.out⟩
      · clear hfin
        go_wp2_with fail
        go_ret
        subst hrb
        exact ⟨⟨_, rfl, fun h => HE.out (by have := of_decide_eq_true h; omega)⟩, HB.out⟩

structure MAct where
  kind : Int
  stamp : Int
  chs : List Chg
  key : ByteArray
  starts : List Int
def MActR (S : Nat → Prop) (w : World) (cs : List Value) (x : MAct) : Prop := ∃ A m c B n d, cs = [.int .i64 x.kind, .int .u64 x.stamp, .slice A m c, .string x.key, .slice B n d] ∧ RdL ChgR 5 S w A m x.chs ∧ RdL U64R 1 S w B n x.starts
theorem MActR.stable : Stable MActR := by
  rintro S S' w w' cs e ⟨A, m, c, B, n, d, rfl, h, h'⟩ hk
  exact ⟨A, m, c, B, n, d, rfl, h.stable ChgR.stable hk, h'.stable U64R.stable hk⟩
theorem mact_at {S : Nat → Prop} {w : World} {A : Option Addr} {m : Nat} {xs : List MAct} (h : RdL MActR 5 S w A m xs) {i : Nat} (hi : i < m) : ∃ b o x A' m' c' B n d, A = some ⟨b, o, none⟩ ∧ xs[i]? = some x ∧ b < w.heap.size ∧ S b ∧ RdL ChgR 5 S w A' m' x.chs ∧ RdL U64R 1 S w B n x.starts ∧
    w.cell? ⟨b, o + i * 5, none⟩ = some (.int .i64 x.kind) ∧ w.cell? ⟨b, o + i * 5 + 1, none⟩ = some (.int .u64 x.stamp) ∧ w.cell? ⟨b, o + i * 5 + 2, none⟩ = some (.slice A' m' c') ∧ w.cell? ⟨b, o + i * 5 + 3, none⟩ = some (.string x.key) ∧ w.cell? ⟨b, o + i * 5 + 4, none⟩ = some (.slice B n d) := by
  obtain ⟨b, o, rfl, hS, hlt⟩ := h.addr hi
  obtain ⟨hl, cs, h1, ⟨A', m', c', B, n, d, rfl, hr, hr'⟩, h3⟩ := h.at hi
  exact ⟨b, o, xs[i], A', m', c', B, n, d, rfl, by simp [hl], hlt, hS, hr, hr', h3 0 _ rfl, h3 1 _ rfl, h3 2 _ rfl, h3 3 _ rfl, h3 4 _ rfl⟩
def ActOk (a : MAct) : Prop := a.chs.length ≤ 30 ∧ ∀ c ∈ a.chs, c.blob.places.length ≤ 402
def FewM (m : Nat) (xs : List MAct) (e : Ending) : Prop := ∃ r : Bool, e = .returned (.bool r) ∧ (r = true → m ≤ 40 ∧ ∀ a ∈ xs, ActOk a)
theorem FewM.no {m : Nat} {xs : List MAct} : FewM m xs (.returned (.bool false)) := ⟨false, rfl, fun h => by cases h⟩
set_option maxRecDepth 100000 in
set_option maxHeartbeats 4000000 in
theorem fewM_any {S : Nat → Prop} {w : World} {A : Option Addr} {m c : Nat} {xs : List MAct} (R : Hid (RdL MActR 5 S w A m xs)) :
    Calls Try.prog 33 #[.slice A m c] w fun e w' => FewM m xs e ∧ Below w.heap.size w w' := by
  have hlen : xs.length = m := R.out.1
  go_enter Try.func33, Try.ntmps33
  go_wp2_with fail
  go_loopw [3] (fun vi wr => ∃ i : Nat, i ≤ m ∧ i ≤ 60 ∧ vi = .int .i64 i ∧ Hid (∀ j x, j < i → xs[j]? = some x → ActOk x) ∧ Hid (Below w.heap.size w wr)) (fun vi _ => 100 - (intOf vi).toNat)
  case atStart => exact ⟨0, Nat.zero_le _, by omega, rfl, Lib.hid (fun j x hj => absurd hj (by omega)), Lib.hid (Below.refl _ _)⟩
  case round =>
    obtain ⟨wq, rfl⟩ : ∃ wq, wq = wr := ⟨_, rfl⟩
    obtain ⟨i, hi, h100, rfl, HF, HT⟩ := hrel
    have q2 : (0 : Int) ≤ (i : Int) := Int.natCast_nonneg _
    by_cases hlt : i < m ∧ i < 60
    · have q1 : (i : Int) < (m : Int) := by omega
      have q3 : (i : Int) < 60 := by omega
      obtain ⟨b, o, x, CA, cm, cc, BA, bm, bc, rfl, hx, hb, _, hr, hr', d0, d1, d2, d3, d4⟩ := mact_at (R.out.below MActR.stable HT.out) hlt.1
      have hcl : x.chs.length = cm := hr.1
      have hfew := fewC_any (st := x.stamp) (c := cc) (Lib.hid hr)
      have HF2 : ActOk x → Hid (∀ j y, j < i + 1 → xs[j]? = some y → ActOk y) := fun h => Lib.hid (fun j y hj hy => by
        by_cases hji : j = i
        · subst hji
          rw [hx] at hy
          injection hy with hy
          subst hy
          exact h
        · exact HF.out j y (by omega) hy)
      have u3 := fun w' (h : Below wq.heap.size wq w') => (h.cell (p := ⟨b, o + i * 5 + 3, none⟩) hb).trans d3
      have u4 := fun w' (h : Below wq.heap.size wq w') => (h.cell (p := ⟨b, o + i * 5 + 4, none⟩) hb).trans d4
      clear hx hr hr' HF
      go_wp2_with fail
      refine hfew.mono ?_
      rintro e w1 ⟨⟨r, rfl, hr⟩, hb1⟩
      have HT1 := Lib.hid (HT.out.trans (hb1.mono HT.out.size))
      have v3 := u3 w1 hb1
      have v4 := u4 w1 hb1
      clear u3 u4 d0 d1 d2 d3 d4 hb1 hfew
      cases r with
      | false =>
        go_wp2_with fail
        go_ret
        exact ⟨FewM.no, HT1.out⟩
      | true =>
        replace HF2 := HF2 ⟨by have := (hr rfl).1; omega, (hr rfl).2⟩
        clear hr
        by_cases h2 : bm ≤ 20
        · have e2 : ¬ (20 : Int) < (bm : Int) := by omega
          by_cases h3 : x.key.size ≤ 60
          · have e3 : ¬ (60 : Int) < (x.key.size : Int) := by omega
            go_wp2_with fail
            exact ⟨⟨i + 1, by omega, by omega, by go_num, HF2, HT1⟩, by simp [intOf]; omega⟩
          · have e3 : (60 : Int) < (x.key.size : Int) := by omega
            go_wp2_with fail
            go_ret
            exact ⟨FewM.no, HT1.out⟩
        · have e2 : (20 : Int) < (bm : Int) := by omega
          go_wp2_with fail
          go_ret
          exact ⟨FewM.no, HT1.out⟩
    · have HE : Hid (m ≤ 40 → m ≤ 40 ∧ ∀ x ∈ xs, ActOk x) := Lib.hid (fun h1 => ⟨h1, upto (n := i) (by omega) (fun j y hj hy => HF.out j y hj hy)⟩)
      have hfin : ∀ (q1 : (i : Int) < (m : Int)), ¬ (i : Int) < 60 := fun h => by omega
      by_cases q1 : (i : Int) < (m : Int)
      · have q3 : ¬ (i : Int) < 60 := hfin q1
        have e1 : ¬ (m : Int) ≤ 40 := by omega
        clear hfin
        go_wp2_with fail
        go_ret
        exact ⟨FewM.no, HT.out⟩
      · clear hfin
        go_wp2_with fail
        go_ret
        exact ⟨⟨_, rfl, fun h => HE.out (by have := of_decide_eq_true h; omega)⟩, HT.out⟩
end Go.Proofs.Ytpibaahiboajhaa
