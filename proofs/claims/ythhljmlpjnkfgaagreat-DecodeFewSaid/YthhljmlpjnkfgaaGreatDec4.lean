/-
  Which shards there are, and whether they are alike.
-/
import Derived.Test.YthhljmlpjnkfgaaGreatDec3
set_option linter.unusedSimpArgs false
set_option linter.unusedVariables false
namespace Go.Proofs.YthhljmlpjnkfgaaGreat
open Go.RowKit Go.Cib
attribute [local go_sem] cell_set Later.cell Later.frozen Grw.cell Grw.frozen

def ixF (f : Nat → Bool) : List Nat → Nat → Int
  | [], _ => -1
  | x :: l, i => if f x = true then (i : Int) else ixF f l (i + 1)
theorem ixF_cons (f : Nat → Bool) (x : Nat) (l : List Nat) (i : Nat) : ixF f (x :: l) i = if f x = true then (i : Int) else ixF f l (i + 1) := rfl
theorem ixF_any (f : Nat → Bool) : ∀ (l : List Nat) (i : Nat), decide (ixF f l i ≥ 0) = l.any f
  | [], _ => rfl
  | x :: l, i => by
    rw [List.any_cons, ixF_cons]
    by_cases h : f x = true
    · rw [if_pos h, h]; simp
    · rw [if_neg h, ixF_any f l (i + 1)]
      simp only [Bool.not_eq_true] at h
      rw [h, Bool.false_or]
theorem drop_gt {l : List Nat} {k : Nat} (hk : k < l.length) : l.drop k = gt l k :: l.drop (k + 1) := by
  rw [List.drop_eq_getElem_cons hk]
  congr 1
  exact (Option.some.inj ((gt_of_lt hk).symm.trans (List.getElem?_eq_getElem hk))).symm
set_option maxRecDepth 100000 in
set_option maxHeartbeats 4000000 in
theorem index_any {w : World} {A : Option Addr} {n c : Nat} {S : Nat → Prop} {xs : List Nat} {g : FuncId} {cap : Array Value} {f : Nat → Bool} (R : RdL NatR 1 S w A n xs) (hn : n ≤ 1000000) (hg : Hid (∀ args w, (callFunc g args).run Tryz.prog w = .ok (.enter g args) w))
    (hstep : Hid (∀ i W, i < n → Below w.heap.size w W → Calls Tryz.prog g (#[.int .i64 (gt xs i : Int)] ++ cap) W fun e W' => e = .returned (.bool (f (gt xs i))) ∧ Below W.heap.size W W')) :
    Calls Tryz.prog 98 #[.slice A n c, .func (.func g) #[] cap] w fun e w' => e = .returned (.int .i64 (ixF f xs 0)) ∧ Below w.heap.size w w' := by
  have hgg := hg.out
  have HR := Lib.hid R
  have hl := R.1
  have q0 : (n : Int) ≤ 1000000 := by omega
  clear R
  go_enter Tryz.func98, Tryz.ntmps98
  go_wp2_with fail
  go_loopw [8] (fun vi wr => ∃ i : Nat, i ≤ n ∧ vi = .int .i64 i ∧ Hid (ixF f xs 0 = ixF f (xs.drop i) i) ∧ Hid (Below w.heap.size w wr)) (fun vi _ => n - (intOf vi).toNat)
  case atStart => exact ⟨0, Nat.zero_le _, rfl, Lib.hid rfl, Lib.hid (Below.refl _ _)⟩
  case round =>
    obtain ⟨i, hi, rfl, HX, HB⟩ := hrel
    have p0 : (0 : Int) ≤ (i : Int) := Int.natCast_nonneg _
    by_cases hlt : i < n
    · have p1 : (i : Int) < (n : Int) := by omega
      obtain ⟨b, o, rfl, _, hb⟩ := HR.out.addr hlt
      have c1 := (HB.out.cell (p := ⟨b, o + i, none⟩) hb).trans (nat_at HR.out hlt)
      have hst := hstep.out i wr hlt HB.out
      have hx := HX.out
      rw [drop_gt (by omega), ixF_cons] at hx
      by_cases hf : f (gt xs i) = true
      · rw [if_pos hf] at hx
        rw [hf] at hst
        have HX2 := Lib.hid hx
        clear hx HX hf
        go_wp2_with fail
        refine hst.mono ?_
        rintro e w2 ⟨rfl, hb2⟩
        have HB2 := Lib.hid (HB.out.trans (hb2.mono HB.out.size))
        clear hst hb2
        go_wp2_with fail
        go_ret
        exact ⟨by rw [HX2.out]; rfl, HB2.out⟩
      · rw [if_neg hf] at hx
        simp only [Bool.not_eq_true] at hf
        rw [hf] at hst
        have HX2 : Hid (ixF f xs 0 = ixF f (xs.drop (i + 1)) (i + 1)) := Lib.hid hx
        clear hx HX hf
        go_wp2_with fail
        refine hst.mono ?_
        rintro e w2 ⟨rfl, hb2⟩
        have HB2 := Lib.hid (HB.out.trans (hb2.mono HB.out.size))
        clear hst hb2
        go_wp2_with fail
        exact ⟨⟨i + 1, by omega, by go_num, HX2, HB2⟩, by simp [intOf]; omega⟩
    · have p1 : ¬ (i : Int) < (n : Int) := by omega
      have hx := HX.out
      rw [List.drop_of_length_le (by omega)] at hx
      have HX2 : Hid (ixF f xs 0 = -1) := Lib.hid hx
      clear hx HX
      go_wp2_with fail
      go_ret
      exact ⟨by rw [HX2.out]; rfl, HB.out⟩
set_option maxRecDepth 100000 in
theorem contains_any {w : World} {A : Option Addr} {n c : Nat} {S : Nat → Prop} {xs : List Nat} {g : FuncId} {cap : Array Value} {f : Nat → Bool} (R : RdL NatR 1 S w A n xs) (hn : n ≤ 1000000) (hg : Hid (∀ args w, (callFunc g args).run Tryz.prog w = .ok (.enter g args) w))
    (hstep : Hid (∀ i W, i < n → Below w.heap.size w W → Calls Tryz.prog g (#[.int .i64 (gt xs i : Int)] ++ cap) W fun e W' => e = .returned (.bool (f (gt xs i))) ∧ Below W.heap.size W W')) :
    Calls Tryz.prog 79 #[.slice A n c, .func (.func g) #[] cap] w fun e w' => e = .returned (.bool (xs.any f)) ∧ Below w.heap.size w w' := by
  have hix := index_any (c := c) R hn hg hstep
  have ha := ixF_any f xs 0
  obtain ⟨v, hv⟩ : ∃ v, v = ixF f xs 0 := ⟨_, rfl⟩
  rw [← hv] at hix ha
  rw [← ha]
  clear hv ha R hstep
  go_enter Tryz.func79, Tryz.ntmps79
  go_wp2_with (go_at_call 98; refine hix.mono ?_; rintro e w2 ⟨rfl, hb⟩; have HB := Lib.hid hb; clear hb hix)
  go_ret
  exact ⟨rfl, HB.out⟩
theorem call_odd (args : Array Value) (w : World) : (callFunc 78 args).run Tryz.prog w = .ok (.enter 78 args) w := by go_simp
def lenF (ss : Rws) (i : Nat) : Nat := (ra ss i).length
def oddB (ss : Rws) (l : List Nat) (i : Nat) : Bool := decide (lenF ss i ≠ lenF ss (gt l 0))
set_option maxRecDepth 100000 in
set_option maxHeartbeats 4000000 in
theorem odd_any {w : World} {As Al : Option Addr} {N n cs cl sb lb i : Nat} {S S2 : Nat → Prop} {ss : Rws} {l : List Nat} (hs : BoxAt w sb #[.slice As N cs]) (hlb : BoxAt w lb #[.slice Al n cl]) (R : RdL RowR 1 S w As N ss) (R2 : RdL NatR 1 S2 w Al n l) (hn : 0 < n) (hall : ∀ u ∈ l, u < N) (hi : i < N) :
    Calls Tryz.prog 78 #[.int .i64 (i : Int), .pointer (some ⟨sb, 0, none⟩), .pointer (some ⟨lb, 0, none⟩)] w fun e w' => e = .returned (.bool (oddB ss l i)) ∧ Below w.heap.size w w' := by
  have k1 := hs.cell 0
  have k2 := hlb.cell 0
  have g1 := hs.lt
  have g2 := hlb.lt
  have hl := R2.1
  obtain ⟨b2, o2, rfl, _, hb2⟩ := R2.addr hn
  have v2 := nat_at R2 hn
  rw [Nat.add_zero] at v2
  have h0 : gt l 0 < N := hall _ (gt_mem (by omega))
  obtain ⟨b1, o1, rfl, _, hb1⟩ := R.addr hi
  obtain ⟨A1, m1, c1, v1, _, r1⟩ := row_at R hi
  obtain ⟨A3, m3, c3, v3, _, r3⟩ := row_at R h0
  have e1 := r1.1
  have e3 := r3.1
  have hodd : oddB ss l i = ((m1 : Int) != (m3 : Int)) := by
    unfold oddB lenF
    rw [e1, e3]
    by_cases h : m1 = m3
    · subst h; simp
    · rw [decide_eq_true h]
      simp
      omega
  rw [hodd]
  have q1 : (i : Int) < (N : Int) := by omega
  have q2 : (0 : Int) ≤ (i : Int) := Int.natCast_nonneg _
  have q3 : ((gt l 0 : Nat) : Int) < (N : Int) := by omega
  have q4 : (0 : Int) ≤ ((gt l 0 : Nat) : Int) := Int.natCast_nonneg _
  have q5 : (0 : Int) < (n : Int) := by omega
  clear hs hlb R R2 r1 r3 e1 e3 hodd
  go_enter Tryz.func78, Tryz.ntmps78
  go_wp2_with fail
  refine wp_region_later (by kernel_rfl) (by kernel_rfl) ?_
  repeat (go_big_quiet_step (fail))
  refine wpQuiet_nil ?_
  rintro _ ⟨z, rfl⟩
  go_wp2_with fail
  go_ret
  exact ⟨rfl, z.ok⟩
end Go.Proofs.YthhljmlpjnkfgaaGreat
