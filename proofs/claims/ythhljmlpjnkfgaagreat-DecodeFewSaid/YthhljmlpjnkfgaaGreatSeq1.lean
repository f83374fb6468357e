/-
  slices.Values at int: what its iterator gives.
-/
import Derived.Test.YthhljmlpjnkfgaaGreatNum1
import Derived.RangeFuncNested
import Derived.RangeFuncBound
import Derived.RangeFuncCalls
import Derived.RangeFuncLeaves
import Derived.Shelf.Abstract
import Derived.Shelf.RegionOpen
import Derived.WalkKit
import Derived.OwnWalkIn
import Derived.TacticsInMore
import Derived.LoopNIn
import Derived.LoopIn
import Derived.Sort.LoopGhostIn
import Derived.Maps.OwnIn
set_option linter.unusedSimpArgs false
set_option linter.unusedVariables false
namespace Go.Proofs.YthhljmlpjnkfgaaGreat
open Go.RowKit Go.Cib
attribute [local go_sem] cell_set Later.cell Later.frozen Grw.cell Grw.frozen
attribute [local go_sem] Oper.semAt_some
open Go.Shelf

theorem RoundIn.anyDepth2 {F : Fence} (hd : F.depth = none) {m m' : Nat} {P : Program} {l : Nat} {f : FuncId} {tmps : Array Value} {assign body : Code} {w : World} {R : Ending → World → Prop}
    (h : RoundIn F m P l f tmps assign body w R) : RoundIn F m' P l f tmps assign body w R := ⟨h.1, fun c cs _ => h.2 c cs (fun d h => by rw [hd] at h; cases h)⟩
theorem YieldAt.anyDepth2 {F : Fence} (hd : F.depth = none) {m : Nat} (m' : Nat) {P : Program} {l : Nat} {args : Array Value} {W : World} {R : Ending → World → Prop} (h : YieldAt F m P l args W R) : YieldAt F m' P l args W R := by
  obtain ⟨fn, tmps, assign, body, hy, hR⟩ := h
  exact ⟨fn, tmps, assign, body, hy, RoundIn.anyDepth2 hd hR⟩
set_option maxRecDepth 100000 in
theorem values_any {w : World} {A : Option Addr} {n c : Nat} : Calls Tryz.prog 33 #[.slice A n c] w fun e w' => e = .returned (.func (.func 54) #[] #[.pointer (some ⟨w.heap.size, 0, none⟩)]) ∧ w' = w.alloc (.cells #[.slice A n c] 22) := by
  go_enter Tryz.func33, Tryz.ntmps33
  go_wp2_with fail
  go_ret
  exact ⟨rfl, rfl⟩
set_option maxRecDepth 100000 in
set_option maxHeartbeats 8000000 in
theorem vals1_in {w : World} {A : Option Addr} {n c Bs : Nat} {S : Nat → Prop} {xs : List Int} (R : RdL IntR 1 S w A n xs) (hn : n ≤ 1000000) (hbs : BoxAt w Bs #[.slice A n c]) (d l : Nat) (J Jx : List Int → World → Prop)
    (hY : ∀ m pre x W, J pre W → pre.length < n → YieldAt Fence.wide m Tryz.prog l #[.int .i64 x] W fun e W' => (e = .returned (.bool true) ∧ J (pre ++ [x]) W' ∧ Below w.heap.size W W') ∨ (e = .returned (.bool false) ∧ Jx (pre ++ [x]) W'))
    (W : World) (hW : Below w.heap.size w W) (h0 : J [] W) :
    CallsIn Fence.wide d Tryz.prog 54 #[.func (.yield l) #[] #[], .pointer (some ⟨Bs, 0, none⟩)] W fun e W' => (∃ v, e = .returned v) ∧ (J xs W' ∨ (∃ q, Jx q W')) := by
  have HR := Lib.hid R
  have hxl := R.1
  have k0 := (hW.cell (p := ⟨Bs, 0, none⟩) hbs.lt).trans (hbs.cell 0)
  have HW := Lib.hid hW
  have q0 : (n : Int) ≤ 1000000 := by omega
  have HY := Lib.hid hY
  have H0 := Lib.hid h0
  clear R hbs hW hY h0
  refine callsIn_of_wp Tryz.func54 rfl trivial ?_ rfl
  simp only [Tryz.ntmps54, List.size_toArray, List.length_cons, List.length_nil, Nat.reduceAdd, Nat.reduceSub, Array.replicate_succ, Array.replicate_zero, List.push_toArray, List.append_toArray, List.nil_append, List.cons_append]
  gi_wp2
  try go_frame
  gi_loopg [7] n (fun g vi wr => ∃ i : Nat, i + g = n ∧ vi = .int .i64 i ∧ Hid (J (xs.take i) wr) ∧ Hid (Below w.heap.size w wr))
  case atStart => exact ⟨0, by omega, rfl, by rw [List.take_zero]; exact H0, HW⟩
  case round =>
    obtain ⟨i, hi, rfl, HJ, HB⟩ := hrel
    have p0 : (0 : Int) ≤ (i : Int) := Int.natCast_nonneg _
    by_cases hlt : i < n
    · have p1 : (i : Int) < (n : Int) := by omega
      obtain ⟨bb, o, rfl, _, hbb⟩ := HR.out.addr hlt
      obtain ⟨x, hx, v1⟩ := int_at HR.out hlt
      have v1' := (HB.out.cell (p := ⟨bb, o + i, none⟩) hbb).trans v1
      have htk : xs.take (i + 1) = xs.take i ++ [x] := by rw [List.take_add_one, hx]; rfl
      obtain ⟨fn, tmps, assign, body, hy, hR⟩ := HY.out (d - 1) (xs.take i) x wr HJ.out (by rw [List.length_take]; omega)
      rw [← htk] at hR
      have HRR := Lib.hid hR
      clear hR htk v1 hx
      gi_wp2
      refine ⟨fun h => (by cases h), ?_⟩
      refine HRR.out.mono ?_
      rintro e W3 (⟨rfl, hJ3, hk3⟩ | ⟨rfl, hx3⟩)
      · have HJ3 := Lib.hid hJ3
        have HB3 := Lib.hid (HB.out.trans hk3)
        clear hJ3 hk3 HRR
        gi_wp2
        gi_roundg (n - (i + 1))
        case measure => omega
        case rel => exact ⟨i + 1, by omega, by go_num, HJ3, HB3⟩
      · have HX3 := Lib.hid hx3
        clear hx3 HRR
        gi_wp2
        refine bodyPost_ret (results_none rfl _ _ _) rfl ?_
        exact ⟨⟨_, rfl⟩, .inr ⟨_, HX3.out⟩⟩
    · have p1 : ¬ (i : Int) < (n : Int) := by omega
      have hJ := HJ.out
      rw [List.take_of_length_le (by omega)] at hJ
      have HJ2 := Lib.hid hJ
      clear hJ
      gi_wp2
      go_end0
      exact ⟨⟨_, rfl⟩, .inl HJ2.out⟩
end Go.Proofs.YthhljmlpjnkfgaaGreat
