/-
  A map's keys of the kind uint64, one by one, to whoever takes them.
-/
import Derived.Test.YtpibaahiboajhaaStr
import Derived.Test.YtpibaahiboajhaaLibMap
import Derived.Sort.Row
import Derived.Sort.LoopGhostIn
import Derived.Sort.MapsRangeIn
import Derived.Sort.AtCallIn
import Derived.RangeFuncGives
import Derived.Maps.AppendAt
import Derived.OwnWalkIn
import Derived.TacticsInMore
import Derived.Shelf.AbstractIn
set_option linter.unusedSimpArgs false
set_option linter.unusedVariables false
namespace Go.Proofs.Ytpibaahiboajhaa
open Go.RowKit Go.Cib
attribute [local go_sem] cell_set Later.cell Later.frozen Grw.cell Grw.frozen
open Go.Maps Go.Sort Go.Shelf Go.Proofs

section
variable {κ : Type} [DecidableEq κ] {mk : κ → Value} {F : Fence} {n : Nat} {P : Program} {T K E : TypeId} {ops : Array Oper} {rest : List Oper} {o : Oper} {a : Act} {Q : Exit → Act → World → Prop} {w : World} {b bi : Nat} {es left : List (κ × Value)}
theorem wpListIn_rangeM (ht : P.underlying T = some (.map K E)) {m : Operand} (hg : o.guard = none) (ho : o.op = Op.range T m) (hm : a.eval m = .map (some b)) (hma : MapAt mk w b es)
    (h : ∀ y, w.grownBy y none → IterAt mk y w.heap.size b es → wpListIn F n P ops Q rest (a.put o.dst (.pointer (some ⟨w.heap.size, 0, none⟩))) y) : wpListIn F n P ops Q (o :: rest) a w := by
  refine wpListIn_plain hg fun K' hK' => ?_
  obtain ⟨clock, arr, h1, h2⟩ := hma.iter
  have hrun : (Instr.range T (.map (some b))).run P w = .ok (.pointer (some ⟨w.heap.size, 0, none⟩)) (w.alloc (.mapIter (some b) clock #[] clock)) := by
    simp [Instr.range, run_underlying ht, run_getMap h1]
  unfold Oper.wpIn
  refine ⟨by simp [Oper.about, ho], ?_⟩
  rw [Oper.semAt_plain F _ _ (by rw [ho]; intro c hc'; cases hc')]
  simp only [execOp, ho, hm, Sem.run_bind, Sem.run_map, hrun, Result.andThen_ok]
  exact hK' _ _ (h _ (World.grownBy_alloc _ _ _) h2)
theorem wpListIn_nextM {it : Operand} (hg : o.guard = none) (ho : o.op = Op.next it false) (hit : a.eval it = .pointer (some ⟨bi, 0, none⟩)) (hi : IterAt mk w bi b left)
    (hDone : left = [] → wpListIn F n P ops Q rest (a.put o.dst (.tuple #[.bool false])) w)
    (hMore : ∀ k v left' w', w.grownBy w' (some bi) → left.Perm ((k, v) :: left') → IterAt mk w' bi b left' → (Instr.entry (.pointer (some ⟨bi, 0, none⟩))).run P w' = .ok (.tuple #[mk k, v]) w' →
      wpListIn F n P ops Q rest (a.put o.dst (.tuple #[.bool true, mk k, v])) w') : wpListIn F n P ops Q (o :: rest) a w := by
  refine wpListIn_plain hg fun K' hK' => ?_
  unfold Oper.wpIn
  refine ⟨by simp [Oper.about, ho], ?_⟩
  rw [Oper.semAt_plain F _ _ (by rw [ho]; intro c hc'; cases hc')]
  rcases run_next (P := P) hi o.type with ⟨h1, h2⟩ | ⟨k, v, left', w', h1, h2, h3, h4, h5, h6⟩
  · simp only [execOp, ho, hit, Sem.run_bind, Sem.run_map, h2, Result.andThen_ok]
    exact hK' _ _ (hDone h1)
  · simp only [execOp, ho, hit, Sem.run_bind, Sem.run_map, h2, Result.andThen_ok]
    exact hK' _ _ (hMore k v left' w' h4 h1 h3 h6)
end
theorem iter_walk {κ : Type} [DecidableEq κ] {mk : κ → Value} {w : World} {bi b : Nat} {left : List (κ × Value)} (h : IterAt mk w bi b left) : ∃ o : Obj, w.heap[bi]? = some o ∧ o.isWalk = true := by
  obtain ⟨arr, clock, seen, h1, h2, h3⟩ := h
  exact ⟨_, h2, rfl⟩
theorem iter_keeps {κ : Type} [DecidableEq κ] {mk : κ → Value} {w w' : World} {bi b : Nat} {left : List (κ × Value)} (h : IterAt mk w bi b left) (hk : KeepsWalks w w') : IterAt mk w' bi b left := by
  obtain ⟨arr, clock, seen, h1, h2, h3⟩ := h
  exact ⟨arr, clock, seen, hk.same _ _ h1 rfl, hk.same _ _ h2 rfl, h3⟩

theorem mapU_ty : Try.prog.underlying 51 = some (.map 22 3) := by kernel_rfl
theorem ktU : KeyTy Try.prog 22 (Value.int .u64) := keyTy_int (by kernel_rfl)

set_option maxRecDepth 100000 in
set_option maxHeartbeats 2000000 in
theorem keysU_rounds (n : Nat) (hn : 1 ≤ n) (l Bm b : Nat) (es : List (Int × Value)) (J : List Int → World → Prop)
    (hY : ∀ pre x W, J pre W → pre.length < es.length → YieldAt Fence.wide (n - 1) Try.prog l #[.int .u64 x] W fun e W' => e = .returned (.bool true) ∧ J (pre ++ [x]) W' ∧ KeepsWalks W W')
    (W : World) (hJ : AbidesFrom W.heap.size J) (hm : W.cell? ⟨Bm, 0, none⟩ = some (.map (some b))) (hma : MapAt (Value.int .u64) W b es) (h0 : J [] W) :
    CallsIn Fence.wide n Try.prog 107 #[.func (.yield l) #[] #[], .pointer (some ⟨Bm, 0, none⟩)] W fun e W' => (∃ v, e = .returned v) ∧ ∃ ss : List Int, ss.Perm (es.map (·.1)) ∧ J ss W' := by
  refine callsIn_of_wp Try.func107 rfl trivial ?_ rfl
  simp only [Try.ntmps107, List.size_toArray, List.length_cons, List.length_nil, Nat.reduceAdd, Nat.reduceSub, Array.replicate_succ, Array.replicate_zero, List.push_toArray, List.append_toArray, List.nil_append, List.cons_append]
  gi_wp2_with (first
    | (gi_at_range; refine wpListIn_rangeM mapU_ty rfl rfl rfl hma ?_; intro w0 hg0 hit0)
    | gi_in)
  try go_frame
  have H0 := Lib.hid hit0
  have HMA := Lib.hid hma
  clear hit0 hma
  gi_loopg [3] es.length (fun g _ wr => ∃ (left : List (Int × Value)) (ss : List Int), left.length = g ∧ Hid (IterAt (Value.int .u64) wr W.heap.size b left) ∧ Hid ((ss ++ left.map (·.1)).Perm (es.map (·.1))) ∧ Hid (J ss wr))
  case atStart =>
    exact ⟨es, [], rfl, H0, Lib.hid (by simp), Lib.hid (hJ [] W w0 none h0 hg0 (fun r e => by cases e))⟩
  case round =>
    obtain ⟨left, ss, rfl, HI, HP, HJ⟩ := hrel
    gi_wp2_with (first
      | (gi_at_next; refine wpListIn_nextM rfl rfl rfl HI.out ?_ ?_)
      | gi_in)
    · intro hl
      have hp := HP.out
      rw [hl, List.map_nil, List.append_nil] at hp
      have HP2 := Lib.hid hp
      clear hp hl HP
      gi_wp2
      go_end0
      exact ⟨⟨_, rfl⟩, ss, HP2.out, HJ.out⟩
    · intro x v left' w2 hg2 hperm hit2 hen
      have hlen : left'.length < left.length := by have := hperm.length_eq; simp at this; omega
      have hp2 : (ss ++ [x] ++ left'.map (·.1)).Perm (es.map (·.1)) := by
        refine List.Perm.trans ?_ HP.out
        rw [List.append_assoc]
        exact List.Perm.append_left _ (by have := (hperm.map (fun q => q.1)).symm; simpa using this)
      have hsl : ss.length < es.length := by
        have := HP.out.length_eq
        simp only [List.length_append, List.length_map] at this
        omega
      have hJ2 : J ss w2 := hJ ss wr w2 (some W.heap.size) HJ.out hg2 (fun r e => by cases e; exact ⟨Nat.le_refl _, iter_walk HI.out⟩)
      obtain ⟨fn, tmps, assign, body, hy, hR⟩ := hY ss x w2 hJ2 hsl
      have HP2 := Lib.hid hp2
      have HI2 := Lib.hid hit2
      clear hp2 hit2 hperm HP HI HJ hJ2 hg2 hsl
      gi_wp2
      refine hR.mono ?_
      rintro e W3 ⟨rfl, hJ3, hk3⟩
      have HJ3 := Lib.hid hJ3
      have HK3 := Lib.hid hk3
      clear hJ3 hk3 hR
      gi_wp2
      gi_roundg left'.length
      case measure => exact hlen
      case rel => exact ⟨left', ss ++ [x], rfl, Lib.hid (iter_keeps HI2.out HK3.out), HP2, HJ3⟩
end Go.Proofs.Ytpibaahiboajhaa
