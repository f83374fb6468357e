/-
  ciboriumref22.Add, needed, Prune: their contracts.
-/
import Derived.Test.YtnceaimhhfjmdaaRef1
set_option linter.unusedSimpArgs false
set_option linter.unusedVariables false
namespace Go.Proofs.Ytnceaimhhfjmdaa
open Go.RowKit Go.Cib
attribute [local go_sem] cell_set Later.cell Later.frozen Grw.cell Grw.frozen

set_option maxHeartbeats 1000000 in
theorem refAdd_any {S : Nat → Prop} {l : List Ver} {x : Ver} (A A0 : Option Addr) (n c n0 c0 : Nat) (w : World) (hn : n ≤ 65535) (hr : Hid (RdL VerR 5 S w A n l)) (hsm : Small (x :: l)) (hnc : n0 ≤ c0) (hr0 : Hid (RdL IntR 1 S w A0 n0 x.blob.places)) :
    Calls Try.prog 23 #[.slice A n c, .agg #[.int .u64 x.stamp, .bool x.dead, .slice A0 n0 c0, .int .u64 x.blob.gen, .int .i64 x.blob.size]] w fun e w' =>
      ∃ A' n' c', e = .returned (.tuple #[.slice A' n' c', .int .i64 (addE l x)]) ∧ RdL VerR 5 (fun _ => True) w' A' n' ((addL l x).getD []) ∧ Below w.heap.size w w' := by
  have hb1 : Below w.heap.size w (w.alloc (.cells #[.int .u64 x.stamp, .bool x.dead, .slice A0 n0 c0, .int .u64 x.blob.gen, .int .i64 x.blob.size] 46)) := (by repeat (first | (with_reducible exact Below.refl _ _) | (with_reducible assumption) | (with_reducible refine Below.drew ?_) | (with_reducible refine Below.setCell ?_ ?_ _) | (with_reducible refine Below.alloc ?_ ?_ _) | (with_reducible refine Below.later ?_ ?_ _) | (first | (with_reducible exact Nat.le_refl _) | omega | (simp only [World.size_alloc, World.size_setCell, World.size_drew] <;> omega))))
  have hlit := OwnL.lit VerR.stable (E := 46) (s := 5) (base := w.heap.size) (S := fun b => b < w.heap.size) (W := w.alloc (.cells #[.int .u64 x.stamp, .bool x.dead, .slice A0 n0 c0, .int .u64 x.blob.gen, .int .i64 x.blob.size] 46)) (cs := #[.int .u64 x.stamp, .bool x.dead, .slice A0 n0 c0, .int .u64 x.blob.gen, .int .i64 x.blob.size]) (y := x) rfl (by simp)
    ⟨A0, n0, c0, rfl, hnc, hr0.out.stable IntR.stable fun b _ hlt => ⟨hlt, hb1.block b hlt⟩⟩
  have hl : RdL VerR 5 (fun b => b < w.heap.size) w A n l := hr.out.stable VerR.stable fun b _ hlt => ⟨hlt, rfl⟩
  have HLIT := Lib.hid hlit
  have HL := Lib.hid hl
  have HLEN := Lib.hid hr.out.1
  clear hlit hl
  simp only [World.size_alloc] at HLIT
  go_enter Try.func23, Try.ntmps23
  go_wp2_with (at_builtin; refine wpList_appL VerR.stable VerR.one sl_ver rfl rfl (base := w.heap.size) (by exact rfl) HLIT.out rfl (HL.out.below VerR.stable (by repeat (first | (with_reducible exact Below.refl _ _) | (with_reducible assumption) | (with_reducible refine Below.drew ?_) | (with_reducible refine Below.setCell ?_ ?_ _) | (with_reducible refine Below.alloc ?_ ?_ _) | (with_reducible refine Below.later ?_ ?_ _) | (first | (with_reducible exact Nat.le_refl _) | omega | (simp only [World.size_alloc, World.size_setCell, World.size_drew] <;> omega))))) (fun cs y hy => VerR.stable _ _ _ _ _ _ hy fun b hb _ => ⟨⟨hb, fun e => by simp [Value.ownBlock] at e; have : b < w.heap.size := hb; omega⟩, rfl⟩) (by unfold maxLen; omega) (by omega) (by (first | (with_reducible exact Nat.le_refl _) | omega | (simp only [World.size_alloc, World.size_setCell, World.size_drew] <;> omega))) ?_; intro A1 c1 w1 hc1 hown hg hat)
  have hwb : Below w.heap.size w w1 := (show Below w.heap.size w ((w.alloc (.cells #[.int .u64 x.stamp, .bool x.dead, .slice A0 n0 c0, .int .u64 x.blob.gen, .int .i64 x.blob.size] 46)).alloc (.cells #[.int .u64 x.stamp, .bool x.dead, .slice A0 n0 c0, .int .u64 x.blob.gen, .int .i64 x.blob.size] 46)) from (by repeat (first | (with_reducible exact Below.refl _ _) | (with_reducible assumption) | (with_reducible refine Below.drew ?_) | (with_reducible refine Below.setCell ?_ ?_ _) | (with_reducible refine Below.alloc ?_ ?_ _) | (with_reducible refine Below.later ?_ ?_ _) | (first | (with_reducible exact Nat.le_refl _) | omega | (simp only [World.size_alloc, World.size_setCell, World.size_drew] <;> omega))))).grown hg (by simp; omega) (fun k hk => by simp [Value.ownBlock] at hk; omega)
  obtain ⟨A4, c4, hv, hc4, hrd⟩ := hown.rd (S' := fun _ => True) (fun b hb => trivial) (fun cs x hx => VerR.stable _ _ _ _ _ _ hx fun b hb _ => ⟨trivial, rfl⟩)
  simp only [Value.slice.injEq] at hv
  obtain ⟨rfl, _, rfl⟩ := hv
  clear hg hat hown HLIT hc1 hc4 hb1
  cases hR : rightL (x :: l)
  all_goals
    have HR := Lib.hid hR; clear hR
    refine (refRight_any A1 (1 + n) c1 _ (by omega) (Lib.hid hrd) hsm).mono ?_
    rintro e w2 ⟨rfl, hb2⟩
    rw [show rightL ([x] ++ l) = rightL (x :: l) from rfl, HR.out]
    have hend : Below w.heap.size w w2 := hwb.trans (hb2.mono hwb.size)
    go_wp2_with fail
    go_ret2
  · exact ⟨none, 0, 0, by rw [addE, if_neg (by rw [HR.out]; simp)]; rfl, by rw [addL, if_neg (by rw [HR.out]; simp)]; exact RdL.nil, hend⟩
  · exact ⟨A1, 1 + n, c1, by rw [addE, if_pos HR.out]; rfl, by rw [addL, if_pos HR.out]; exact hrd.below VerR.stable hb2, hend⟩

def neededB (l : List Ver) (starts : List Int) (i : Int) : Bool := starts.any (fun s => seenZ l s == i) || i == 0

set_option maxHeartbeats 1000000 in
theorem needed_any {S S2 : Nat → Prop} {l : List Ver} {starts : List Int} (A A2 : Option Addr) (n c n2 c2 : Nat) (i : Int) (w : World) (hn : n ≤ 65536) (hn2 : n2 ≤ 65536) (hr : Hid (RdL VerR 5 S w A n l)) (hr2 : Hid (RdL U64R 1 S2 w A2 n2 starts)) {v : Bool} (hv : Hid (neededB l starts i = v)) :
    Calls Try.prog 57 #[.slice A n c, .int .i64 i, .slice A2 n2 c2] w fun e w' => e = .returned (.bool v) ∧ Below w.heap.size w w' := by
  have HL2 := Lib.hid hr2.out.1
  go_enter Try.func57, Try.ntmps57
  go_wp2_with fail
  go_loopw [7] (fun vi wr => ∃ k : Nat, k ≤ n2 ∧ vi = .int .i64 k ∧ Below w.heap.size w wr ∧ Hid (∀ j, j < k → (!(seenZ l (starts.getD j 0) == i)) = true)) (fun vi _ => n2 - (intOf vi).toNat)
  case atStart => exact ⟨0, Nat.zero_le _, rfl, Below.refl _ _, Lib.hid fun j hj => absurd hj (by omega)⟩
  case round =>
    obtain ⟨k, hk, rfl, hb, hall⟩ := hrel
    by_cases hlt : k < n2
    · obtain ⟨b2, o2, rfl, _, hb2⟩ := hr2.out.addr hlt
      obtain ⟨hjl, cs, hcs, hu, hcell⟩ := hr2.out.at hlt
      have hc0 := hcell 0 (.int .u64 starts[k]) (by rw [hu]; rfl)
      simp only [Nat.mul_one, Nat.add_zero] at hc0
      have HJ := Lib.hid (show starts.getD k 0 = starts[k] by simp [hjl])
      clear hcell hu hcs
      obtain ⟨y, rfl⟩ := Later.ex hb
      cases hz : (seenZ l starts[k] == i)
      all_goals
        have HZ := Lib.hid hz; clear hz
        go_wp2_with fail
        refine (refSeen_any A n c _ _ hn (Lib.hid (hr.out.below VerR.stable hb))).mono ?_
        rintro e w' ⟨rfl, hb2'⟩
        have hz2 := HZ.out
        have hb3 : Below w.heap.size w w' := hb.trans (hb2'.mono hb.size)
        go_wp2_with fail
      · refine ⟨⟨k + 1, by omega, by go_num, hb3, Lib.hid (upto_succ hall.out ?_)⟩, by simp [intOf]; omega⟩
        rw [HJ.out, HZ.out]; rfl
      · go_ret
        refine ⟨ret_bool ?_, hb3⟩
        rw [← hv.out, neededB, eq_comm, Bool.or_eq_true]
        exact .inl (List.any_eq_true.2 ⟨starts[k], List.getElem_mem _, HZ.out⟩)
    · go_wp2_with fail
      go_ret
      refine ⟨ret_bool ?_, hb⟩
      rw [← hv.out, neededB]
      have : starts.any (fun s => seenZ l s == i) = false := by
        rw [List.any_eq_false]
        intro s hs
        obtain ⟨j, hj, rfl⟩ := List.mem_iff_getElem.1 hs
        have := hall.out j (by have := HL2.out; omega)
        rw [show starts.getD j 0 = starts[j] by simp [hj]] at this
        simpa using this
      rw [this]; rfl
end Go.Proofs.Ytnceaimhhfjmdaa
