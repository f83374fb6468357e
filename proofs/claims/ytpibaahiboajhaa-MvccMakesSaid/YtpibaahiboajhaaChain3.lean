/-
  chain.Value, chain.Add, chain.gone, chain.Prune: their contracts.
-/
import Derived.Test.YtpibaahiboajhaaChain2
import Derived.Test.YtpibaahiboajhaaLib2
set_option linter.unusedSimpArgs false
set_option linter.unusedVariables false
namespace Go.Proofs.Ytpibaahiboajhaa
open Go.RowKit Go.Cib
attribute [local go_sem] cell_set Later.cell Later.frozen Grw.cell Grw.frozen

def valueL (l : List Ver) (s : Int) : Option Blob := match atL l s with
  | some v => if v.dead then none else some v.blob
  | none => none

set_option maxHeartbeats 1000000 in
theorem value_any {S : Nat → Prop} {l : List Ver} (A : Option Addr) (n c : Nat) (s : Int) (w : World) (hn : n ≤ 4194304) (hr : Hid (RdL VerR 5 S w A n l)) (hsm : Small l) :
    Calls Try.prog 77 #[.slice A n c, .int .u64 s] w fun e w' => ∃ v, e = .returned (.tuple #[v, .bool (valueL l s).isSome]) ∧ BlobV (w.heap.size ≤ ·) w' ((valueL l s).getD .none_) v ∧ Below w.heap.size w w' := by
  cases hat : atL l s with
  | none =>
    have HAT := Lib.hid hat; clear hat
    have hno : valueL l s = none := by rw [valueL, HAT.out]
    rw [hno]
    clear hno
    go_enter Try.func77, Try.ntmps77
    go_wp2_with fail
    refine (at_any A n c s _ hn (Lib.hid (hr.out.below VerR.stable (by repeat (first | (with_reducible exact Below.refl _ _) | (with_reducible assumption) | (with_reducible refine Below.drew ?_) | (with_reducible refine Below.setCell ?_ ?_ _) | (with_reducible refine Below.alloc ?_ ?_ _) | (with_reducible refine Below.later ?_ ?_ _) | (first | (with_reducible exact Nat.le_refl _) | omega | (simp only [World.size_alloc, World.size_setCell, World.size_drew] <;> omega)))))) hsm).mono ?_
    rw [HAT.out]
    rintro e w' ⟨_, rfl, ⟨A1, n1, c1, rfl, hc1, hr1⟩, hb⟩
    obtain ⟨y, rfl⟩ := Later.ex hb
    have hys := y.ok.size
    simp only [World.size_alloc] at hys
    have hys2 : w.heap.size < y.to.heap.size := by omega
    clear hb hys
    go_wp2_with fail
    refine bodyPost_ret (v := .tuple #[.agg #[.slice none 0 0, .int .u64 0, .int .i64 0], .bool false]) (by simp [results, Try.results77, go_sem, *]) rfl ?_
    exact ⟨_, rfl, BlobV.zero, (by repeat (first | (with_reducible exact Below.refl _ _) | (with_reducible assumption) | (with_reducible refine Below.drew ?_) | (with_reducible refine Below.setCell ?_ ?_ _) | (with_reducible refine Below.alloc ?_ ?_ _) | (with_reducible refine Below.later ?_ ?_ _) | (first | (with_reducible exact Nat.le_refl _) | omega | (simp only [World.size_alloc, World.size_setCell, World.size_drew] <;> omega))))⟩
  | some x =>
    have HAT := Lib.hid hat; clear hat
    cases hd : x.dead
    · have hno : valueL l s = some x.blob := by rw [valueL, HAT.out]; simp [hd]
      have HD := Lib.hid hd
      rw [hno]
      clear hno hd
      go_enter Try.func77, Try.ntmps77
      go_wp2_with fail
      refine (at_any A n c s _ hn (Lib.hid (hr.out.below VerR.stable (by repeat (first | (with_reducible exact Below.refl _ _) | (with_reducible assumption) | (with_reducible refine Below.drew ?_) | (with_reducible refine Below.setCell ?_ ?_ _) | (with_reducible refine Below.alloc ?_ ?_ _) | (with_reducible refine Below.later ?_ ?_ _) | (first | (with_reducible exact Nat.le_refl _) | omega | (simp only [World.size_alloc, World.size_setCell, World.size_drew] <;> omega)))))) hsm).mono ?_
      rw [HAT.out]
      rintro e w' ⟨_, rfl, ⟨A1, n1, c1, rfl, hc1, hr1⟩, hb⟩
      simp only [Option.getD_some] at hr1
      simp only [Option.getD_some, HD.out]
      obtain ⟨y, rfl⟩ := Later.ex hb
      have hys := y.ok.size
      simp only [World.size_alloc] at hys
      have hys2 : w.heap.size < y.to.heap.size := by omega
      clear hb hys
      go_wp2_with fail
      refine bodyPost_ret (v := .tuple #[.agg #[.slice A1 n1 c1, .int .u64 x.blob.gen, .int .i64 x.blob.size], .bool true]) (by simp [results, Try.results77, go_sem, *]) rfl ?_
      refine ⟨_, rfl, ⟨A1, n1, c1, rfl, hc1, ?_⟩, (by repeat (first | (with_reducible exact Below.refl _ _) | (with_reducible assumption) | (with_reducible refine Below.drew ?_) | (with_reducible refine Below.setCell ?_ ?_ _) | (with_reducible refine Below.alloc ?_ ?_ _) | (with_reducible refine Below.later ?_ ?_ _) | (first | (with_reducible exact Nat.le_refl _) | omega | (simp only [World.size_alloc, World.size_setCell, World.size_drew] <;> omega))))⟩
      simp only [World.size_alloc] at hr1
      refine RdL.weaken IntR.stable (S := fun b => w.heap.size + 1 ≤ b) ?_ (fun b hb => by have hb2 : w.heap.size + 1 ≤ b := hb; show _ ≤ b; (first | (with_reducible exact Nat.le_refl _) | omega | (simp only [World.size_alloc, World.size_setCell, World.size_drew] <;> omega)))
      repeat (first | (with_reducible refine RdL.alloc IntR.stable ?_ _) | (with_reducible refine RdL.setCell IntR.stable ?_ (by show ¬ (_ ≤ _); first | (simp; done) | (simp; omega)) _))
      exact hr1
    · have hno : valueL l s = none := by rw [valueL, HAT.out]; simp [hd]
      have HD := Lib.hid hd
      rw [hno]
      clear hno hd
      go_enter Try.func77, Try.ntmps77
      go_wp2_with fail
      refine (at_any A n c s _ hn (Lib.hid (hr.out.below VerR.stable (by repeat (first | (with_reducible exact Below.refl _ _) | (with_reducible assumption) | (with_reducible refine Below.drew ?_) | (with_reducible refine Below.setCell ?_ ?_ _) | (with_reducible refine Below.alloc ?_ ?_ _) | (with_reducible refine Below.later ?_ ?_ _) | (first | (with_reducible exact Nat.le_refl _) | omega | (simp only [World.size_alloc, World.size_setCell, World.size_drew] <;> omega)))))) hsm).mono ?_
      rw [HAT.out]
      rintro e w' ⟨_, rfl, ⟨A1, n1, c1, rfl, hc1, hr1⟩, hb⟩
      simp only [Option.getD_some, HD.out]
      obtain ⟨y, rfl⟩ := Later.ex hb
      have hys := y.ok.size
      simp only [World.size_alloc] at hys
      have hys2 : w.heap.size < y.to.heap.size := by omega
      clear hb hys
      go_wp2_with fail
      refine bodyPost_ret (v := .tuple #[.agg #[.slice none 0 0, .int .u64 0, .int .i64 0], .bool false]) (by simp [results, Try.results77, go_sem, *]) rfl ?_
      exact ⟨_, rfl, BlobV.zero, (by repeat (first | (with_reducible exact Below.refl _ _) | (with_reducible assumption) | (with_reducible refine Below.drew ?_) | (with_reducible refine Below.setCell ?_ ?_ _) | (with_reducible refine Below.alloc ?_ ?_ _) | (with_reducible refine Below.later ?_ ?_ _) | (first | (with_reducible exact Nat.le_refl _) | omega | (simp only [World.size_alloc, World.size_setCell, World.size_drew] <;> omega))))⟩

/-! ### Add -/
def addL (l : List Ver) (v : Ver) : Option (List Ver) := if rightL (v :: l) then some (v :: l) else none
def addE (l : List Ver) (v : Ver) : Int := if rightL (v :: l) then 0 else 2

set_option maxHeartbeats 1000000 in
set_option maxRecDepth 100000 in
theorem add_any {S : Nat → Prop} {l : List Ver} {x : Ver} (A A0 : Option Addr) (n c n0 c0 : Nat) (w : World) (hn : n ≤ 4194303) (hr : Hid (RdL VerR 5 S w A n l)) (hsm : Small l) (hr0 : Hid (RdL IntR 1 S w A0 n0 x.blob.places)) (hn0 : n0 ≤ 17592186043904) :
    Calls Try.prog 109 #[.slice A n c, .agg #[.int .u64 x.stamp, .bool x.dead, .slice A0 n0 c0, .int .u64 x.blob.gen, .int .i64 x.blob.size]] w fun e w' =>
      ∃ A' n' c', e = .returned (.tuple #[.slice A' n' c', .int .i64 (addE l x)]) ∧ RdL VerR 5 (w.heap.size ≤ ·) w' A' n' ((addL l x).getD []) ∧ n' ≤ c' ∧ Below w.heap.size w w' := by
  go_enter Try.func109, Try.ntmps109
  go_wp2_with (refine wpList_make0 VerR (fun b => w.heap.size ≤ b) sl_ver rfl rfl (base := w.heap.size) rfl rfl (n + 1) (by omega) (by omega) (by unfold maxLen; omega) (by (first | (with_reducible exact Nat.le_refl _) | omega | (simp only [World.size_alloc, World.size_setCell, World.size_drew] <;> omega))) ?_; intro y hys hown)
  simp only [World.size_alloc] at hys hown
  have hyb : Below w.heap.size w y.to := (by repeat (first | (with_reducible exact Below.refl _ _) | (with_reducible assumption) | (with_reducible refine Below.drew ?_) | (with_reducible refine Below.setCell ?_ ?_ _) | (with_reducible refine Below.alloc ?_ ?_ _) | (with_reducible refine Below.later ?_ ?_ _) | (first | (with_reducible exact Nat.le_refl _) | omega | (simp only [World.size_alloc, World.size_setCell, World.size_drew] <;> omega))))
  refine (own_any _ _ _ _ A0 n0 c0 _ (Lib.hid (hr0.out.below IntR.stable hyb)) hn0).mono ?_
  rintro e w' ⟨A2, c2, rfl, hc2, hr2, hb⟩
  obtain ⟨z, rfl⟩ := Later.ex hb
  clear hb
  have hzs := z.ok.size
  have hown2 := hown.keep VerR.stable z.ok
  have hfr := fun b hb => hown.rest (b := b) (show w.heap.size ≤ b by omega) hb
  clear hown
  have hzb : Below w.heap.size w z.to := (by repeat (first | (with_reducible exact Below.refl _ _) | (with_reducible assumption) | (with_reducible refine Below.drew ?_) | (with_reducible refine Below.setCell ?_ ?_ _) | (with_reducible refine Below.alloc ?_ ?_ _) | (with_reducible refine Below.later ?_ ?_ _) | (first | (with_reducible exact Nat.le_refl _) | omega | (simp only [World.size_alloc, World.size_setCell, World.size_drew] <;> omega))))
  go_wp2_with (at_builtin; refine wpList_push1 VerR.stable VerR.one sl_ver rfl rfl (by exact rfl) (by exact rfl) hown2 (y := x) rfl ⟨A2, n0, c2, rfl, hc2, hr2.weaken IntR.stable hfr⟩ (by unfold maxLen; omega) (by omega) (by omega) ?_; intro A3 c3 u hc3 hown3 hus hub hat)
  have hwu : Below w.heap.size w u.to := hzb.trans hub
  clear hat hub hown2 hfr hr2 hc2 hys hyb hzb hzs
  obtain ⟨q, hq⟩ := Later.ex hwu
  rw [hq] at hown3 ⊢
  clear hq hus hwu u
  simp only [Nat.zero_add, List.nil_append] at hown3 hc3
  have HRL := Lib.hid hr.out.1
  go_wp2_with fail
  go_loopw [6, 20] (fun out vi wr => ∃ (k : Nat) (A' : Option Addr) (c' : Nat), k ≤ n ∧ vi = .int .i64 k ∧ out = .slice A' (k + 1) c' ∧ k + 1 ≤ c' ∧ Below w.heap.size w wr ∧ OwnL VerR 77 5 w.heap.size (fun b => w.heap.size ≤ b) wr (.slice A' (k + 1) c') (k + 1) (x :: l.take k)) (fun _ vi _ => n - (intOf vi).toNat)
  case atStart => exact ⟨0, A3, c3, Nat.zero_le _, rfl, rfl, hc3, q.ok, hown3⟩
  case round =>
    clear hown3 hc3
    obtain ⟨k, A3, c3, hk, rfl, rfl, hc3, hb, hown⟩ := hrel
    obtain ⟨y, rfl⟩ := Later.ex hb
    have hyb := y.ok.size
    by_cases hlt : k < n
    · obtain ⟨b, o, rfl, hS, hb0⟩ := hr.out.addr hlt
      obtain ⟨v, A1, m1, c1, hx, hmc, hpl, e0, e1, e2, e3, e4⟩ := vers_at hr.out hlt
      have HX := Lib.hid hx
      have hm : m1 ≤ 17592186043904 := by rw [← hpl.1]; exact hsm v (List.mem_of_getElem? hx)
      have HP := Lib.hid hpl
      have hb1 : b < y.to.heap.size := by omega
      have hb2 : b ≤ y.to.heap.size := by omega
      clear hS hx hpl
      go_wp2_with fail
      refine (own_any _ _ _ _ A1 m1 c1 _ (Lib.hid ((HP.out.below IntR.stable y.ok).alloc IntR.stable _)) hm).mono ?_
      rintro e w' ⟨A2, c2, rfl, hc2, hr2, hb⟩
      obtain ⟨z, rfl⟩ := Later.ex hb
      clear hb
      have hzs := z.ok.size
      simp only [World.size_alloc] at hr2 hzs
      have hfr := fun b (hb : y.to.heap.size + 1 ≤ b) => hown.rest (b := b) (show w.heap.size ≤ b by omega) (by omega)
      have hown2 := (hown.alloc VerR.stable _).keep VerR.stable z.ok
      have hzb : Below w.heap.size w z.to := (by repeat (first | (with_reducible exact Below.refl _ _) | (with_reducible assumption) | (with_reducible refine Below.drew ?_) | (with_reducible refine Below.setCell ?_ ?_ _) | (with_reducible refine Below.alloc ?_ ?_ _) | (with_reducible refine Below.later ?_ ?_ _) | (first | (with_reducible exact Nat.le_refl _) | omega | (simp only [World.size_alloc, World.size_setCell, World.size_drew] <;> omega))))
      clear hown
      go_wp2_with (at_builtin; refine wpList_push1 VerR.stable VerR.one sl_ver rfl rfl (by exact rfl) (by exact rfl) hown2 (y := v) rfl ⟨A2, m1, c2, rfl, hc2, hr2.weaken IntR.stable hfr⟩ (by unfold maxLen; omega) (by omega) (by omega) ?_; intro A3 c3 u hc3 hown3 hus hub hat)
      refine ⟨⟨k + 1, A3, c3, by omega, by go_num, rfl, hc3, hzb.trans hub, ?_⟩, by simp [intOf]; omega⟩
      rw [List.take_add_one, HX.out]
      exact hown3
    · have hkn : k = n := by omega
      subst hkn
      obtain ⟨A4, c4, hv, hc4, hrd⟩ := hown.rd (S' := fun b => w.heap.size ≤ b) (fun b hb => hb) (fun cs x hx => VerR.stable _ _ _ _ _ _ hx fun b hb _ => ⟨hb.1, rfl⟩)
      simp only [Value.slice.injEq] at hv
      obtain ⟨rfl, _, rfl⟩ := hv
      rw [List.take_of_length_le (by rw [HRL.out]; exact Nat.le_refl _)] at hrd
      clear hown
      cases hR : rightL (x :: l)
      all_goals
        have HR := Lib.hid hR
        clear hR
        go_wp2_with fail
        refine (right_any A3 (k + 1) c3 _ (by omega) (Lib.hid hrd)).mono ?_
        rw [HR.out]
        rintro e w' ⟨rfl, hb3⟩
        have hend : Below w.heap.size w w' := y.ok.trans (hb3.mono hyb)
        go_wp2_with fail
        go_ret2
      · exact ⟨none, 0, 0, by rw [addE, if_neg (by rw [HR.out]; simp)]; rfl, by rw [addL, if_neg (by rw [HR.out]; simp)]; exact RdL.nil, Nat.le_refl _, hend⟩
      · exact ⟨A3, k + 1, c3, by rw [addE, if_pos HR.out]; rfl, by rw [addL, if_pos HR.out]; exact hrd.below VerR.stable hb3, hc3, hend⟩
end Go.Proofs.Ytpibaahiboajhaa
