/-
  The closure of chain.place, sort.Search, chain.place, chain.At, chain.Value: their contracts.
-/
import Derived.Test.YtpibaahiboajhaaChain1
set_option linter.unusedSimpArgs false
set_option linter.unusedVariables false
namespace Go.Proofs.Ytpibaahiboajhaa
open Go.RowKit Go.Cib
attribute [local go_sem] cell_set Later.cell Later.frozen Grw.cell Grw.frozen

/-! ### place -/
def leAt (l : List Ver) (s : Int) (i : Nat) : Bool := decide ((l.getD i .none_).stamp ≤ s)

set_option maxHeartbeats 400000 in
theorem place1_any {S : Nat → Prop} {l : List Ver} (b o n c i : Nat) (s : Int) (bl bs : Nat) (w : World) (hi : i < n) (hn : n ≤ 4194304) (hr : Hid (RdL VerR 5 S w (some ⟨b, o, none⟩) n l)) (hb : b < w.heap.size)
    (h1 : w.cell? ⟨bl, 0, none⟩ = some (.slice (some ⟨b, o, none⟩) n c)) (h2 : w.cell? ⟨bs, 0, none⟩ = some (.int .u64 s)) (hbl : bl < w.heap.size) (hbs : bs < w.heap.size) :
    Calls Try.prog 142 #[.int .i64 i, .pointer (some ⟨bl, 0, none⟩), .pointer (some ⟨bs, 0, none⟩)] w fun e w' => e = .returned (.bool (leAt l s i)) ∧ Below w.heap.size w w' := by
  obtain ⟨x, A1, m1, c1, hx, hmc, hpl, e0, e1, e2, e3, e4⟩ := vers_at hr.out hi
  have HX := Lib.hid hx; clear hx hpl
  go_enter Try.func142, Try.ntmps142
  go_wp2
  refine wp_region_later (by kernel_rfl) (by kernel_rfl) ?_
  repeat (go_big_quiet_step (fail))
  refine wpQuiet_nil ?_
  rintro _ ⟨z, rfl⟩
  go_wp2
  go_ret
  exact ⟨ret_bool (by unfold leAt; rw [getD_of HX.out]), (by repeat (first | (with_reducible exact Below.refl _ _) | (with_reducible assumption) | (with_reducible refine Below.drew ?_) | (with_reducible refine Below.setCell ?_ ?_ _) | (with_reducible refine Below.alloc ?_ ?_ _) | (with_reducible refine Below.later ?_ ?_ _) | (first | (with_reducible exact Nat.le_refl _) | omega | (simp only [World.size_alloc, World.size_setCell, World.size_drew] <;> omega))))⟩

theorem place1_int {S : Nat → Prop} {l : List Ver} (A : Option Addr) (n c : Nat) (z : Int) (s : Int) (bl bs : Nat) (w : World) (h0 : 0 ≤ z) (hi : z < n) (hn : n ≤ 4194304) (hr : Hid (RdL VerR 5 S w A n l))
    (h1 : w.cell? ⟨bl, 0, none⟩ = some (.slice A n c)) (h2 : w.cell? ⟨bs, 0, none⟩ = some (.int .u64 s)) (hbl : bl < w.heap.size) (hbs : bs < w.heap.size) {v : Bool} (hv : leAt l s z.toNat = v) :
    Calls Try.prog 142 #[.int .i64 z, .pointer (some ⟨bl, 0, none⟩), .pointer (some ⟨bs, 0, none⟩)] w fun e w' => e = .returned (.bool v) ∧ Below w.heap.size w w' := by
  obtain ⟨i, rfl⟩ := Int.eq_ofNat_of_zero_le h0
  subst hv
  obtain ⟨b, o, rfl, _, hb⟩ := hr.out.addr (show i < n by omega)
  exact place1_any b o n c i s bl bs w (by omega) hn hr hb h1 h2 hbl hbs

/-- What sort.Search finds by p among 0, .., n - 1: an i of which p says yes, or n; of i - 1 it says no. -/
def Found (p : Nat → Bool) (n i : Nat) : Prop := i ≤ n ∧ (i < n → p i = true) ∧ (0 < i → p (i - 1) = false)

set_option maxHeartbeats 1000000 in
theorem search_place {S : Nat → Prop} {l : List Ver} (A : Option Addr) (n c : Nat) (s : Int) (bl bs : Nat) (w : World) (hn : n ≤ 4194304) (hr : Hid (RdL VerR 5 S w A n l))
    (h1 : w.cell? ⟨bl, 0, none⟩ = some (.slice A n c)) (h2 : w.cell? ⟨bs, 0, none⟩ = some (.int .u64 s)) (hbl : bl < w.heap.size) (hbs : bs < w.heap.size) :
    Calls Try.prog 141 #[.int .i64 n, .func (.func 142) #[] #[.pointer (some ⟨bl, 0, none⟩), .pointer (some ⟨bs, 0, none⟩)]] w fun e w' => ∃ i, Found (leAt l s) n i ∧ e = .returned (.int .i64 i) ∧ Below w.heap.size w w' := by
  have H1 := Lib.hid h1; have H2 := Lib.hid h2
  clear h1 h2
  go_enter Try.func141, Try.ntmps141
  go_wp2
  go_loopw [5,6] (fun vi vj wr => ∃ i j : Nat, i ≤ j ∧ j ≤ n ∧ vi = .int .i64 i ∧ vj = .int .i64 j ∧ Below w.heap.size w wr ∧ Hid ((j < n → leAt l s j = true) ∧ (0 < i → leAt l s (i - 1) = false))) (fun vi vj _ => (intOf vj).toNat - (intOf vi).toNat)
  case atStart => exact ⟨0, n, by omega, by omega, rfl, rfl, Below.refl _ _, Lib.hid ⟨fun h => absurd h (by omega), fun h => absurd h (by omega)⟩⟩
  case round =>
    obtain ⟨i, j, hij, hjn, rfl, rfl, hbel, hinv⟩ := hrel
    obtain ⟨y, rfl⟩ := Later.ex hbel
    have hyb := y.ok.size
    by_cases hlt : i < j
    · cases hle : leAt l s ((((i : Int) + j) / 2).toNat)
      all_goals
        have HLE := Lib.hid hle
        clear hle
        go_wp2_with (go_at_call 142; refine (place1_int A n c _ s bl bs _ (by omega) (by omega) hn (Lib.hid (hr.out.below VerR.stable y.ok)) ((y.cell hbl).trans H1.out) ((y.cell hbs).trans H2.out) (by omega) (by omega) HLE.out).mono ?_; rintro e w' ⟨rfl, hb'⟩; have hb2 : Below w.heap.size w w' := y.ok.trans (hb'.mono y.ok.size); clear hb')
      · refine ⟨⟨(i + j) / 2 + 1, j, by omega, hjn, congrArg (Value.int .i64) (by omega), rfl, hb2, Lib.hid ⟨hinv.out.1, fun _ => ?_⟩⟩, by simp only [intOf]; omega⟩
        have := HLE.out
        rw [show (((i : Int) + j) / 2).toNat = (i + j) / 2 + 1 - 1 by omega] at this
        exact this
      · refine ⟨⟨i, (i + j) / 2, by omega, by omega, rfl, congrArg (Value.int .i64) (by omega), hb2, Lib.hid ⟨fun _ => ?_, hinv.out.2⟩⟩, by simp only [intOf]; omega⟩
        have := HLE.out
        rw [show (((i : Int) + j) / 2).toNat = (i + j) / 2 by omega] at this
        exact this
    · go_wp2
      go_ret
      obtain rfl : i = j := by omega
      exact ⟨i, ⟨hjn, hinv.out.1, hinv.out.2⟩, rfl, (by repeat (first | (with_reducible exact Below.refl _ _) | (with_reducible assumption) | (with_reducible refine Below.drew ?_) | (with_reducible refine Below.setCell ?_ ?_ _) | (with_reducible refine Below.alloc ?_ ?_ _) | (with_reducible refine Below.later ?_ ?_ _) | (first | (with_reducible exact Nat.le_refl _) | omega | (simp only [World.size_alloc, World.size_setCell, World.size_drew] <;> omega))))⟩

theorem place_any {S : Nat → Prop} {l : List Ver} (A : Option Addr) (n c : Nat) (s : Int) (w : World) (hn : n ≤ 4194304) (hr : Hid (RdL VerR 5 S w A n l)) :
    Calls Try.prog 119 #[.slice A n c, .int .u64 s] w fun e w' => ∃ i, Found (leAt l s) n i ∧ e = .returned (.int .i64 i) ∧ Below w.heap.size w w' := by
  go_enter Try.func119, Try.ntmps119
  go_wp2_with fail
  refine (search_place A n c s _ _ _ hn (Lib.hid (hr.out.below VerR.stable (by repeat (first | (with_reducible exact Below.refl _ _) | (with_reducible assumption) | (with_reducible refine Below.drew ?_) | (with_reducible refine Below.setCell ?_ ?_ _) | (with_reducible refine Below.alloc ?_ ?_ _) | (with_reducible refine Below.later ?_ ?_ _) | (first | (with_reducible exact Nat.le_refl _) | omega | (simp only [World.size_alloc, World.size_setCell, World.size_drew] <;> omega)))))) (by go_simp) (by go_simp) (by (first | (with_reducible exact Nat.le_refl _) | omega | (simp only [World.size_alloc, World.size_setCell, World.size_drew] <;> omega))) (by (first | (with_reducible exact Nat.le_refl _) | omega | (simp only [World.size_alloc, World.size_setCell, World.size_drew] <;> omega)))).mono ?_
  rintro e w' ⟨i, hf, rfl, hb⟩
  have HF := Lib.hid hf; clear hf
  have hb2 : Below w.heap.size w w' := (show Below w.heap.size w ((w.alloc (.cells #[.slice A n c] 70)).alloc (.cells #[.int .u64 s] 22)) from (by repeat (first | (with_reducible exact Below.refl _ _) | (with_reducible assumption) | (with_reducible refine Below.drew ?_) | (with_reducible refine Below.setCell ?_ ?_ _) | (with_reducible refine Below.alloc ?_ ?_ _) | (with_reducible refine Below.later ?_ ?_ _) | (first | (with_reducible exact Nat.le_refl _) | omega | (simp only [World.size_alloc, World.size_setCell, World.size_drew] <;> omega))))).trans (hb.mono (by simp only [World.size_alloc]; omega))
  go_wp2_with fail
  go_ret
  exact ⟨i, HF.out, rfl, hb2⟩

/-! ### At -/
def atL (l : List Ver) (s : Int) : Option Ver := if rightL l then l.find? (fun v => decide (v.stamp ≤ s)) else none

theorem stamps_fall {l : List Ver} (h : rightL l = true) : ∀ (d j : Nat), j + d < l.length → 0 < d → (l.getD (j + d) .none_).stamp < (l.getD j .none_).stamp := by
  intro d
  induction d with
  | zero => intro j _ h0; omega
  | succ d ih =>
    intro j hj _
    simp only [rightL, List.all_eq_true, List.mem_range] at h
    have h1 := h (j + (d + 1)) hj
    simp only [okAt, Bool.and_eq_true, Bool.not_eq_true', Bool.and_eq_false_iff, decide_eq_false_iff_not] at h1
    have h2 : (l.getD (j + d) .none_).stamp > (l.getD (j + (d + 1)) .none_).stamp := by
      rcases h1.2 with h3 | h3
      · omega
      · rw [show j + (d + 1) - 1 = j + d by omega] at h3; omega
    rcases Nat.eq_zero_or_pos d with h4 | h4
    · subst h4; simpa using h2
    · have := ih j (by omega) h4; omega

theorem found_at {l : List Ver} {s : Int} {i : Nat} (h : rightL l = true) (hf : Found (leAt l s) l.length i) : l[i]? = atL l s := by
  obtain ⟨h1, h2, h3⟩ := hf
  rw [atL, if_pos h]
  have hbefore : ∀ j, j < i → leAt l s j = false := fun j hj => by
    have h4 := h3 (by omega)
    rcases Nat.lt_or_ge j (i - 1) with h5 | h5
    · have h6 := stamps_fall h (i - 1 - j) j (by omega) (by omega)
      rw [show j + (i - 1 - j) = i - 1 by omega] at h6
      simp only [leAt, decide_eq_false_iff_not] at h4 ⊢
      omega
    · rw [show j = i - 1 by omega]; exact h4
  rcases Nat.lt_or_ge i l.length with hi | hi
  · rw [List.getElem?_eq_getElem hi, eq_comm, List.find?_eq_some_iff_getElem]
    refine ⟨by have := h2 hi; simpa [leAt, hi] using this, i, hi, rfl, fun j hj => ?_⟩
    have hjl : j < l.length := by omega
    have := hbefore j hj
    simpa [leAt, hjl] using this
  · rw [List.getElem?_eq_none hi, eq_comm, List.find?_eq_none]
    intro x hx
    obtain ⟨j, hj, rfl⟩ := List.mem_iff_getElem.1 hx
    have := hbefore j (by omega)
    simpa [leAt, hj] using this

/-- All of a chain's versions have few places. -/
def Small (l : List Ver) : Prop := ∀ v ∈ l, v.blob.places.length ≤ 17592186043904

set_option maxHeartbeats 1000000 in
theorem at_any {S : Nat → Prop} {l : List Ver} (A : Option Addr) (n c : Nat) (s : Int) (w : World) (hn : n ≤ 4194304) (hr : Hid (RdL VerR 5 S w A n l)) (hsm : Small l) :
    Calls Try.prog 81 #[.slice A n c, .int .u64 s] w fun e w' => ∃ v, e = .returned (.tuple #[v, .bool (atL l s).isSome]) ∧ VerV (w.heap.size ≤ ·) w' ((atL l s).getD .none_) v ∧ Below w.heap.size w w' := by
  cases hR : rightL l
  · have HR := Lib.hid hR; clear hR
    go_enter Try.func81, Try.ntmps81
    go_wp2_with fail
    refine (right_any A n c _ hn (Lib.hid (hr.out.below VerR.stable (by repeat (first | (with_reducible exact Below.refl _ _) | (with_reducible assumption) | (with_reducible refine Below.drew ?_) | (with_reducible refine Below.setCell ?_ ?_ _) | (with_reducible refine Below.alloc ?_ ?_ _) | (with_reducible refine Below.later ?_ ?_ _) | (first | (with_reducible exact Nat.le_refl _) | omega | (simp only [World.size_alloc, World.size_setCell, World.size_drew] <;> omega))))))).mono ?_
    rintro e w' ⟨rfl, hb⟩
    rw [HR.out]
    obtain ⟨y, rfl⟩ := Later.ex hb
    clear hb
    go_wp2_with fail
    refine bodyPost_ret (v := .tuple #[.agg #[.int .u64 0, .bool false, .slice none 0 0, .int .u64 0, .int .i64 0], .bool false]) (by simp [results, Try.results81, go_sem, *]) rfl ?_
    have hno : atL l s = none := by rw [atL, HR.out]; rfl
    rw [hno]
    exact ⟨_, rfl, VerV.zero, (by repeat (first | (with_reducible exact Below.refl _ _) | (with_reducible assumption) | (with_reducible refine Below.drew ?_) | (with_reducible refine Below.setCell ?_ ?_ _) | (with_reducible refine Below.alloc ?_ ?_ _) | (with_reducible refine Below.later ?_ ?_ _) | (first | (with_reducible exact Nat.le_refl _) | omega | (simp only [World.size_alloc, World.size_setCell, World.size_drew] <;> omega))))⟩
  · have HR := Lib.hid hR; clear hR
    go_enter Try.func81, Try.ntmps81
    go_wp2_with fail
    refine (right_any A n c _ hn (Lib.hid (hr.out.below VerR.stable (by repeat (first | (with_reducible exact Below.refl _ _) | (with_reducible assumption) | (with_reducible refine Below.drew ?_) | (with_reducible refine Below.setCell ?_ ?_ _) | (with_reducible refine Below.alloc ?_ ?_ _) | (with_reducible refine Below.later ?_ ?_ _) | (first | (with_reducible exact Nat.le_refl _) | omega | (simp only [World.size_alloc, World.size_setCell, World.size_drew] <;> omega))))))).mono ?_
    rintro e w' ⟨rfl, hb⟩
    rw [HR.out]
    obtain ⟨y, rfl⟩ := Later.ex hb
    clear hb
    go_wp2_with fail
    have hyb : Below w.heap.size w y.to := (by repeat (first | (with_reducible exact Below.refl _ _) | (with_reducible assumption) | (with_reducible refine Below.drew ?_) | (with_reducible refine Below.setCell ?_ ?_ _) | (with_reducible refine Below.alloc ?_ ?_ _) | (with_reducible refine Below.later ?_ ?_ _) | (first | (with_reducible exact Nat.le_refl _) | omega | (simp only [World.size_alloc, World.size_setCell, World.size_drew] <;> omega))))
    refine (place_any A n c s _ hn (Lib.hid (hr.out.below VerR.stable hyb))).mono ?_
    rintro e w' ⟨i, hf, rfl, hb⟩
    rw [← hr.out.1] at hf
    have HF := Lib.hid (found_at HR.out hf)
    have hin : i ≤ n := by have := hf.1; rw [hr.out.1] at this; exact this
    clear hf
    obtain ⟨z, rfl⟩ := Later.ex hb
    have hzb : Below w.heap.size w z.to := hyb.trans (hb.mono hyb.size)
    have hys := y.ok.size
    simp only [World.size_alloc] at hys
    have hys2 : w.heap.size < y.to.heap.size := by omega
    have hzs2 : w.heap.size < z.to.heap.size := by have := z.ok.size; omega
    clear hb
    by_cases hi : i = n
    · subst hi
      go_wp2_with fail
      refine bodyPost_ret (v := .tuple #[.agg #[.int .u64 0, .bool false, .slice none 0 0, .int .u64 0, .int .i64 0], .bool false]) (by simp [results, Try.results81, go_sem, *]) rfl ?_
      have hno : atL l s = none := by rw [← HF.out, ← hr.out.1]; simp
      rw [hno]
      exact ⟨_, rfl, VerV.zero, (by repeat (first | (with_reducible exact Below.refl _ _) | (with_reducible assumption) | (with_reducible refine Below.drew ?_) | (with_reducible refine Below.setCell ?_ ?_ _) | (with_reducible refine Below.alloc ?_ ?_ _) | (with_reducible refine Below.later ?_ ?_ _) | (first | (with_reducible exact Nat.le_refl _) | omega | (simp only [World.size_alloc, World.size_setCell, World.size_drew] <;> omega))))⟩
    · have hne : ((i : Int) == (n : Int)) = false := by simp; omega
      have hlt : i < n := by omega
      obtain ⟨b, o, rfl, hS, hb0⟩ := hr.out.addr hlt
      obtain ⟨x, A1, m1, c1, hx, hmc, hpl, e0, e1, e2, e3, e4⟩ := vers_at hr.out hlt
      have HX := Lib.hid hx; clear hx
      have HP := Lib.hid hpl; clear hpl
      have hm : m1 ≤ 17592186043904 := by rw [← HP.out.1]; exact hsm x (List.mem_of_getElem? HX.out)
      have hb1 : b < y.to.heap.size := by omega
      have hb2 : b ≤ w.heap.size := by omega
      clear hS
      go_wp2_with fail
      refine (own_any _ _ _ _ A1 m1 c1 _ (Lib.hid (HP.out.below IntR.stable hzb)) hm).mono ?_
      rintro e w' ⟨A2, c2, rfl, hc2, hr2, hb⟩
      obtain ⟨u, rfl⟩ := Later.ex hb
      clear hb
      go_wp2_with fail
      refine bodyPost_ret (v := .tuple #[.agg #[.int .u64 x.stamp, .bool x.dead, .slice A2 m1 c2, .int .u64 x.blob.gen, .int .i64 x.blob.size], .bool true]) (by simp [results, Try.results81, go_sem, *]) rfl ?_
      have hyes : atL l s = some x := by rw [← HF.out]; exact HX.out
      rw [hyes]
      refine ⟨_, rfl, ⟨A2, m1, c2, rfl, hc2, ?_⟩, (by repeat (first | (with_reducible exact Below.refl _ _) | (with_reducible assumption) | (with_reducible refine Below.drew ?_) | (with_reducible refine Below.setCell ?_ ?_ _) | (with_reducible refine Below.alloc ?_ ?_ _) | (with_reducible refine Below.later ?_ ?_ _) | (first | (with_reducible exact Nat.le_refl _) | omega | (simp only [World.size_alloc, World.size_setCell, World.size_drew] <;> omega))))⟩
      refine RdL.weaken IntR.stable (S := fun b => z.to.heap.size ≤ b) ?_ (fun b hb => by have hb2 : z.to.heap.size ≤ b := hb; show _ ≤ b; omega)
      repeat (refine RdL.setCell IntR.stable ?_ (by simp; omega) _)
      exact hr2
end Go.Proofs.Ytpibaahiboajhaa
