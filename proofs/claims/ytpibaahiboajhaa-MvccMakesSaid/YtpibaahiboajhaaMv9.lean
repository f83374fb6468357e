/-
  How many versions a store has, how many keys with a value.
-/
import Derived.Test.YtpibaahiboajhaaMv8
set_option linter.unusedSimpArgs false
set_option linter.unusedVariables false
namespace Go.Proofs.Ytpibaahiboajhaa
open Go.RowKit Go.Cib
attribute [local go_sem] cell_set Later.cell Later.frozen Grw.cell Grw.frozen

def sumL (worth : Ent → Int) (l : List Ent) : Int := (l.map worth).sum
theorem sumL_take {worth : Ent → Int} {l : List Ent} {k : Nat} {y : Ent} (h : l[k]? = some y) : sumL worth (l.take (k + 1)) = sumL worth (l.take k) + worth y := by
  unfold sumL
  rw [List.take_add_one, h, List.map_append, List.sum_append]
  simp
theorem sumL_le {worth : Ent → Int} {M : Int} : ∀ (l : List Ent), (∀ y ∈ l, 0 ≤ worth y ∧ worth y ≤ M) → 0 ≤ sumL worth l ∧ sumL worth l ≤ M * l.length
  | [], _ => by simp [sumL]
  | y :: l, h => by
    have h1 := h y (List.mem_cons_self ..)
    have h2 := sumL_le l fun x hx => h x (List.mem_cons_of_mem _ hx)
    have h3 : sumL worth (y :: l) = worth y + sumL worth l := by simp [sumL]
    rw [h3, List.length_cons]
    refine ⟨by omega, ?_⟩
    have : M * ((l.length + 1 : Nat) : Int) = M * l.length + M := by rw [Int.natCast_add, Int.mul_add]; simp
    omega
set_option maxRecDepth 100000 in
set_option maxHeartbeats 4000000 in
theorem added_any {w : World} {S : Nat → Prop} {A : Option Addr} {n c : Nat} {l : List Ent} (R : Hid (RdL EntR 2 S w A n l)) (hn : n ≤ 1000000) (g : Nat) (worth : Ent → Int) (hw : ∀ y ∈ l, 0 ≤ worth y ∧ worth y ≤ 4194304) (hg : ∀ args w, (callFunc g args).run Try.prog w = .ok (.enter g args) w)
    (hstep : ∀ y VA vm vc W, y ∈ l → Hid (EntR (fun _ => True) W [.string y.key, .slice VA vm vc] y) → Calls Try.prog g #[.agg #[.string y.key, .slice VA vm vc]] W fun e W' => e = .returned (.int .i64 (worth y)) ∧ Below W.heap.size W W') :
    Calls Try.prog 87 #[.slice A n c, .func (.func g) #[] #[]] w fun e w' => e = .returned (.int .i64 (sumL worth l)) ∧ Below w.heap.size w w' := by
  go_enter Try.func87, Try.ntmps87
  go_wp2_with fail
  go_loopw [5, 10] (fun tot vi wr => ∃ k : Nat, k ≤ n ∧ vi = .int .i64 k ∧ tot = .int .i64 (sumL worth (l.take k)) ∧ Hid (Below w.heap.size w wr)) (fun _ vi _ => n - (intOf vi).toNat)
  case atStart => exact ⟨0, Nat.zero_le _, rfl, rfl, Lib.hid (Below.refl _ _)⟩
  case round =>
    obtain ⟨k, hk, rfl, rfl, HB⟩ := hrel
    have q0 : (0 : Int) ≤ (k : Int) := Int.natCast_nonneg _
    have hbs := HB.out.size
    by_cases hlt : k < n
    · have q1 : (k : Int) < (n : Int) := by omega
      obtain ⟨b, o, rfl, _, _⟩ := R.out.addr hlt
      obtain ⟨y, VA, vm, vc, hy, hbw, hER, c0, c1⟩ := ent2_at R.out hlt
      replace c0 := (HB.out.cell (p := ⟨b, o + k * 2, none⟩) hbw).trans c0
      replace c1 := (HB.out.cell (p := ⟨b, o + k * 2 + 1, none⟩) hbw).trans c1
      have hmem := List.mem_of_getElem? hy
      have bx := BoxAt.new wr #[.string y.key, .slice VA vm vc] 72
      have hal : Below wr.heap.size wr (wr.alloc (.cells #[.string y.key, .slice VA vm vc] 72)) := (Below.refl _ _).alloc (Nat.le_refl _) _
      obtain ⟨vb, hvb⟩ : ∃ vb, wr.heap.size = vb := ⟨_, rfl⟩
      obtain ⟨wx, hwx⟩ : ∃ wx, wr.alloc (.cells #[.string y.key, .slice VA vm vc] 72) = wx := ⟨_, rfl⟩
      rw [hwx] at bx hal
      rw [hvb] at bx
      have k0 := bx.cell 0
      have k1 := bx.cell 1
      have hst := hstep y VA vm vc wx hmem (Lib.hid (EntR.stable _ (fun _ => True) _ wx _ _ hER (fun b hb hl => ⟨trivial, (HB.out.trans (hal.mono hbs)).block b hl⟩)))
      have hs := sumL_take (worth := worth) hy
      have hle := sumL_le (worth := worth) (l.take (k + 1)) (fun y hy => hw y (List.mem_of_mem_take hy))
      have hle0 := sumL_le (worth := worth) (l.take k) (fun y hy => hw y (List.mem_of_mem_take hy))
      have hw1 : IntKind.i64.wrap (sumL worth (l.take k) + worth y) = sumL worth (l.take (k + 1)) := by
        rw [hs, IntKind.wrap_i64]
        have h1 : ((l.take (k + 1)).length : Int) ≤ 1000000 := by rw [List.length_take]; omega
        have h2 : (4194304 : Int) * ((l.take (k + 1)).length : Int) ≤ 4194304 * 1000000 := Int.mul_le_mul_of_nonneg_left h1 (by decide)
        rw [hs] at hle
        omega
      have HS := Lib.hid hs
      have HAL := Lib.hid (HB.out.trans (hal.mono hbs))
      clear hy hER bx hal hle hle0 hs
      go_wp2_with fail
      refine hst.mono ?_
      rintro e wy ⟨rfl, hb2⟩
      have HB2 := Lib.hid (HAL.out.trans (hb2.mono HAL.out.size))
      clear hb2 hst
      go_wp2_with fail
      exact ⟨⟨k + 1, by omega, by go_num, rfl, HB2⟩, by simp [intOf]; omega⟩
    · have q1 : ¬ (k : Int) < (n : Int) := by omega
      have hkn : k = n := by omega
      subst hkn
      have hx : l.take k = l := List.take_of_length_le (by rw [R.out.1]; exact Nat.le_refl _)
      rw [hx]
      go_wp2_with fail
      go_ret
      exact ⟨rfl, HB.out⟩
def liveW (y : Ent) : Int := if (y.vers.getD 0 .none_).dead then 0 else 1
def versW (y : Ent) : Int := (y.vers.length : Int)
set_option maxRecDepth 100000 in
theorem live1_any {y : Ent} {VA : Option Addr} {vm vc : Nat} {W : World} (hne : y.vers ≠ []) (h : Hid (EntR (fun _ => True) W [.string y.key, .slice VA vm vc] y)) :
    Calls Try.prog 88 #[.agg #[.string y.key, .slice VA vm vc]] W fun e W' => e = .returned (.int .i64 (liveW y)) ∧ Below W.heap.size W W' := by
  obtain ⟨A, n, c, hcs, hnc, hR⟩ := h.out
  injection hcs with _ hcs
  injection hcs with hcs _
  injection hcs with e1 e2 e3
  subst e1; subst e2; subst e3
  have hpos : 0 < vm := by rw [← hR.1]; exact List.length_pos_iff.2 hne
  have q1 : (0 : Int) < (vm : Int) := by omega
  obtain ⟨b, o, rfl, _, hb⟩ := hR.addr hpos
  obtain ⟨x, A1, m1, c1, hx, _, _, e0, e1, _⟩ := vers_at hR hpos
  have bx := BoxAt.new W #[.string y.key, .slice (some ⟨b, o, none⟩) vm vc] 72
  have hal : Below W.heap.size W (W.alloc (.cells #[.string y.key, .slice (some ⟨b, o, none⟩) vm vc] 72)) := (Below.refl _ _).alloc (Nat.le_refl _) _
  obtain ⟨vb, hvb⟩ : ∃ vb, W.heap.size = vb := ⟨_, rfl⟩
  obtain ⟨w2, hw2⟩ : ∃ w2, W.alloc (.cells #[.string y.key, .slice (some ⟨b, o, none⟩) vm vc] 72) = w2 := ⟨_, rfl⟩
  rw [hw2] at bx hal
  rw [hvb] at bx
  have k1 := bx.cell 1
  have d1 := (hal.cell (p := ⟨b, o + 0 * 5 + 1, none⟩) hb).trans e1
  rw [Nat.zero_mul, Nat.add_zero] at d1
  have hx0 : y.vers.getD 0 .none_ = x := by rw [List.getD_eq_getElem?_getD, hx]; rfl
  have hlw : liveW y = if x.dead then 0 else 1 := by unfold liveW; rw [hx0]
  have HL := Lib.hid hlw
  have HAL := Lib.hid hal
  obtain ⟨dd, hdd⟩ : ∃ dd, x.dead = dd := ⟨_, rfl⟩
  rw [hdd] at d1 HL
  clear hx hx0 hlw hdd bx hal e0 e1 h hR
  cases dd
  all_goals
    go_enter Try.func88, Try.ntmps88
    go_wp2_with fail
    go_ret
    rw [HL.out]
    subst hvb
    exact ⟨rfl, HAL.out⟩
set_option maxRecDepth 100000 in
theorem vers1_any {y : Ent} {VA : Option Addr} {vm vc : Nat} {W : World} (h : Hid (EntR (fun _ => True) W [.string y.key, .slice VA vm vc] y)) :
    Calls Try.prog 108 #[.agg #[.string y.key, .slice VA vm vc]] W fun e W' => e = .returned (.int .i64 (versW y)) ∧ Below W.heap.size W W' := by
  obtain ⟨A, n, c, hcs, hnc, hR⟩ := h.out
  injection hcs with _ hcs
  injection hcs with hcs _
  injection hcs with e1 e2 e3
  subst e1; subst e2; subst e3
  have hl : versW y = (vm : Int) := by unfold versW; rw [hR.1]
  have HL := Lib.hid hl
  have hal : Below W.heap.size W (W.alloc (.cells #[.string y.key, .slice VA vm vc] 72)) := (Below.refl _ _).alloc (Nat.le_refl _) _
  have HAL := Lib.hid hal
  clear h hR hl hal
  go_enter Try.func108, Try.ntmps108
  go_wp2_with fail
  go_ret
  rw [HL.out]
  exact ⟨rfl, HAL.out⟩
section
variable {w : World} {base s nb : Nat} {L : List Ent} {last : Int} {F : Nat → Prop}
theorem row_rd {w' : World} {v : Value} (h : OwnL EntR 72 2 w.heap.size (w.heap.size ≤ ·) w' v L.length L) : ∃ A c, v = .slice A L.length c ∧ L.length ≤ c ∧ RdL EntR 2 (w.heap.size ≤ ·) w' A L.length L :=
  h.rd (fun k hk => hk) (fun cs x hx => EntR.stable _ _ _ _ _ _ hx fun b hb _ => ⟨hb.1, rfl⟩)
set_option maxRecDepth 100000 in
theorem live_any (HM : Hid (MvM w base s L last F)) (hok : Hid (OkL nb last L)) (hnb : nb ≤ 4194303) (hll : L.length ≤ 1000000) :
    Calls Try.prog 45 #[.pointer (some ⟨s, 0, none⟩)] w fun e w' => e = .returned (.int .i64 (sumL liveW L)) ∧ Below w.heap.size w w' := by
  have hr := rows_all HM hok hnb hll
  go_enter Try.func45, Try.ntmps45
  go_wp2_with fail
  refine hr.mono ?_
  rintro e w1 ⟨v, rfl, ho, hb⟩
  obtain ⟨A, c, rfl, hc, hR⟩ := row_rd ho
  have had := added_any (c := c) (Lib.hid hR) hll 88 liveW (fun y _ => by unfold liveW; split <;> omega) (enters_of Try.func88 (by kernel_rfl) rfl)
    (fun y VA vm vc W hy h => live1_any (hok.out y hy).ne h)
  have HB := Lib.hid hb
  clear ho hR hb hr
  go_wp2_with fail
  refine had.mono ?_
  rintro e w2 ⟨rfl, hb2⟩
  have HB2 := Lib.hid (HB.out.trans (hb2.mono HB.out.size))
  clear hb2 had
  go_wp2_with fail
  go_ret
  exact ⟨rfl, HB2.out⟩
set_option maxRecDepth 100000 in
theorem versions_any (HM : Hid (MvM w base s L last F)) (hok : Hid (OkL nb last L)) (hnb : nb ≤ 4194303) (hll : L.length ≤ 1000000) :
    Calls Try.prog 70 #[.pointer (some ⟨s, 0, none⟩)] w fun e w' => e = .returned (.int .i64 (sumL versW L)) ∧ Below w.heap.size w w' := by
  have hr := rows_all HM hok hnb hll
  go_enter Try.func70, Try.ntmps70
  go_wp2_with fail
  refine hr.mono ?_
  rintro e w1 ⟨v, rfl, ho, hb⟩
  obtain ⟨A, c, rfl, hc, hR⟩ := row_rd ho
  have had := added_any (c := c) (Lib.hid hR) hll 108 versW (fun y hy => by have := (hok.out y hy).len; unfold versW; omega) (enters_of Try.func108 (by kernel_rfl) rfl)
    (fun y VA vm vc W hy h => vers1_any h)
  have HB := Lib.hid hb
  clear ho hR hb hr
  go_wp2_with fail
  refine had.mono ?_
  rintro e w2 ⟨rfl, hb2⟩
  have HB2 := Lib.hid (HB.out.trans (hb2.mono HB.out.size))
  clear hb2 had
  go_wp2_with fail
  go_ret
  exact ⟨rfl, HB2.out⟩
end
end Go.Proofs.Ytpibaahiboajhaa
