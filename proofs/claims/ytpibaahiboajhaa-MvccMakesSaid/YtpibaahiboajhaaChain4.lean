/-
  chain.gone, chain.Prune: their contracts.
-/
import Derived.Test.YtpibaahiboajhaaChain3
import Derived.Test.YtpibaahiboajhaaLibMap
import Derived.Deep.LoopGhost
set_option linter.unusedSimpArgs false
set_option linter.unusedVariables false
namespace Go.Proofs.Ytpibaahiboajhaa
open Go.RowKit Go.Cib
attribute [local go_sem] cell_set Later.cell Later.frozen Grw.cell Grw.frozen

theorem kt_int : KeyTy Try.prog 3 (Value.int .i64) := keyTy_int Try.underlying3
theorem und_mapIB : Try.prog.underlying 193 = some (.map 3 4) := by kernel_rfl
theorem zero_bool : ∀ w, (zeroValue 4).run Try.prog w = .ok (.bool false) w := fun w => by kernel_rfl

/-- goneL: of a chain, the keys that are seen, and starts. -/
def goneL (l : List Ver) (es : List (Int × Value)) (starts : List Int) : Bool :=
  match l with
  | [] => false
  | v :: _ => v.dead && (es.all (fun p => p.1 == 0) && starts.all (fun s => !decide (s < v.stamp)))

set_option maxRecDepth 100000 in
set_option maxHeartbeats 1000000 in
theorem gone_any {S S2 : Nat → Prop} {l : List Ver} {starts : List Int} {es : List (Int × Value)} (A A2 : Option Addr) (n c n2 c2 m : Nat) (w : World) (hn : n ≤ 4194303) (hn2 : n2 ≤ 4194304) (hr : Hid (RdL VerR 5 S w A n l)) (hm : Hid (MapAt (Value.int .i64) w m es)) (hr2 : Hid (RdL U64R 1 S2 w A2 n2 starts)) :
    Calls Try.prog 120 #[.slice A n c, .map (some m), .slice A2 n2 c2] w fun e w' => e = .returned (.bool (goneL l es starts)) ∧ Below w.heap.size w w' := by
  by_cases h0 : n = 0
  · subst h0
    have hl : l = [] := List.length_eq_zero_iff.1 hr.out.1
    subst hl
    have hlt : decide ((0 : Nat) < 0) = false := rfl
    go_enter Try.func120, Try.ntmps120
    go_wp2_with fail
    go_step3
    go_wp2_with fail
    try rw [Exit.noGoto_ret]
    go_ret
    exact ⟨rfl, (by repeat (first | (with_reducible exact Below.refl _ _) | (with_reducible assumption) | (with_reducible refine Below.drew ?_) | (with_reducible refine Below.setCell ?_ ?_ _) | (with_reducible refine Below.alloc ?_ ?_ _) | (with_reducible refine Below.later ?_ ?_ _) | (first | (with_reducible exact Nat.le_refl _) | omega | (simp only [World.size_alloc, World.size_setCell, World.size_drew] <;> omega))))⟩
  · have hne : ((n : Int) == 0) = false := by simp; omega
    have hlt : 0 < n := by omega
    obtain ⟨b, o, rfl, hS, hb0⟩ := hr.out.addr hlt
    obtain ⟨x, A1, m1, c1, hx, hmc, hpl, e0, e1, e2, e3, e4⟩ := vers_at hr.out hlt
    simp only [Nat.zero_mul, Nat.add_zero] at e0 e1 e2 e3 e4
    have HX := Lib.hid hx
    clear hx hpl hS h0
    cases hd : x.dead
    · have HD := Lib.hid hd
      rw [hd] at e1
      clear hd
      go_enter Try.func120, Try.ntmps120
      go_wp2_with fail
      go_step3
      go_wp2_with fail
      rw [Exit.noGoto_ret]
      go_ret
      refine ⟨ret_bool ?_, (by repeat (first | (with_reducible exact Below.refl _ _) | (with_reducible assumption) | (with_reducible refine Below.drew ?_) | (with_reducible refine Below.setCell ?_ ?_ _) | (with_reducible refine Below.alloc ?_ ?_ _) | (with_reducible refine Below.later ?_ ?_ _) | (first | (with_reducible exact Nat.le_refl _) | omega | (simp only [World.size_alloc, World.size_setCell, World.size_drew] <;> omega))))⟩
      cases l with
      | nil => simp at HX; exact absurd HX.out (by simp)
      | cons v r =>
        have : v = x := by have := HX.out; simpa using this
        simp [goneL, this, HD.out]
    · have HD := Lib.hid hd
      rw [hd] at e1
      clear hd
      have hgone : goneL l es starts = (es.all (fun p => p.1 == 0) && starts.all (fun s => !decide (s < x.stamp))) := by
        cases l with
        | nil => exact absurd HX.out (by simp)
        | cons v r =>
          have : v = x := by have := HX.out; simpa using this
          simp [goneL, this, HD.out]
      have HG := Lib.hid hgone; clear hgone
      have hbr : Hid (b < w.heap.size) := Lib.hid hb0
      go_enter Try.func120, Try.ntmps120
      go_wp2_with fail
      go_step3
      go_wp2_with fail
      go_step3
      go_wp2_with (refine wpList_range und_mapIB rfl rfl (by exact rfl) hm.out ?_; intro y hit hys)
      go_frame
      go_loopg [7] es.length (fun g x7 wr => ∃ left, left.length = g ∧ IterAt (Value.int .i64) wr w.heap.size m left ∧ Below w.heap.size w wr ∧ Hid (es.all (fun p => p.1 == 0) = left.all (fun p => p.1 == 0)))
      case atStart => exact ⟨es, rfl, hit, y.ok, Lib.hid rfl⟩
      case round =>
        obtain ⟨left, rfl, hit, hbel, hall⟩ := hrel
        go_wp2_with (refine wpList_next rfl rfl rfl hit ?hDone ?hMore)
        case hMore =>
          intro k v left' u hperm hit2 hus hent
          have hlen : left'.length < left.length := by have := hperm.length_eq; simp at this; omega
          have hub : Below w.heap.size w u.to := hbel.grown u.ok hbel.size (fun j hj => by injection hj with hj; omega)
          have HP := Lib.hid hperm; clear hperm
          by_cases hk : k = 0
          · subst hk
            go_wp2_with fail
            go_roundg left'.length
            case measure => exact hlen
            case rel =>
              refine ⟨left', rfl, hit2, hub, Lib.hid ?_⟩
              rw [hall.out, HP.out.all_eq]
              simp
          · have hkf : (k == 0) = false := by simpa using hk
            go_wp2_with fail
            rw [Exit.noGoto_ret]
            go_ret
            refine ⟨ret_bool ?_, hub⟩
            rw [HG.out, hall.out, HP.out.all_eq]
            simp [hkf]
        case hDone =>
          intro hl0
          subst hl0
          have hbk := hbr.out
          have hys2 := hbel.size
          obtain ⟨z, rfl⟩ := Later.ex hbel
          have H0 := Lib.hid hr2.out.1
          go_wp2_with fail
          go_loopg [30] n2 (fun g x30 wr => ∃ j : Nat, j ≤ n2 ∧ g = n2 - j ∧ x30 = .int .i64 j ∧ wr = z.to ∧ Hid (∀ i, i < j → x.stamp ≤ starts.getD i 0))
          case atStart => exact ⟨0, Nat.zero_le _, rfl, rfl, rfl, Lib.hid fun i hi => absurd hi (by omega)⟩
          case round =>
            obtain ⟨j, hj, rfl, rfl, rfl, hall2⟩ := hrel
            by_cases hlt2 : j < n2
            · obtain ⟨b2, o2, rfl, _, hb2⟩ := hr2.out.addr hlt2
              obtain ⟨hjl, cs, hcs, hu, hcell⟩ := hr2.out.at hlt2
              have hc0 := hcell 0 (.int .u64 starts[j]) (by rw [hu]; rfl)
              simp only [Nat.mul_one, Nat.add_zero] at hc0
              have hbs : b2 < w.heap.size := hb2
              clear hcell hu hcs
              have HJ := Lib.hid (show starts.getD j 0 = starts[j] by simp [hjl])
              by_cases hcmp : starts[j] < x.stamp
              · have hc : decide (starts[j] < x.stamp) = true := by simpa using hcmp
                go_wp2_with fail
                rw [Exit.noGoto_ret]
                go_ret
                refine ⟨ret_bool ?_, z.ok⟩
                rw [HG.out, hall.out]
                symm
                simp only [List.all_nil, Bool.true_and, Bool.eq_false_iff, ne_eq, List.all_eq_true]
                intro h
                have := h starts[j] (List.getElem_mem _)
                simp at this; omega
              · have hc : decide (starts[j] < x.stamp) = false := by simpa using hcmp
                go_wp2_with fail
                go_roundg (n2 - (j + 1))
                case measure => omega
                case rel =>
                  refine ⟨j + 1, by omega, rfl, by go_num, rfl, Lib.hid fun i hi => ?_⟩
                  rcases Nat.lt_or_ge i j with h | h
                  · exact hall2.out i h
                  · rw [show i = j by omega, HJ.out]; omega
            · have hjn : j = n2 := by omega
              go_wp2_with fail
              rw [Exit.noGoto_ret]
              go_ret
              refine ⟨ret_bool ?_, z.ok⟩
              rw [HG.out, hall.out]
              symm
              simp only [List.all_nil, Bool.true_and, List.all_eq_true]
              intro s hs
              obtain ⟨i, hi, rfl⟩ := List.mem_iff_getElem.1 hs
              have := hall2.out i (by rw [hjn, ← H0.out]; exact hi)
              rw [show starts.getD i 0 = starts[i] by simp [hi]] at this
              simp; omega
end Go.Proofs.Ytpibaahiboajhaa
