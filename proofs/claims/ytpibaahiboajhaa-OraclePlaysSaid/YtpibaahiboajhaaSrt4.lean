/-
  Sorting a row of uint64: the heap.
-/
import Derived.Test.YtpibaahiboajhaaSrt3
set_option linter.unusedSimpArgs false
set_option linter.unusedVariables false
namespace Go.Proofs.Ytpibaahiboajhaa
open Go.RowKit Go.Cib
attribute [local go_sem] cell_set Later.cell Later.frozen Grw.cell Grw.frozen
open Go.Sort Go.Proofs

set_option maxRecDepth 100000 in
set_option maxHeartbeats 2000000 in
theorem heap_u {w wr : World} {blk off n cap a b : Nat} {d : Array Int} (h : RowIs w blk off n wr d) (hab : a ≤ b) (hb : b ≤ n) (hn : n ≤ 1000000) :
    Calls Try.prog 147 #[.slice (some ⟨blk, off, none⟩) n cap, .int .i64 a, .int .i64 b] wr fun e w' => e = .returned (.tuple #[]) ∧ RowIs w blk off n w' (heapSort ltInt d a b) := by
  have ecast : ((b - a : Nat) : Int) = (b : Int) - (a : Int) := by omega
  have H := Lib.hid h
  clear h
  go_enter Try.func147, Try.ntmps147
  go_wp2
  go_loopg [9] ((b - a - 1) / 2 + 1) (fun k s9 wq => s9 = .int .i64 ((k : Int) - 1) ∧ k ≤ (b - a - 1) / 2 + 1 ∧ ∃ dk : Array Int, Hid (RowIs w blk off n wq dk) ∧ Hid (heapBuild ltInt (b - a) a k dk = heapBuild ltInt (b - a) a ((b - a - 1) / 2 + 1) d))
  case atStart => exact ⟨by rw [half_start hab], Nat.le_refl _, d, H, Lib.hid rfl⟩
  case round =>
    clear H
    obtain ⟨wq, rfl⟩ : ∃ wq, wq = wr := ⟨_, rfl⟩
    obtain ⟨rfl, hkk, dk, HR, HE⟩ := hrel
    cases gk with
    | zero =>
      clear hkk
      go_wp2
      go_loopg [10] (b - a) (fun k s10 wv => s10 = .int .i64 ((k : Int) - 1) ∧ k ≤ b - a ∧ ∃ dj : Array Int, Hid (RowIs w blk off n wv dj) ∧ Hid (heapPop ltInt a k dj = heapPop ltInt a (b - a) dk))
      case atStart => exact ⟨by rw [ecast], Nat.le_refl _, dk, HR, Lib.hid rfl⟩
      case round =>
        clear HR
        obtain ⟨wv, rfl⟩ : ∃ wv, wv = wr := ⟨_, rfl⟩
        obtain ⟨rfl, hkk, dj, HJ, HE2⟩ := hrel
        cases gk with
        | zero =>
          go_wp2
          go_end0
          refine ⟨rfl, ?_⟩
          have e : dj = heapSort ltInt d a b := by rw [heapSort, ← HE.out]; exact HE2.out
          rw [← e]
          exact HJ.out
        | succ k =>
          obtain ⟨G, cw, fw, HG⟩ := HJ.out.family
          rcases Nat.eq_zero_or_pos k with hk0 | hkp
          · subst hk0
            go_wp2_with fail
            go_region
            go_wp2_with fail
            refine (sift_u (F := a) (lo := 0) (hi := 0) (cap := cap) ((HJ.out.swap (i := a) (j := a) (by omega) (by omega) (HG.out _) (HG.out _)).drew) (Nat.zero_le _) (by omega) hn).mono ?_
            rintro e w1 ⟨rfl, t1⟩
            have T1 := Lib.hid t1
            clear t1
            go_wp2
            go_roundg 0
            case measure => omega
            case rel => exact ⟨by simp, by omega, _, T1, HE2⟩
          · skip
            go_wp2_with fail
            go_region
            go_wp2_with fail
            refine (sift_u (F := a) (lo := 0) (hi := k) (cap := cap) ((HJ.out.swap (i := a) (j := a + k) (by omega) (by omega) (HG.out _) (HG.out _)).drew) (Nat.zero_le _) (by omega) hn).mono ?_
            rintro e w1 ⟨rfl, t1⟩
            have T1 := Lib.hid t1
            clear t1
            go_wp2
            go_roundg k
            case measure => omega
            case rel => exact ⟨by simp, by omega, _, T1, HE2⟩
    | succ k =>
      have c1 := sift_u (F := a) (lo := k) (hi := b - a) (cap := cap) HR.out (by omega) (by omega) hn
      rw [ecast] at c1
      go_wp2_with fail
      refine c1.mono ?_
      rintro e w1 ⟨rfl, t1⟩
      have T1 := Lib.hid t1
      clear t1
      go_wp2
      go_roundg k
      case measure => omega
      case rel => exact ⟨by simp, by omega, _, T1, HE⟩
end Go.Proofs.Ytpibaahiboajhaa
