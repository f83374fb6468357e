/-
  ciboriumref15.Same, ciboriumref22.Same, SameAll: their contracts.
-/
import Derived.Test.YtpibaahiboajhaaVer
set_option linter.unusedSimpArgs false
set_option linter.unusedVariables false
namespace Go.Proofs.Ytpibaahiboajhaa
open Go.RowKit Go.Cib
attribute [local go_sem] cell_set Later.cell Later.frozen Grw.cell Grw.frozen

theorem ret_bool {a b : Bool} (h : a = b) : Ending.returned (.bool a) = .returned (.bool b) := by rw [h]
theorem upto_succ {p : Nat → Bool} {k : Nat} (h : ∀ j, j < k → p j = true) (hk : p k = true) : ∀ j, j < k + 1 → p j = true := fun j hj => by
  rcases Nat.lt_or_ge j k with h1 | h1
  · exact h j h1
  · rw [show j = k by omega]; exact hk

theorem ints_at {S : Nat → Prop} {w : World} {b o n : Nat} {xs : List Int} (h : RdL IntR 1 S w (some ⟨b, o, none⟩) n xs) {k : Nat} (hk : k < n) :
    ∃ (hl : k < xs.length), w.cell? ⟨b, o + k, none⟩ = some (.int .i64 xs[k]) := by
  obtain ⟨hl, cs, hcs, hu, hcell⟩ := h.at hk
  exact ⟨hl, by have := hcell 0 (.int .i64 xs[k]) (by rw [hu]; rfl); simpa only [Nat.mul_one, Nat.add_zero] using this⟩

set_option maxRecDepth 100000 in
set_option maxHeartbeats 1000000 in
theorem blobSame_any {S1 S2 : Nat → Prop} {x y : Blob} (A1 A2 : Option Addr) (n1 c1 n2 c2 : Nat) (w : World) (hn : n1 ≤ 17592186043904) (hr1 : Hid (RdL IntR 1 S1 w A1 n1 x.places)) (hr2 : Hid (RdL IntR 1 S2 w A2 n2 y.places)) {v : Bool} (hv : Hid (x.same y = v)) :
    Calls Try.prog 40 #[.agg #[.slice A1 n1 c1, .int .u64 x.gen, .int .i64 x.size], .agg #[.slice A2 n2 c2, .int .u64 y.gen, .int .i64 y.size]] w fun e w' => e = .returned (.bool v) ∧ Below w.heap.size w w' := by
  have hl1 := Lib.hid hr1.out.1
  have hl2 := Lib.hid hr2.out.1
  by_cases hsz : x.size = y.size
  · by_cases hgen : x.gen = y.gen
    · by_cases hlen : n1 = n2
      · subst hlen
        have HV := hv
        have f1 : (x.size != y.size) = false := by simpa using hsz
        have f2 : (x.gen != y.gen) = false := by simpa using hgen
        have HS := Lib.hid hsz; have HG := Lib.hid hgen
        clear hsz hgen
        go_enter Try.func40, Try.ntmps40
        go_wp2_with fail
        go_loopw [5] (fun vi wr => ∃ k : Nat, k ≤ n1 ∧ vi = .int .i64 k ∧ Below (w.heap.size + 2) ((w.alloc (.cells #[.slice A1 n1 c1, .int .u64 x.gen, .int .i64 x.size] 75)).alloc (.cells #[.slice A2 n1 c2, .int .u64 y.gen, .int .i64 y.size] 75)) wr ∧ Hid (∀ j, j < k → (x.places.getD j 0 == y.places.getD j 0) = true)) (fun vi _ => n1 - (intOf vi).toNat)
        case atStart => exact ⟨0, Nat.zero_le _, rfl, Below.refl _ _, Lib.hid fun j hj => absurd hj (by omega)⟩
        case round =>
          obtain ⟨k, hk, rfl, hb, hall⟩ := hrel
          have hbel : Below w.heap.size w wr := (show Below w.heap.size w ((w.alloc (.cells #[.slice A1 n1 c1, .int .u64 x.gen, .int .i64 x.size] 75)).alloc (.cells #[.slice A2 n1 c2, .int .u64 y.gen, .int .i64 y.size] 75)) from (by repeat (first | (with_reducible exact Below.refl _ _) | (with_reducible assumption) | (with_reducible refine Below.drew ?_) | (with_reducible refine Below.setCell ?_ ?_ _) | (with_reducible refine Below.alloc ?_ ?_ _) | (with_reducible refine Below.later ?_ ?_ _) | (first | (with_reducible exact Nat.le_refl _) | omega | (simp only [World.size_alloc, World.size_setCell, World.size_drew] <;> omega))))).trans (hb.mono (by omega))
          obtain ⟨y0, rfl⟩ := Later.ex hb
          have hs := y0.ok.size
          simp only [World.size_alloc] at hs
          by_cases hlt : k < n1
          · obtain ⟨b1, o1, rfl, _, hb1⟩ := hr1.out.addr hlt
            obtain ⟨b2, o2, rfl, _, hb2⟩ := hr2.out.addr hlt
            obtain ⟨hk1, e1⟩ := ints_at (hr1.out.below IntR.stable hbel) hlt
            obtain ⟨hk2, e2⟩ := ints_at (hr2.out.below IntR.stable hbel) hlt
            have HJ1 := Lib.hid (show x.places.getD k 0 = x.places[k] by simp [hk1])
            have HJ2 := Lib.hid (show y.places.getD k 0 = y.places[k] by simp [hk2])
            have g1 : b1 < y0.to.heap.size := by omega
            have g2 : b2 < y0.to.heap.size := by omega
            have g3 : w.heap.size < y0.to.heap.size := by omega
            have g4 : w.heap.size + 1 < y0.to.heap.size := by omega
            by_cases heq : x.places[k] = y.places[k]
            · have f : (x.places[k] != y.places[k]) = false := by simpa using heq
              have HE := Lib.hid heq; clear heq
              go_wp2_with fail
              refine wp_region_later (by kernel_rfl) (by kernel_rfl) ?_
              repeat (go_big_quiet_step (fail))
              refine wpQuiet_nil ?_
              rintro _ ⟨z, rfl⟩
              go_wp2_with fail
              refine ⟨⟨k + 1, by omega, by go_num, hb.trans (z.ok.mono (by omega)), Lib.hid (upto_succ hall.out ?_)⟩, by simp [intOf]; omega⟩
              rw [HJ1.out, HJ2.out, HE.out]; simp
            · have f : (x.places[k] != y.places[k]) = true := by simpa using heq
              have HE := Lib.hid heq; clear heq
              go_wp2_with fail
              refine wp_region_later (by kernel_rfl) (by kernel_rfl) ?_
              repeat (go_big_quiet_step (fail))
              refine wpQuiet_nil ?_
              rintro _ ⟨z, rfl⟩
              go_wp2_with fail
              go_ret
              refine ⟨ret_bool ?_, hbel.trans (z.ok.mono hbel.size)⟩
              rw [← HV.out, eq_comm, Bool.eq_false_iff]
              intro h
              have hxy := Blob.same_iff.1 h
              exact HE.out (by have h1 := HJ1.out; have h2 := HJ2.out; rw [← h1, ← h2, hxy])
          · go_wp2_with fail
            go_ret
            refine ⟨ret_bool ?_, hbel⟩
            rw [← HV.out, eq_comm, Blob.same_iff]
            have hpl : x.places = y.places := by
              apply List.ext_getElem (by rw [hl1.out, hl2.out])
              intro i h1 h2
              have := hall.out i (by rw [hl1.out] at h1; omega)
              simpa [h1, h2] using this
            have e1 := HS.out; have e2 := HG.out
            cases x; cases y; simp_all
      · have f1 : (x.size != y.size) = false := by simpa using hsz
        have f2 : (x.gen != y.gen) = false := by simpa using hgen
        have f3 : ((n1 : Int) != (n2 : Int)) = true := by simp; omega
        clear hsz hgen
        go_enter Try.func40, Try.ntmps40
        go_wp2_with fail
        go_ret
        refine ⟨ret_bool ?_, (by repeat (first | (with_reducible exact Below.refl _ _) | (with_reducible assumption) | (with_reducible refine Below.drew ?_) | (with_reducible refine Below.setCell ?_ ?_ _) | (with_reducible refine Below.alloc ?_ ?_ _) | (with_reducible refine Below.later ?_ ?_ _) | (first | (with_reducible exact Nat.le_refl _) | omega | (simp only [World.size_alloc, World.size_setCell, World.size_drew] <;> omega))))⟩
        rw [← hv.out, eq_comm, Bool.eq_false_iff]
        intro h
        have hxy := Blob.same_iff.1 h
        have h1 := hl1.out; have h2 := hl2.out
        rw [hxy] at h1; omega
    · have f1 : (x.size != y.size) = false := by simpa using hsz
      have f2 : (x.gen != y.gen) = true := by simpa using hgen
      have HG := Lib.hid hgen
      clear hsz hgen
      go_enter Try.func40, Try.ntmps40
      go_wp2_with fail
      go_ret
      refine ⟨ret_bool ?_, (by repeat (first | (with_reducible exact Below.refl _ _) | (with_reducible assumption) | (with_reducible refine Below.drew ?_) | (with_reducible refine Below.setCell ?_ ?_ _) | (with_reducible refine Below.alloc ?_ ?_ _) | (with_reducible refine Below.later ?_ ?_ _) | (first | (with_reducible exact Nat.le_refl _) | omega | (simp only [World.size_alloc, World.size_setCell, World.size_drew] <;> omega))))⟩
      rw [← hv.out, eq_comm, Bool.eq_false_iff]
      intro h
      exact HG.out (by rw [Blob.same_iff.1 h])
  · have f1 : (x.size != y.size) = true := by simpa using hsz
    have HG := Lib.hid hsz
    clear hsz
    go_enter Try.func40, Try.ntmps40
    go_wp2_with fail
    go_ret
    refine ⟨ret_bool ?_, (by repeat (first | (with_reducible exact Below.refl _ _) | (with_reducible assumption) | (with_reducible refine Below.drew ?_) | (with_reducible refine Below.setCell ?_ ?_ _) | (with_reducible refine Below.alloc ?_ ?_ _) | (with_reducible refine Below.later ?_ ?_ _) | (first | (with_reducible exact Nat.le_refl _) | omega | (simp only [World.size_alloc, World.size_setCell, World.size_drew] <;> omega))))⟩
    rw [← hv.out, eq_comm, Bool.eq_false_iff]
    intro h
    exact HG.out (by rw [Blob.same_iff.1 h])

set_option maxHeartbeats 1000000 in
theorem verSame_any {S1 S2 : Nat → Prop} {x y : Ver} (A1 A2 : Option Addr) (n1 c1 n2 c2 : Nat) (w : World) (hn : n1 ≤ 17592186043904) (hr1 : Hid (RdL IntR 1 S1 w A1 n1 x.blob.places)) (hr2 : Hid (RdL IntR 1 S2 w A2 n2 y.blob.places)) {v : Bool} (hv : Hid (x.same y = v)) :
    Calls Try.prog 123 #[.agg #[.int .u64 x.stamp, .bool x.dead, .slice A1 n1 c1, .int .u64 x.blob.gen, .int .i64 x.blob.size], .agg #[.int .u64 y.stamp, .bool y.dead, .slice A2 n2 c2, .int .u64 y.blob.gen, .int .i64 y.blob.size]] w fun e w' => e = .returned (.bool v) ∧ Below w.heap.size w w' := by
  by_cases hst : x.stamp = y.stamp
  · by_cases hd : x.dead = y.dead
    · have f1 : (x.stamp == y.stamp) = true := by simpa using hst
      have f2 : (x.dead == y.dead) = true := by simpa using hd
      have hv2 : x.blob.same y.blob = v := by rw [← hv.out, Ver.same, f1, f2]; rfl
      have HV2 := Lib.hid hv2
      clear hst hd hv2
      go_enter Try.func123, Try.ntmps123
      go_wp2_with (go_at_call 40; refine (blobSame_any A1 A2 n1 c1 n2 c2 _ hn (Lib.hid (hr1.out.below IntR.stable (by repeat (first | (with_reducible exact Below.refl _ _) | (with_reducible assumption) | (with_reducible refine Below.drew ?_) | (with_reducible refine Below.setCell ?_ ?_ _) | (with_reducible refine Below.alloc ?_ ?_ _) | (with_reducible refine Below.later ?_ ?_ _) | (first | (with_reducible exact Nat.le_refl _) | omega | (simp only [World.size_alloc, World.size_setCell, World.size_drew] <;> omega)))))) (Lib.hid (hr2.out.below IntR.stable (by repeat (first | (with_reducible exact Below.refl _ _) | (with_reducible assumption) | (with_reducible refine Below.drew ?_) | (with_reducible refine Below.setCell ?_ ?_ _) | (with_reducible refine Below.alloc ?_ ?_ _) | (with_reducible refine Below.later ?_ ?_ _) | (first | (with_reducible exact Nat.le_refl _) | omega | (simp only [World.size_alloc, World.size_setCell, World.size_drew] <;> omega)))))) HV2).mono ?_; rintro e w' ⟨rfl, hb⟩)
      go_ret
      refine ⟨rfl, (show Below w.heap.size w ((w.alloc (.cells #[.int .u64 x.stamp, .bool x.dead, .slice A1 n1 c1, .int .u64 x.blob.gen, .int .i64 x.blob.size] 77)).alloc (.cells #[.int .u64 y.stamp, .bool y.dead, .slice A2 n2 c2, .int .u64 y.blob.gen, .int .i64 y.blob.size] 77)) from (by repeat (first | (with_reducible exact Below.refl _ _) | (with_reducible assumption) | (with_reducible refine Below.drew ?_) | (with_reducible refine Below.setCell ?_ ?_ _) | (with_reducible refine Below.alloc ?_ ?_ _) | (with_reducible refine Below.later ?_ ?_ _) | (first | (with_reducible exact Nat.le_refl _) | omega | (simp only [World.size_alloc, World.size_setCell, World.size_drew] <;> omega))))).trans (hb.mono (by (first | (with_reducible exact Nat.le_refl _) | omega | (simp only [World.size_alloc, World.size_setCell, World.size_drew] <;> omega))))⟩
    · have f1 : (x.stamp == y.stamp) = true := by simpa using hst
      have f2 : (x.dead == y.dead) = false := by simpa using hd
      have hv2 : v = false := by rw [← hv.out, Ver.same, f2]; simp
      subst hv2
      clear hst hd
      go_enter Try.func123, Try.ntmps123
      go_wp2_with fail
      go_ret
      exact ⟨rfl, (by repeat (first | (with_reducible exact Below.refl _ _) | (with_reducible assumption) | (with_reducible refine Below.drew ?_) | (with_reducible refine Below.setCell ?_ ?_ _) | (with_reducible refine Below.alloc ?_ ?_ _) | (with_reducible refine Below.later ?_ ?_ _) | (first | (with_reducible exact Nat.le_refl _) | omega | (simp only [World.size_alloc, World.size_setCell, World.size_drew] <;> omega))))⟩
  · have f1 : (x.stamp == y.stamp) = false := by simpa using hst
    have hv2 : v = false := by rw [← hv.out, Ver.same, f1]; simp
    subst hv2
    clear hst
    go_enter Try.func123, Try.ntmps123
    go_wp2_with fail
    go_ret
    exact ⟨rfl, (by repeat (first | (with_reducible exact Below.refl _ _) | (with_reducible assumption) | (with_reducible refine Below.drew ?_) | (with_reducible refine Below.setCell ?_ ?_ _) | (with_reducible refine Below.alloc ?_ ?_ _) | (with_reducible refine Below.later ?_ ?_ _) | (first | (with_reducible exact Nat.le_refl _) | omega | (simp only [World.size_alloc, World.size_setCell, World.size_drew] <;> omega))))⟩

def sameAll : List Ver → List Ver → Bool
  | [], [] => true
  | a :: r, b :: s => a.same b && sameAll r s
  | _, _ => false
theorem sameAll_iff : ∀ {a b : List Ver}, sameAll a b = true ↔ a = b
  | [], [] => by simp [sameAll]
  | [], b :: s => by simp [sameAll]
  | a :: r, [] => by simp [sameAll]
  | a :: r, b :: s => by simp [sameAll, Ver.same_iff, sameAll_iff (a := r)]

set_option maxHeartbeats 1000000 in
theorem sameAll_any {S1 S2 : Nat → Prop} {l1 l2 : List Ver} (A1 A2 : Option Addr) (n1 c1 n2 c2 : Nat) (w : World) (hn : n1 ≤ 4194304) (hr1 : Hid (RdL VerR 5 S1 w A1 n1 l1)) (hr2 : Hid (RdL VerR 5 S2 w A2 n2 l2)) (hsm : ∀ v ∈ l1, v.blob.places.length ≤ 17592186043904) {v : Bool} (hv : Hid (sameAll l1 l2 = v)) :
    Calls Try.prog 86 #[.slice A1 n1 c1, .slice A2 n2 c2] w fun e w' => e = .returned (.bool v) ∧ Below w.heap.size w w' := by
  have hl1 := Lib.hid hr1.out.1
  have hl2 := Lib.hid hr2.out.1
  by_cases hlen : n1 = n2
  · subst hlen
    go_enter Try.func86, Try.ntmps86
    go_wp2_with fail
    go_loopw [5] (fun vi wr => ∃ k : Nat, k ≤ n1 ∧ vi = .int .i64 k ∧ Below w.heap.size w wr ∧ Hid (∀ j, j < k → ((l1.getD j .none_).same (l2.getD j .none_)) = true)) (fun vi _ => n1 - (intOf vi).toNat)
    case atStart => exact ⟨0, Nat.zero_le _, rfl, Below.refl _ _, Lib.hid fun j hj => absurd hj (by omega)⟩
    case round =>
      obtain ⟨k, hk, rfl, hb, hall⟩ := hrel
      by_cases hlt : k < n1
      · obtain ⟨b1, o1, rfl, _, hb1⟩ := hr1.out.addr hlt
        obtain ⟨b2, o2, rfl, _, hb2⟩ := hr2.out.addr hlt
        obtain ⟨x, B1, m1, d1, hx, _, hp1, e0, e1, e2, e3, e4⟩ := vers_at (hr1.out.below VerR.stable hb) hlt
        obtain ⟨y, B2, m2, d2, hy, _, hp2, f0, f1, f2, f3, f4⟩ := vers_at (hr2.out.below VerR.stable hb) hlt
        have HX := Lib.hid hx; have HY := Lib.hid hy
        have hm : m1 ≤ 17592186043904 := by rw [← hp1.1]; exact hsm x (List.mem_of_getElem? hx)
        have HP1 := Lib.hid hp1; have HP2 := Lib.hid hp2
        have hbs := hb.size
        have g1 : b1 < wr.heap.size := by omega
        have g2 : b2 < wr.heap.size := by omega
        clear hx hy hp1 hp2
        cases hs : x.same y
        all_goals
          have HS := Lib.hid hs; clear hs
          go_wp2_with fail
          refine wp_region_later (by kernel_rfl) (by kernel_rfl) ?_
          repeat (go_big_quiet_step ((go_at_call 123; exact Later.call _ (verSame_any B1 B2 m1 d1 m2 d2 _ hm (Lib.hid (HP1.out.below IntR.stable (Later.ok _))) (Lib.hid (HP2.out.below IntR.stable (Later.ok _))) HS) (Nat.le_refl _))))
          refine wpQuiet_nil ?_
          rintro _ ⟨z, rfl⟩
          go_wp2_with fail
        · go_ret
          refine ⟨ret_bool ?_, hb.trans (z.ok.mono hbs)⟩
          rw [← hv.out, eq_comm, Bool.eq_false_iff]
          intro h
          have := sameAll_iff.1 h
          subst this
          have h2 := HX.out.symm.trans HY.out
          injection h2 with h2
          subst h2
          have := HS.out
          rw [Ver.same_iff.2 rfl] at this; cases this
        · refine ⟨⟨k + 1, by omega, by go_num, hb.trans (z.ok.mono hbs), Lib.hid (upto_succ hall.out ?_)⟩, by simp [intOf]; omega⟩
          rw [List.getD_eq_getElem?_getD, List.getD_eq_getElem?_getD, HX.out, HY.out]; exact HS.out
      · go_wp2_with fail
        go_ret
        refine ⟨ret_bool ?_, hb⟩
        rw [← hv.out, eq_comm, sameAll_iff]
        apply List.ext_getElem (by rw [hl1.out, hl2.out])
        intro i h1 h2
        have := hall.out i (by rw [hl1.out] at h1; omega)
        rw [List.getD_eq_getElem?_getD, List.getD_eq_getElem?_getD, List.getElem?_eq_getElem h1, List.getElem?_eq_getElem h2] at this
        exact Ver.same_iff.1 this
  · have f3 : ((n1 : Int) != (n2 : Int)) = true := by simp; omega
    go_enter Try.func86, Try.ntmps86
    go_wp2_with fail
    go_ret
    refine ⟨ret_bool ?_, (by repeat (first | (with_reducible exact Below.refl _ _) | (with_reducible assumption) | (with_reducible refine Below.drew ?_) | (with_reducible refine Below.setCell ?_ ?_ _) | (with_reducible refine Below.alloc ?_ ?_ _) | (with_reducible refine Below.later ?_ ?_ _) | (first | (with_reducible exact Nat.le_refl _) | omega | (simp only [World.size_alloc, World.size_setCell, World.size_drew] <;> omega))))⟩
    rw [← hv.out, eq_comm, Bool.eq_false_iff]
    intro h
    have := sameAll_iff.1 h
    subst this
    have h1 := hl1.out; have h2 := hl2.out
    omega
end Go.Proofs.Ytpibaahiboajhaa
