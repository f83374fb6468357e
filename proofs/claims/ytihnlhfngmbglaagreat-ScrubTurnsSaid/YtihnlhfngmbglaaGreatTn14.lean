/-
  Law 31: whether stripes are few and short.
  Law 31: stripes that are laid.
  The page's example: a stripe with a dead drive.
  Law 31: the page's example.
  Law 31: steps come to stripes by their places, and how often that was.
  Law 31: ScrubTurns: the walk.
  A geometry among the arguments; bounds of whole numbers.
  Law 31's stripes among the arguments.
-/
import Derived.Test.YtihnlhfngmbglaaGreatTn13
import Derived.Test.YtihnlhfngmbglaaGreatTn12
import Derived.Test.YtihnlhfngmbglaaGreatTn3
import Derived.Test.YtihnlhfngmbglaaGreatTn2
set_option linter.unusedSimpArgs false
set_option linter.unusedVariables false
namespace Go.Proofs.YtihnlhfngmbglaaGreat
open Go.RowKit Go.Cib
attribute [local go_sem] cell_set Later.cell Later.frozen Grw.cell Grw.frozen
section
def PtR (S : Nat → Prop) (w : World) (cs : List Value) (x : Pt) : Prop := ∃ A n c, cs = [.int .u64 (x.1 : Int), .slice A n c] ∧ n ≤ c ∧ RdL ByR 1 S w A n x.2 ∧ x.1 < 2 ^ 64
theorem PtR.stable : Stable PtR := fun S S' w w' cs x ⟨A, n, c, h1, h2, h3, h4⟩ hk => ⟨A, n, c, h1, h2, h3.stable ByR.stable hk, h4⟩
theorem pt_at {S : Nat → Prop} {w : World} {A : Option Addr} {L : Nat} {ps : List Pt} (h : RdL PtR 2 S w A L ps) {i : Nat} (hi : i < L) : ∃ b o x A2 n c, A = some ⟨b, o, none⟩ ∧ ps[i]? = some x ∧ b < w.heap.size ∧ S b ∧ w.cell? ⟨b, o + i * 2, none⟩ = some (.int .u64 (x.1 : Int)) ∧ w.cell? ⟨b, o + i * 2 + 1, none⟩ = some (.slice A2 n c) ∧ n ≤ c ∧ RdL ByR 1 S w A2 n x.2 := by
  obtain ⟨b, o, rfl, hS, hlt⟩ := h.addr hi
  obtain ⟨hl, cs, h1, ⟨A2, n, c, h2, hc, hr, _⟩, h3⟩ := h.at hi
  subst h2
  refine ⟨b, o, ps[i], A2, n, c, rfl, by simp [hl], hlt, hS, ?_, ?_, hc, hr⟩
  · simpa using h3 0 _ rfl
  · simpa using h3 1 _ rfl
theorem pt_gen {S : Nat → Prop} {w : World} {A : Option Addr} {L : Nat} {ps : List Pt} (h : RdL PtR 2 S w A L ps) : ∀ p ∈ ps, p.1 < 2 ^ 64 := fun p hp => by
  obtain ⟨i, hi⟩ := List.getElem?_of_mem hp
  have hl : i < L := by rw [← h.1]; exact (List.getElem?_eq_some_iff.1 hi).1
  obtain ⟨b, o, rfl, _, _⟩ := h.addr hl
  obtain ⟨hl2, cs, _, ⟨_, _, _, _, _, _, h4⟩, _⟩ := h.at hl
  rw [List.getElem?_eq_getElem hl2] at hi
  rw [← Option.some.inj hi]
  exact h4
def smallP (k : Nat) (s : Int) (ps : List Pt) : Bool := (ps.take 20).all (fun p => decide (p.2.length ≤ 44 * k)) && decide (1 ≤ ps.length ∧ (ps.length : Int) ≤ s)
def upTo (k : Nat) (ps : List Pt) (i : Nat) : Prop := ∀ j p, j < i → ps[j]? = some p → p.2.length ≤ 44 * k
theorem smallP_of {k : Nat} {s : Int} {ps : List Pt} (h : upTo k ps (min 20 ps.length)) : smallP k s ps = decide (1 ≤ ps.length ∧ (ps.length : Int) ≤ s) := by
  unfold smallP
  rw [show (ps.take 20).all (fun p => decide (p.2.length ≤ 44 * k)) = true from List.all_eq_true.2 fun p hp => by
    obtain ⟨j, hj⟩ := List.getElem?_of_mem hp
    rw [List.getElem?_take] at hj
    split at hj
    · have := (List.getElem?_eq_some_iff.1 hj).1
      exact decide_eq_true (h j p (by omega) hj)
    · cases hj]
  rfl
theorem smallP_no {k : Nat} {s : Int} {ps : List Pt} {j : Nat} {p : Pt} (hj : j < 20) (hp : ps[j]? = some p) (h : 44 * k < p.2.length) : smallP k s ps = false := by
  unfold smallP
  rw [show (ps.take 20).all (fun p => decide (p.2.length ≤ 44 * k)) = false from List.all_eq_false.2 ⟨p, List.mem_of_getElem? (by rw [List.getElem?_take, if_pos hj]; exact hp), by rw [decide_eq_false (by omega)]; decide⟩]
  rfl
theorem smallP_ok {k s : Nat} {ps : List Pt} (hs : s ≤ 8) (h : smallP k (s : Int) ps = true) : 1 ≤ ps.length ∧ ps.length ≤ s ∧ ∀ p ∈ ps, p.2.length ≤ k * 44 := by
  unfold smallP at h
  rw [Bool.and_eq_true, decide_eq_true_eq, List.all_eq_true] at h
  obtain ⟨h1, h2, h3⟩ := h
  refine ⟨h2, by omega, fun p hp => ?_⟩
  have := h1 p (by rw [List.take_of_length_le (by omega)]; exact hp)
  rw [decide_eq_true_eq] at this
  omega
set_option maxRecDepth 100000 in
set_option maxHeartbeats 8000000 in
theorem ssmall_any {w : World} {k : Nat} {m s : Int} {S : Nat → Prop} {A : Option Addr} {L c : Nat} {ps : List Pt} (R : RdL PtR 2 S w A L ps) (hk : k ≤ 10) :
    Calls Tryz.prog 33 #[.agg (geoC k m s), .slice A L c] w fun e w' => e = .returned (.bool (smallP k s ps)) ∧ Below w.heap.size w w' := by
  have hb0 : Below w.heap.size w (w.alloc (.cells (geoC k m s) 23)) := (Below.refl _ _).alloc (Nat.le_refl _) _
  have bG := BoxAt.new w (geoC k m s) 23
  obtain ⟨W, hW⟩ : ∃ W, w.alloc (.cells (geoC k m s) 23) = W := ⟨_, rfl⟩
  rw [hW] at hb0 bG
  obtain ⟨q, hq⟩ : ∃ q, w.heap.size = q := ⟨_, rfl⟩
  rw [hq] at bG
  have HR := Lib.hid (R.below PtR.stable hb0)
  have HB0 := Lib.hid hb0
  have BG := Lib.hid bG
  have HL := Lib.hid R.1
  have q0 : (0 : Int) ≤ (k : Int) := by omega
  have q1 : (k : Int) ≤ 10 := by omega
  unfold geoC at hW ⊢
  clear hb0 bG R
  go_enter Tryz.func33, Tryz.ntmps33
  go_wp2_with fail
  clear hW hq
  go_loopw [5] (fun vi wr => ∃ i : Nat, i ≤ 20 ∧ i ≤ L ∧ vi = .int .i64 i ∧ Hid (upTo k ps i) ∧ Hid (Below W.heap.size W wr)) (fun vi _ => 20 - (intOf vi).toNat)
  case atStart => exact ⟨0, by omega, Nat.zero_le _, rfl, Lib.hid fun j p h => by omega, Lib.hid (Below.refl _ _)⟩
  case round =>
    obtain ⟨i, hi, hiL, rfl, HU, HB⟩ := hrel
    have p0 : (0 : Int) ≤ (i : Int) := Int.natCast_nonneg _
    have hbG := BG.out.below HB.out
    have k0 : wr.cell? ⟨q, 0, none⟩ = some (.int .i64 (k : Int)) := hbG.cell 0
    have k2 : wr.cell? ⟨q, 2, none⟩ = some (.int .i64 s) := hbG.cell 2
    have hqW : q < wr.heap.size := hbG.lt
    by_cases hlt : i < L
    · have p1 : (i : Int) < (L : Int) := by omega
      by_cases h20 : i < 20
      · have p2 : (i : Int) < 20 := by omega
        obtain ⟨b, o, x, A2, n2, c2, rfl, hx, hbl, _, x0, x1, hc2, hr2⟩ := pt_at (HR.out.below PtR.stable HB.out) hlt
        have hn2 := hr2.1
        by_cases hg : 44 * k < n2
        · have p3 : (n2 : Int) > 44 * (k : Int) := by omega
          have HF := Lib.hid (smallP_no (s := s) h20 hx (by rw [hn2]; exact hg))
          have HBW := Lib.hid (HB0.out.trans (HB.out.mono HB0.out.size))
          clear hx hr2 hn2 hbG
          go_wp2_with fail
          refine wp_region_later (by kernel_rfl) (by kernel_rfl) ?_
          repeat (go_big_quiet_step (fail))
          refine wpQuiet_nil ?_
          rintro _ ⟨z, rfl⟩
          go_wp2_with fail
          go_ret
          exact ⟨by rw [HF.out]; rfl, HBW.out.trans (z.ok.mono HBW.out.size)⟩
        · have p3 : ¬ (n2 : Int) > 44 * (k : Int) := by omega
          have HU2 := Lib.hid (show upTo k ps (i + 1) from fun j p hj hp => by
            by_cases e : j = i
            · subst e
              rw [hx] at hp
              obtain rfl := Option.some.inj hp
              omega
            · exact HU.out j p (by omega) hp)
          clear hx hr2 hn2 hbG
          go_wp2_with fail
          refine wp_region_later (by kernel_rfl) (by kernel_rfl) ?_
          repeat (go_big_quiet_step (fail))
          refine wpQuiet_nil ?_
          rintro _ ⟨z, rfl⟩
          have HBz := Lib.hid (HB.out.trans (z.ok.mono HB.out.size))
          go_wp2_with fail
          exact ⟨⟨i + 1, by omega, by omega, by go_num, HU2, HBz⟩, by simp [intOf]; omega⟩
      · have p2 : ¬ (i : Int) < 20 := by omega
        obtain rfl : i = 20 := by omega
        have HF := Lib.hid (smallP_of (s := s) (show upTo k ps (min 20 ps.length) by rw [HL.out]; rw [Nat.min_eq_left hiL]; exact HU.out))
        have HBW := Lib.hid (HB0.out.trans (HB.out.mono HB0.out.size))
        rw [HL.out] at HF
        clear hbG
        have h1 : 1 ≤ L := by omega
        have f1 : (L : Int) ≥ 1 := by omega
        by_cases h2 : (L : Int) ≤ s
        · have HD := Lib.hid (show decide (1 ≤ L ∧ (L : Int) ≤ s) = true from decide_eq_true ⟨h1, h2⟩)
          go_wp2_with fail
          go_ret
          exact ⟨by rw [HF.out, HD.out]; rfl, HBW.out⟩
        · have HD := Lib.hid (show decide (1 ≤ L ∧ (L : Int) ≤ s) = false from decide_eq_false fun h => h2 h.2)
          go_wp2_with fail
          go_ret
          exact ⟨by rw [HF.out, HD.out]; rfl, HBW.out⟩
    · have p1 : ¬ (i : Int) < (L : Int) := by omega
      obtain rfl : L = i := by omega
      have HF := Lib.hid (smallP_of (s := s) (show upTo k ps (min 20 ps.length) by rw [HL.out]; rw [Nat.min_eq_right hi]; exact HU.out))
      have HBW := Lib.hid (HB0.out.trans (HB.out.mono HB0.out.size))
      rw [HL.out] at HF
      clear hbG
      by_cases h1 : 1 ≤ L
      · have f1 : (L : Int) ≥ 1 := by omega
        by_cases h2 : (L : Int) ≤ s
        · have HD := Lib.hid (show decide (1 ≤ L ∧ (L : Int) ≤ s) = true from decide_eq_true ⟨h1, h2⟩)
          go_wp2_with fail
          go_ret
          exact ⟨by rw [HF.out, HD.out]; rfl, HBW.out⟩
        · have HD := Lib.hid (show decide (1 ≤ L ∧ (L : Int) ≤ s) = false from decide_eq_false fun h => h2 h.2)
          go_wp2_with fail
          go_ret
          exact ⟨by rw [HF.out, HD.out]; rfl, HBW.out⟩
      · have f1 : ¬ (L : Int) ≥ 1 := by omega
        have HD := Lib.hid (show decide (1 ≤ L ∧ (L : Int) ≤ s) = false from decide_eq_false fun h => h1 h.1)
        go_wp2_with fail
        go_ret
        exact ⟨by rw [HF.out, HD.out]; rfl, HBW.out⟩
end
section
section
variable {X : Nat → Prop} {w0 w : World} {a cb bf k m n : Nat} {sts : List DSt}
theorem MX.cnt (h : MX X w0 w a cb bf k m n sts) : CNt w (.pointer (some ⟨cb, 0, none⟩)) (k + m) := fun W hW => cn_any (h.below' hW).cod
theorem MX.whc {g : Nat → Bool} {r : Ref} {xs : List Nat} {rf : RfI} (h : MX X w0 w a cb bf k m n sts) (hr : r.ok n) (hg : Hid (r.gen < 2 ^ 64)) (hx : Byt xs) (hl : xs.length ≤ k * 44) (hc : Hds g k (k + m) r xs sts) (hC : rf.C = refC r) (hp : rf.place = (r.place : Int)) : WhC w (.pointer (some ⟨a, 0, none⟩)) (.pointer (some ⟨cb, 0, none⟩)) rf g (k + m) := fun W hW => by
  rw [hC]
  refine (whole_view (h.below' hW).mid hr hg hx hl hc).mono ?_
  rintro e w' ⟨b, rfl, hr, hb⟩
  exact ⟨_, _, _, _, rfl, Nat.le_refl _, hr, .inr ⟨r.place, hp, rfl⟩, hb⟩
/-- The slice of names, as the law has it. -/
def RwX (v : Value) (j : Nat) : Prop := some j = v.ownBlock
theorem rfi_own {S : Nat → Prop} {A : Option Addr} {L c : Nat} {xs : List RfI} (h : RdL RfIR 3 S w A L xs) : RdL RfIR 3 (RwX (.slice A L c)) w A L xs := by
  refine ⟨h.1, fun hn => ?_⟩
  obtain ⟨b, o, rfl, _, hl, hx⟩ := h.2 hn
  exact ⟨b, o, rfl, rfl, hl, hx⟩
set_option maxRecDepth 100000 in
set_option maxHeartbeats 16000000 in
theorem laid_any {S : Nat → Prop} {A : Option Addr} {L c : Nat} {ps : List Pt} (hM : MX X w0 w a cb bf k m n (newS n (k + m))) (R : RdL PtR 2 S w A L ps) (hS : ∀ j, S j → X j) (hp : PtOk k n ps) :
    Calls Tryz.prog 36 #[.pointer (some ⟨a, 0, none⟩), .pointer (some ⟨cb, 0, none⟩), .slice A L c] w fun e w' => ∃ A' c' sts, e = .returned (.slice A' L c') ∧ L ≤ c' ∧ MX (fun j => X j ∨ RwX (.slice A' L c') j) w0 w' a cb bf k m n sts ∧ KpX X w w' ∧
      RdL RfIR 3 (RwX (.slice A' L c')) w' A' L (ptRs ps) ∧ Qt n (k + m) sts ∧ (∀ st ∈ sts, Sld n st) ∧ Vws k (k + m) ps (fun _ _ => true) sts := by
  have hLn : L ≤ n := by rw [← R.1]; exact hp.len
  have hn6 := hM.pos
  have q0 : (L : Int) ≤ 600 := by omega
  have HR := Lib.hid R
  have HM := Lib.hid hM
  have HP := Lib.hid hp
  have HS := Lib.hid hS
  have HXL := Lib.hid R.1
  have HN := Lib.hid hn6
  have HW0 := Lib.hid hM.bel.size
  have HXW := Lib.hid (show ∀ j, X j → j < w.heap.size from fun j hj => hM.lt hj)
  clear R hM hp hS hn6
  go_enter Tryz.func36, Tryz.ntmps36
  go_wp2_with fail
  go_loopw [7, 8] (fun vo vi wr => ∃ (i : Nat) (A2 : Option Addr) (c2 : Nat), i ≤ L ∧ vi = .int .i64 i ∧ vo = .slice A2 i c2 ∧ i ≤ c2 ∧ Hid (MX (fun j => X j ∨ RwX (.slice A2 i c2) j) w0 wr a cb bf k m n (laidQ n k (k + m) ps i)) ∧ Hid (KpX X w wr) ∧ Hid (LayI n k (k + m) ps i (laidQ n k (k + m) ps i)) ∧ Hid (OwnL RfIR 38 3 w.heap.size NoB wr (.slice A2 i c2) i ((ptRs ps).take i))) (fun _ vi _ => L - (intOf vi).toNat)
  case atStart => exact ⟨0, none, 0, Nat.zero_le _, rfl, rfl, Nat.le_refl _, Lib.hid (HM.out.sub fun j hj => hj.elim id (fun h => by cases h)), Lib.hid KpX.refl, Lib.hid LayI.zero, Lib.hid (by exact OwnL.nil_)⟩
  case round =>
    clear HM
    obtain ⟨i, A2, c2, hi, rfl, rfl, hc2, HM, HK, HI, HO⟩ := hrel
    have p0 : (0 : Int) ≤ (i : Int) := Int.natCast_nonneg _
    by_cases hlt : i < L
    · have p1 : (i : Int) < (L : Int) := by omega
      obtain ⟨b, o, x, A3, n3, c3, rfl, hx, hbl, hSb, x0, x1, hc3, hr3⟩ := pt_at (HK.out.rd PtR.stable HR.out HS.out) hlt
      have HX := Lib.hid hx
      have hn3 := hr3.1
      have hsz := HP.out.sz x (List.mem_of_getElem? hx)
      -- the box of the name
      obtain ⟨W, hW⟩ : ∃ W, wr.alloc (.cells #[.int .u8 3, .int .i64 (i : Int), .int .u64 (x.1 : Int)] 38) = W := ⟨_, rfl⟩
      have hbW : Below wr.heap.size wr W := by rw [← hW]; exact (Below.refl _ _).alloc (Nat.le_refl _) _
      have bW : BoxAt W wr.heap.size #[.int .u8 3, .int .i64 (i : Int), .int .u64 (x.1 : Int)] := by rw [← hW]; exact BoxAt.new _ _ _
      obtain ⟨q, hq⟩ : ∃ q, wr.heap.size = q := ⟨_, rfl⟩
      rw [hq] at bW
      have hd : Below W.heap.size W W.drew := (Below.refl _ _).drew
      have hMW := ((HM.out.below hbW).below' hd).sub (Y := fun j => (X j ∨ RwX (.slice A2 i c2) j) ∨ j = q) (fun j hj => by
        rcases hj with h | h
        · exact .inl h
        · have := bW.lt; exact .inr (by omega))
      have hbWd := hbW.trans (hd.mono hbW.size)
      have hXl : ∀ j, X j → j < wr.heap.size := fun j hj => HM.out.lt (.inl hj)
      have hKd : KpX X w W.drew := HK.out.trans (KpX.of_below hbWd hXl)
      have hpu := put_m hMW (r := ptRef i x) (HP.out.ref hx) (HP.out.hgen hx) (fun st hst => by have := HI.out.cache st hst; omega) (c := c3) (hr3.below ByR.stable hbWd) hc3 (by rw [← hn3]; exact hsz)
      have eR : refC (ptRef i x) = #[.int .u8 3, .int .i64 (i : Int), .int .u64 (x.1 : Int)] := rfl
      rw [eR] at hpu
      have s0 : W.drew.cell? ⟨q, 0, none⟩ = some (.int .u8 3) ∧ W.drew.cell? ⟨q, 1, none⟩ = some (.int .i64 (i : Int)) ∧ W.drew.cell? ⟨q, 2, none⟩ = some (.int .u64 (x.1 : Int)) ∧ W.drew.cell? ⟨b, o + i * 2 + 1, none⟩ = some (.slice A3 n3 c3) := ⟨bW.cell 0, bW.cell 1, bW.cell 2, (hbW.cell (p := ⟨b, _, none⟩) hbl).trans x1⟩
      have HNX := Lib.hid (show laidQ n k (k + m) ps (i + 1) = (laidQ n k (k + m) ps i).mapIdx (putQ n k (k + m) (ptRef i x) x.2) by rw [laidQ, hx])
      have HIN := Lib.hid (HI.out.next HP.out hx)
      have BW := Lib.hid (bW.below hd)
      have HOW := Lib.hid (HO.out.keep RfIR.stable hbWd)
      have HPU := Lib.hid hpu
      have HKD := Lib.hid hKd
      have HBX := Lib.hid (HS.out b hSb)
      have HQ := Lib.hid (show w.heap.size ≤ q by have := HK.out.2; omega)
      have xl : (x.1 : Int) < 18446744073709551616 := by have := HP.out.gen x (List.mem_of_getElem? hx); omega
      clear hx hr3 hn3 hsz hbW bW hd hMW hbWd hXl hKd hpu hbl HM HK HI HO eR
      go_wp2_with fail
      refine wp_region_held_drew (S := fun w' => w'.cell? ⟨q, 0, none⟩ = some (.int .u8 3) ∧ w'.cell? ⟨q, 1, none⟩ = some (.int .i64 (i : Int)) ∧ w'.cell? ⟨q, 2, none⟩ = some (.int .u64 (x.1 : Int)) ∧ w'.cell? ⟨b, o + i * 2 + 1, none⟩ = some (.slice A3 n3 c3)) (by kernel_rfl) (by first | exact s0 | exact s5) (fun hHeld => ?_)
      refine wpAnyH_take (i := 0) (v := ?_) rfl (by kernel_rfl) (by kernel_rfl) (by kernel_rfl) (fun _ _ _ h => h) (Or.inl ⟨by first | kernel_rfl | rfl, ?_⟩) (by assumption) ?_
      rotate_left
      · (intro wq hSw; (try dsimp only at hSw); (try simp (maxSteps := 2000000) only [zz1, zz2, zz3]); go_simp); try with_reducible rfl
      try simp (maxSteps := 2000000) only [zz1, zz2, zz3, Act.put, zz4, zz5, zz6]
      refine wpAnyH_take (i := 1) (v := ?_) rfl (by kernel_rfl) (by kernel_rfl) (by kernel_rfl) (fun _ _ _ h => h) (Or.inl ⟨by first | kernel_rfl | rfl, ?_⟩) (by assumption) ?_
      rotate_left
      · (intro wq hSw; (try dsimp only at hSw); (try simp (maxSteps := 2000000) only [zz1, zz2, zz3]); go_simp); try with_reducible rfl
      try simp (maxSteps := 2000000) only [zz1, zz2, zz3, Act.put, zz4, zz5, zz6]
      refine wpAnyH_take (i := 2) (v := ?_) rfl (by kernel_rfl) (by kernel_rfl) (by kernel_rfl) (fun _ _ _ h => h) (Or.inl ⟨by first | kernel_rfl | rfl, ?_⟩) (by assumption) ?_
      rotate_left
      · (intro wq hSw; (try dsimp only at hSw); (try simp (maxSteps := 2000000) only [zz1, zz2, zz3]); go_simp); try with_reducible rfl
      try simp (maxSteps := 2000000) only [zz1, zz2, zz3, Act.put, zz4, zz5, zz6]
      refine wpAnyH_take (i := 3) (v := ?_) rfl (by kernel_rfl) (by kernel_rfl) (by kernel_rfl) (fun _ _ _ h => h) (Or.inl ⟨by first | kernel_rfl | rfl, ?_⟩) (by assumption) ?_
      rotate_left
      · (intro wq hSw; (try dsimp only at hSw); (try simp (maxSteps := 2000000) only [zz1, zz2, zz3]); go_simp); try with_reducible rfl
      try simp (maxSteps := 2000000) only [zz1, zz2, zz3, Act.put, zz4, zz5, zz6]
      refine wpAnyH_take (i := 4) (v := ?_) rfl (by kernel_rfl) (by kernel_rfl) (by kernel_rfl) (fun _ _ _ h => h) (Or.inl ⟨by first | kernel_rfl | rfl, ?_⟩) (by assumption) ?_
      rotate_left
      · (intro wq hSw; (try dsimp only at hSw); (try simp (maxSteps := 2000000) only [zz1, zz2, zz3]); go_simp); try with_reducible rfl
      try simp (maxSteps := 2000000) only [zz1, zz2, zz3, Act.put, zz4, zz5, zz6]
      refine wpAnyH_take (i := 5) (v := ?_) rfl (by kernel_rfl) (by kernel_rfl) (by kernel_rfl) (fun _ _ _ h => h) (Or.inl ⟨by first | kernel_rfl | rfl, ?_⟩) (by assumption) ?_
      rotate_left
      · (intro wq hSw; (try dsimp only at hSw); (try simp (maxSteps := 2000000) only [zz1, zz2, zz3]); go_simp); try with_reducible rfl
      try simp (maxSteps := 2000000) only [zz1, zz2, zz3, Act.put, zz4, zz5, zz6]
      refine wpAnyH_take (i := 6) (v := ?_) rfl (by kernel_rfl) (by kernel_rfl) (by kernel_rfl) (fun _ _ _ h => h) (Or.inl ⟨by first | kernel_rfl | rfl, ?_⟩) (by assumption) ?_
      rotate_left
      · (intro wq hSw; (try dsimp only at hSw); (try simp (maxSteps := 2000000) only [zz1, zz2, zz3]); go_simp); try with_reducible rfl
      try simp (maxSteps := 2000000) only [zz1, zz2, zz3, Act.put, zz4, zz5, zz6]
      refine wpAnyH_take (i := 7) (v := ?_) rfl (by kernel_rfl) (by kernel_rfl) (by kernel_rfl) (fun _ _ _ h => h) (Or.inl ⟨by first | kernel_rfl | rfl, ?_⟩) (by assumption) ?_
      rotate_left
      · (intro wq hSw; (try dsimp only at hSw); (try simp (maxSteps := 2000000) only [zz1, zz2, zz3]); go_simp); try with_reducible rfl
      try simp (maxSteps := 2000000) only [zz1, zz2, zz3, Act.put, zz4, zz5, zz6]
      refine wpAnyH_ready (rs := [8]) (by kernel_rfl) (by simp) ?_
      refine AllReadyH.cons rfl (fun K hK => ?_) AllReadyH.nil
      try simp (maxSteps := 2000000) only [zz1, zz2, zz3]
      go_simp
      go_at_call 43
      refine HPU.out.mono ?_
      clear HPU
      rintro e w5 ⟨rfl, hM5, hK5⟩
      have hB5 := hK5.box BW.out (.inr rfl)
      have s5 : w5.cell? ⟨q, 0, none⟩ = some (.int .u8 3) ∧ w5.cell? ⟨q, 1, none⟩ = some (.int .i64 (i : Int)) ∧ w5.cell? ⟨q, 2, none⟩ = some (.int .u64 (x.1 : Int)) ∧ w5.cell? ⟨b, o + i * 2 + 1, none⟩ = some (.slice A3 n3 c3) := ⟨hB5.cell 0, hB5.cell 1, hB5.cell 2, (World.cell?_of_block (hK5.1 b (.inl (.inl HBX.out)))).trans s0.2.2.2⟩
      have HM5 := Lib.hid hM5
      have HBQ5 := Lib.hid hB5
      have HK5 := Lib.hid (HKD.out.trans (hK5.mono fun j hj => .inl (.inl hj)))
      have HO5 := Lib.hid (OwnL.kpL (S' := NoB) RfIR.stable HOW.out (hK5.mono (Y := RwX (.slice A2 i c2)) fun j hj => .inl (.inr hj)) (fun g hg => hg.symm) (fun b hb hl => hb.elim))
      clear hM5 hK5 hB5
      try (go_wp2_with fail)
      refine hK.out _ _ (by first | exact s0 | exact s5) (fun hHeld => ?_)
      clear hK K
      try simp (maxSteps := 2000000) only [zz1, zz2, zz3, Act.put, zz4, zz5, zz6]
      refine wpAnyH_take (i := 9) (v := ?_) rfl (by kernel_rfl) (by kernel_rfl) (by kernel_rfl) (fun _ _ _ h => h) (Or.inl ⟨by first | kernel_rfl | rfl, ?_⟩) (by assumption) ?_
      rotate_left
      · (intro wq hSw; (try dsimp only at hSw); (try simp (maxSteps := 2000000) only [zz1, zz2, zz3]); go_simp); try with_reducible rfl
      try simp (maxSteps := 2000000) only [zz1, zz2, zz3, Act.put, zz4, zz5, zz6]
      refine wpAnyH_take (i := 10) (v := ?_) rfl (by kernel_rfl) (by kernel_rfl) (by kernel_rfl) (fun _ _ _ h => h) (Or.inl ⟨by first | kernel_rfl | rfl, ?_⟩) (by assumption) ?_
      rotate_left
      · (intro wq hSw; (try dsimp only at hSw); (try simp (maxSteps := 2000000) only [zz1, zz2, zz3]); go_simp); try with_reducible rfl
      try simp (maxSteps := 2000000) only [zz1, zz2, zz3, Act.put, zz4, zz5, zz6]
      refine wpAnyH_take (i := 11) (v := ?_) rfl (by kernel_rfl) (by kernel_rfl) (by kernel_rfl) (fun _ _ _ h => h) (Or.inl ⟨by first | kernel_rfl | rfl, ?_⟩) (by assumption) ?_
      rotate_left
      · (intro wq hSw; (try dsimp only at hSw); (try simp (maxSteps := 2000000) only [zz1, zz2, zz3]); go_simp); try with_reducible rfl
      try simp (maxSteps := 2000000) only [zz1, zz2, zz3, Act.put, zz4, zz5, zz6]
      refine wpAnyH_take (i := 12) (v := ?_) rfl (by kernel_rfl) (by kernel_rfl) (by kernel_rfl) (fun _ _ _ h => h) (Or.inl ⟨by first | kernel_rfl | rfl, ?_⟩) (by assumption) ?_
      rotate_left
      · (intro wq hSw; (try dsimp only at hSw); (try simp (maxSteps := 2000000) only [zz1, zz2, zz3]); go_simp); try with_reducible rfl
      try simp (maxSteps := 2000000) only [zz1, zz2, zz3, Act.put, zz4, zz5, zz6]
      refine wpAnyH_take (i := 13) (v := ?_) rfl (by kernel_rfl) (by kernel_rfl) (by kernel_rfl) (fun _ _ _ h => h) (Or.inl ⟨by first | kernel_rfl | rfl, ?_⟩) (by assumption) ?_
      rotate_left
      · (intro wq hSw; (try dsimp only at hSw); (try simp (maxSteps := 2000000) only [zz1, zz2, zz3]); go_simp); try with_reducible rfl
      try simp (maxSteps := 2000000) only [zz1, zz2, zz3, Act.put, zz4, zz5, zz6]
      refine wpAnyH_done (by kernel_rfl) ?_ _
      have hb5 : BoxAt w5 q #[.int .u8 3, .int .i64 (i : Int), .int .u64 (x.1 : Int)] := HBQ5.out
      have k0 : w5.cell? ⟨q, 0, none⟩ = some (.int .u8 3) := hb5.cell 0
      have k1 : w5.cell? ⟨q, 1, none⟩ = some (.int .i64 (i : Int)) := hb5.cell 1
      have k2 : w5.cell? ⟨q, 2, none⟩ = some (.int .u64 (x.1 : Int)) := hb5.cell 2
      have hbs : w.heap.size ≤ w5.heap.size := HK5.out.2
      clear s0 s5 hHeld hb5 hW hq
      go_wp2_with (at_builtin; go_must (refine wpList_push1 RfIR.stable RfIR.one sl_rfi (by rfl) (by rfl) (base := w.heap.size) (S := NoB) (cs := #[.int .u8 3, .int .i64 (i : Int), .int .u64 (x.1 : Int)]) (y := ⟨3, i, x.1⟩) (by rfl) (by rfl) HO5.out (by rfl) (by rfl) (by unfold maxLen; omega) (by omega) hbs ?_); intro A8 c8 ug hc8 own9 hlt8 hb8 hat8; have HO9 := Lib.hid own9; have HU9 := Lib.hid ug.ok; have HA9 := Lib.hid hat8; have HL9 := Lib.hid hlt8; clear own9 hb8 hat8 hlt8)
      have hlo := HO5.out.lt
      have hM9 := (HM5.out.ownN (Keep.of_grown HU9.out) (fun j hj => ⟨.inl (.inr hj), Nat.le_trans HW0.out (hlo j hj.symm).1⟩)).sub (Y := fun j => X j ∨ RwX (.slice A8 (i + 1) c8) j) (fun j hj => by
        rcases hj with h | h
        · exact .inl (.inl (.inl h))
        · have h1 := HO9.out.lt j h.symm
          rcases HA9.out with e | e
          · exact .inl (.inl (.inr (by unfold RwX at h ⊢; rw [h, e])))
          · have h2 : some j = some (w5.heap.size + 1) := by rw [← e]; exact h
            injection h2 with h2
            exact .inr ⟨by omega, h1.2⟩)
      have hK9 : KpX X w ug.to := HK5.out.trans ⟨fun j hj => HU9.out.block j (HM5.out.lt (.inl (.inl hj))) (fun e => by have h1 := (hlo j e.symm).1; have h2 := HXW.out j hj; omega), HU9.out.size⟩
      have e2 : (ptRs ps).take (i + 1) = (ptRs ps).take i ++ [⟨3, i, (x.1 : Nat)⟩] := by
        rw [List.take_add_one, ptRs_at ps (by rw [HXL.out]; exact hlt), ptR_of HX.out]; rfl
      have hN := HNX.out
      exact ⟨⟨i + 1, A8, c8, by omega, by go_num, rfl, hc8, Lib.hid (by rw [hN]; exact hM9), Lib.hid hK9, Lib.hid (by rw [hN]; exact HIN.out), Lib.hid (by rw [e2]; exact HO9.out)⟩, by simp [intOf]; omega⟩
    · have p1 : ¬ (i : Int) < (L : Int) := by omega
      obtain rfl : i = L := by omega
      have hfl := flush_m HM.out (fun st hst => by have := HI.out.cache st hst; omega)
      have hfe := HI.out.flush HXL.out HP.out (HM.out.mid.ok)
      have HFE := Lib.hid hfe
      have hlo := HO.out.lt
      have ho := HO.out
      rw [List.take_of_length_le (by rw [ptRs_len, HXL.out]; exact Nat.le_refl _)] at ho
      have HO' := Lib.hid ho
      clear hfe ho
      go_wp2_with fail
      refine hfl.mono ?_
      clear hfl
      rintro e w6 ⟨rfl, hM6, hK6⟩
      have HM6 := Lib.hid hM6
      have HK6 := Lib.hid (HK.out.trans (hK6.mono fun j hj => .inl hj))
      have HO6 := Lib.hid (OwnL.kpL (S' := NoB) RfIR.stable HO'.out (hK6.mono (Y := RwX (.slice A2 i c2)) fun j hj => .inr hj) (fun g hg => hg.symm) (fun b hb hl => hb.elim))
      clear hM6 hK6 hlo
      go_wp2_with fail
      go_ret
      obtain ⟨A', c', e, _, hr⟩ := OwnL.rd (S' := fun _ => True) HO6.out (fun _ _ => trivial) (fun cs x hx => hx)
      injection e with e1 _ e3
      subst e1; subst e3
      have hr := rfi_own (c := c2) hr
      exact ⟨A2, c2, _, rfl, hc2, HM6.out, HK6.out, hr, HFE.out.1, HFE.out.2.1, HFE.out.2.2⟩
end
end
section
def g1 (d : Nat) : Bool := decide (d ≠ 1)
def g2 (d : Nat) : Bool := decide (d ≠ 1) && decide (d ≠ 2)
theorem marked_rd {w : World} {t : TypeId} {m : Nat × Nat} {xs : List Nat} (hx : Byt xs) (hn : 0 < xs.length) : RdL ByR 1 (fun j => w.heap.size ≤ j) (w.alloc (.cells (xs.map fun b : Nat => Value.int .u8 (b : Int)).toArray t m)) (some ⟨w.heap.size, 0, none⟩) xs.length xs := by
  refine ⟨rfl, fun _ => ⟨w.heap.size, 0, rfl, Nat.le_refl _, by rw [World.size_alloc]; omega, fun i x hi => ⟨[.int .u8 (x : Int)], rfl, ⟨hx x (List.mem_of_getElem? hi), rfl⟩, fun j v hj => ?_⟩⟩⟩
  rcases j with _ | j
  · simp at hj; subst hj
    have hb : (w.alloc (.cells (xs.map fun b : Nat => Value.int .u8 (b : Int)).toArray t m)).heap[w.heap.size]? = some (.cells (xs.map fun b : Nat => Value.int .u8 (b : Int)).toArray t m) := by
      show (w.heap.push _)[w.heap.size]? = _
      simp
    unfold World.cell?
    dsimp only
    rw [hb]
    simp [hi]
  · simp at hj
end
section
def rX : Ref := ⟨3, 1, 4⟩
theorem rX_ok : rX.ok 3 := ⟨by decide, by decide, by decide⟩
def xX : List Nat := [120]
theorem xX_byt : Byt xX := by intro y hy; simp [xX] at hy; omega
def gX : Nat → Bool := butB (butB (fun _ => true) 2) 2
def s1X : List DSt := (newS 3 3).mapIdx (putQ 3 2 3 rX xX)
def s3X : List DSt := replA 3 (failA 3 s1X 2) 2
theorem s3X_live : ∀ st ∈ s3X, st.dead = false := by decide +kernel
theorem s3X_cache : ∀ st ∈ s3X, st.cache.length < 2 := by decide +kernel
theorem hX1 : Hds (fun _ => true) 2 3 rX xX s1X := by
  refine (Hds.new rX_ok xX_byt (fun st hst hd => ?_)).congr fun d hd => ?_
  · obtain ⟨d, h⟩ := List.getElem?_of_mem hst
    obtain ⟨rfl, _⟩ := newS_at h
    cases hd
  · have hl : d < 3 := by have : s1X.length = 3 := by decide +kernel
                          have hd : d < s1X.length := hd
                          omega
    have : ∀ d, d < 3 → deadL (newS 3 3) d = false := by decide +kernel
    rw [this d hl]; rfl
theorem hX3 : Hds gX 2 3 rX xX s3X := (hX1.fail rX_ok 2).repl rX_ok 2
theorem nX : cntP (fun d => !gX d && !deadL s3X d) (2 + 1) = 1 := by decide +kernel
theorem cX : 2 ≤ cntP gX (2 + 1) := by decide +kernel
def s4X : List DSt := s3X.mapIdx (mendQ gX 3 2 3 rX xX)
theorem s4X_cache : ∀ st ∈ s4X, st.cache.length < 3 := by decide +kernel
theorem s3X_ok : ∀ st ∈ s3X, st.ok 3 := by
  intro st h
  unfold s3X replA at h
  rw [if_pos (by decide +kernel)] at h
  rcases List.mem_or_eq_of_mem_set h with h | rfl
  · unfold failA at h
    rw [if_pos (by decide +kernel)] at h
    rcases List.mem_or_eq_of_mem_set h with h | rfl
    · obtain ⟨d, hd⟩ := List.getElem?_of_mem h
      obtain ⟨s1, h1, rfl⟩ := mapIdx_at hd
      obtain ⟨rfl, _⟩ := newS_at h1
      rw [putQ_live rX_ok xX_byt rfl]
      exact (DSt.ok.new 3).write (wrI_len (row44 xX_byt 2 _).1) ⟨by decide, by decide⟩
    · exact ⟨by decide, by decide, by decide, by decide, by decide⟩
  · exact DSt.ok.new 3
theorem s4X_ok : ∀ st ∈ s4X, st.ok 3 := by
  intro st h
  obtain ⟨d, hd⟩ := List.getElem?_of_mem h
  obtain ⟨s1, h1, rfl⟩ := mapIdx_at hd
  unfold mendQ
  split
  · exact s3X_ok s1 (List.mem_of_getElem? h1)
  · rw [putQ_live rX_ok xX_byt (s3X_live s1 (List.mem_of_getElem? h1))]
    exact (s3X_ok s1 (List.mem_of_getElem? h1)).write (wrI_len (row44 xX_byt 2 _).1) ⟨by decide, by decide⟩
theorem hX5 (hok : ∀ st ∈ s4X, st.ok 3) : Hds (fun _ => true) 2 3 rX xX (s4X.map flushG) := by
  refine Hds.flush ?_ rX_ok hok
  have hm := mend_all (g := gX) (n := 3) (k := 2) (N := 3) (r := rX) (xs := xX) (sts := s3X) rX_ok xX_byt (fun d st hd => ⟨s3X_live st (List.mem_of_getElem? hd), hX3 d st hd⟩)
  exact fun d st hd => .inl ⟨rfl, hm d st hd⟩
def rfX : RfI := ⟨3, 1, 4⟩
def lX : List RfI := [⟨0, 4, 0⟩, ⟨0, 2, 0⟩, ⟨0, 9, 0⟩]
theorem nx1 : nextR false 0 [rfX] = (rfX, true) := rfl
theorem nx2 : nextR true 1 lX = (⟨0, 2, 0⟩, true) := rfl
theorem rfi3 {w : World} {g : Nat} (h : BoxAt w g #[.int .u8 0, .int .i64 4, .int .u64 0, .int .u8 0, .int .i64 2, .int .u64 0, .int .u8 0, .int .i64 9, .int .u64 0]) : RdL RfIR 3 (fun j => j = g) w (some ⟨g, 0, none⟩) 3 lX := by
  refine ⟨rfl, fun _ => ⟨g, 0, rfl, rfl, h.lt, fun i x hx => ?_⟩⟩
  match i with
  | 0 => obtain rfl : (⟨0, 4, 0⟩ : RfI) = x := Option.some.inj hx
         exact ⟨_, rfl, rfl, fun j v hj => by match j with
                                              | 0 => rw [← Option.some.inj hj]; exact h.cell 0
                                              | 1 => rw [← Option.some.inj hj]; exact h.cell 1
                                              | 2 => rw [← Option.some.inj hj]; exact h.cell 2⟩
  | 1 => obtain rfl : (⟨0, 2, 0⟩ : RfI) = x := Option.some.inj hx
         exact ⟨_, rfl, rfl, fun j v hj => by match j with
                                              | 0 => rw [← Option.some.inj hj]; exact h.cell 3
                                              | 1 => rw [← Option.some.inj hj]; exact h.cell 4
                                              | 2 => rw [← Option.some.inj hj]; exact h.cell 5⟩
  | 2 => obtain rfl : (⟨0, 9, 0⟩ : RfI) = x := Option.some.inj hx
         exact ⟨_, rfl, rfl, fun j v hj => by match j with
                                              | 0 => rw [← Option.some.inj hj]; exact h.cell 6
                                              | 1 => rw [← Option.some.inj hj]; exact h.cell 7
                                              | 2 => rw [← Option.some.inj hj]; exact h.cell 8⟩
set_option maxRecDepth 100000 in
set_option maxHeartbeats 32000000 in
theorem scrubs_any {w : World} : Calls Tryz.prog 34 #[] w fun e w' => e = .returned (.bool true) ∧ Below w.heap.size w w' := by
  have hmd := made_m (w0 := w) (w := w) (k := 2) (m := 1) (n := 3) (Below.refl _ _) (by omega) (by omega) (by omega) (by omega) (by omega)
  have e0 : geoC ((2 : Nat) : Int) ((1 : Nat) : Int) ((3 : Nat) : Int) = #[.int .i64 2, .int .i64 1, .int .i64 3] := rfl
  rw [e0] at hmd
  clear e0
  go_enter Tryz.func34, Tryz.ntmps34
  go_wp2_with fail
  refine hmd.mono ?_
  clear hmd
  rintro e w1 ⟨a, cb, bf, rfl, hM, hb1⟩
  have HM1 := Lib.hid (show MX NoB w w1 a cb bf 2 1 3 (newS 3 3) from hM.sub fun j hj => hj.elim)
  clear hM hb1
  -- the name
  have bR := BoxAt.new w1 #[.int .u8 3, .int .i64 1, .int .u64 4] 38
  have hbR : Below w1.heap.size w1 (w1.alloc (.cells #[.int .u8 3, .int .i64 1, .int .u64 4] 38)) := (Below.refl _ _).alloc (Nat.le_refl _) _
  have hX0 := (HM1.out.below hbR)
  obtain ⟨wA, hwA⟩ : ∃ wA, w1.alloc (.cells #[.int .u8 3, .int .i64 1, .int .u64 4] 38) = wA := ⟨_, rfl⟩
  obtain ⟨q, hq⟩ : ∃ q, w1.heap.size = q := ⟨_, rfl⟩
  have hqA : q < wA.heap.size := by rw [← hwA, ← hq, World.size_alloc]; omega
  rw [hwA] at bR hX0
  rw [hq] at bR hX0
  have cA : wA.cell? ⟨q, 0, none⟩ = some (.int .u8 3) ∧ wA.cell? ⟨q, 1, none⟩ = some (.int .i64 1) ∧ wA.cell? ⟨q, 2, none⟩ = some (.int .u64 4) := ⟨bR.cell 0, bR.cell 1, bR.cell 2⟩
  have hkc := Lib.run_convert_bytes_const (P := Tryz.prog) wA 68 5 #[.int .u8 120] 1 1 (by kernel_rfl) (by kernel_rfl)
  have hr2 : RdL ByR 1 (fun j => wA.heap.size ≤ j) (wA.alloc (.cells #[.int .u8 120] 5 (1, 2))) (some ⟨wA.heap.size, 0, none⟩) 1 xX := marked_rd (w := wA) (t := 5) (m := (1, 2)) xX_byt (by decide)
  have hb2 : Below wA.heap.size wA (wA.alloc (.cells #[.int .u8 120] 5 (1, 2))) := (Below.refl _ _).alloc (Nat.le_refl _) _
  have hkc2 : (convert 68 68 (.slice (some ⟨wA.heap.size, 0, none⟩) 1 1)).run Tryz.prog (wA.alloc (.cells #[.int .u8 120] 5)) = .ok (.slice (some ⟨wA.heap.size, 0, none⟩) 1 1) (wA.alloc (.cells #[.int .u8 120] 5 (1, 2))) := hkc
  obtain ⟨w2, hw2⟩ : ∃ w2, wA.alloc (.cells #[.int .u8 120] 5 (1, 2)) = w2 := ⟨_, rfl⟩
  rw [hw2] at hr2 hb2 hkc2
  have HM2 := Lib.hid ((hX0.below' hb2).sub (Y := fun j => j = q) fun j hj => .inr (by omega))
  have bR2 := bR.below hb2
  have hpu := put_m HM2.out (r := rX) rX_ok (Lib.hid (by decide)) cache_new (c := 1) hr2 (Nat.le_refl _) (by decide)
  have eR : refC rX = #[.int .u8 3, .int .i64 1, .int .u64 4] := rfl
  rw [eR, live_new] at hpu
  have HPU := Lib.hid hpu
  clear hkc hr2 hb2 HM1 hbR bR hw2 hpu hX0 hqA
  have c0 : w2.cell? ⟨q, 0, none⟩ = some (.int .u8 3) ∧ w2.cell? ⟨q, 1, none⟩ = some (.int .i64 1) ∧ w2.cell? ⟨q, 2, none⟩ = some (.int .u64 4) := ⟨bR2.cell 0, bR2.cell 1, bR2.cell 2⟩
  go_wp2_with fail
  refine HPU.out.mono ?_
  clear HPU c0 cA hkc2 hwA hq HM2
  rintro e w3 ⟨rfl, hM3, hK3⟩
  have HM3 := Lib.hid (show MX (fun j => j = q) w w3 a cb bf 2 1 3 s1X from hM3)
  have bR3 := hK3.box bR2 rfl
  clear hM3 hK3 bR2
  have hf := fail_m HM3.out 2
  rw [if_pos (show (0 : Int) ≤ 2 ∧ (2 : Int) < (s1X.length : Nat) by decide +kernel)] at hf
  go_wp2_with fail
  refine hf.mono ?_
  clear hf HM3
  rintro e w4 ⟨rfl, hM4, hK4⟩
  have HM4 := Lib.hid hM4
  have bR4 := hK4.box bR3 rfl
  have hrp := repl_m HM4.out 2
  clear hM4 hK4 bR3
  go_wp2_with fail
  refine hrp.mono ?_
  clear hrp HM4
  rintro e w5 ⟨rfl, hM5, hK5⟩
  have HM5 := Lib.hid (show MX (fun j => j = q) w w5 a cb bf 2 1 3 s3X from hM5)
  have BR5 := Lib.hid (hK5.box bR4 rfl)
  have hsn := snew_any (w := w5)
  clear hM5 hK5 bR4
  go_wp2_with fail
  refine hsn.mono ?_
  clear hsn
  rintro e w6 ⟨s, rfl, hs5, bS, hb6⟩
  have hqs : q < s := by have := BR5.out.lt; omega
  have HM6 := Lib.hid ((HM5.out.below hb6).sub (Y := fun j => j = q ∨ j = s) (fun j hj => by
    rcases hj with h | h
    · exact .inl h
    · have := bS.lt; exact .inr (by omega)))
  have BR6 := Lib.hid (BR5.out.below hb6)
  have HS0 := Lib.hid (Nat.le_trans HM5.out.bel.size hs5)
  have BS6 := Lib.hid bS
  have HQS := Lib.hid hqs
  clear bS hb6 hs5 HM5 BR5 hqs
  have c6 : w6.cell? ⟨q, 0, none⟩ = some (.int .u8 3) ∧ w6.cell? ⟨q, 1, none⟩ = some (.int .i64 1) ∧ w6.cell? ⟨q, 2, none⟩ = some (.int .u64 4) := ⟨BR6.out.cell 0, BR6.out.cell 1, BR6.out.cell 2⟩
  have hb7 : Below w6.heap.size w6 (w6.alloc (.cells #[.int .u8 3, .int .i64 1, .int .u64 4] 38)) := (Below.refl _ _).alloc (Nat.le_refl _) _
  have hr7 : RdL RfIR 3 (fun _ => True) (w6.alloc (.cells #[.int .u8 3, .int .i64 1, .int .u64 4] 38)) (some ⟨w6.heap.size, 0, none⟩) 1 [rfX] := RdL.one RfIR.stable (S := NoB) (cs := #[.int .u8 3, .int .i64 1, .int .u64 4]) (y := rfX) rfl rfl
  have HOK4 := Lib.hid s4X_ok
  have hst := sstep_any (X := fun j => j = q) (sts1 := s4X) (cn := 1) (er := 0) (c := 1) (xs := [rfX]) (HM6.out.below' hb7) (BS6.out.below hb7) (by have := HQS.out; omega) HS0.out hr7 (by omega) (Nat.le_refl _) ⟨by omega, by omega⟩ rfl (fun _ st h => by have := s4X_cache st h; omega) (Lib.hid fun Y W hMW => by
    have hmm := mend_m (g := gX) (xs := xX) hMW rX_ok (Lib.hid (by decide)) xX_byt (by decide) (fun st h => by have := s3X_cache st h; omega) cX hX3
    rw [nX] at hmm
    exact hmm)
  rw [nx1, show (rfX, true).1.C = #[.int .u8 3, .int .i64 1, .int .u64 4] from rfl, show (rfX, true).1.place = 1 from rfl, show comeT false 0 0 (rfX, true).1 = 0 from rfl] at hst
  have HB7 := Lib.hid hb7
  clear hb7 hr7
  go_wp2_with fail
  refine hst.mono ?_
  clear hst c6
  rintro e w8 ⟨rfl, hM8, hK8, bS8⟩
  have HOK := HOK4
  have HM8 := Lib.hid (show MX (fun j => j = q ∨ j = s) w w8 a cb bf 2 1 3 (s4X.map flushG) from hM8)
  have BR8 := Lib.hid (hK8.box (BR6.out.below HB7.out) rfl)
  have BS8 := Lib.hid bS8
  clear hM8 hK8 bS8 HM6 BR6 BS6 HB7
  obtain ⟨wB, hwB⟩ : ∃ wB, w8.alloc (.cells #[.int .u8 3, .int .i64 1, .int .u64 4] 38) = wB := ⟨_, rfl⟩
  obtain ⟨p, hp⟩ : ∃ p, w8.heap.size = p := ⟨_, rfl⟩
  have hbB : Below w8.heap.size w8 wB := by rw [← hwB]; exact (Below.refl _ _).alloc (Nat.le_refl _) _
  have bP : BoxAt wB p #[.int .u8 3, .int .i64 1, .int .u64 4] := by rw [← hwB, ← hp]; exact BoxAt.new _ _ _
  have hpB : wB.heap.size = p + 1 := by rw [← hwB, World.size_alloc, hp]
  obtain ⟨wC, hwC⟩ : ∃ wC, wB.alloc (.cells #[.int .u8 0, .int .i64 4, .int .u64 0, .int .u8 0, .int .i64 2, .int .u64 0, .int .u8 0, .int .i64 9, .int .u64 0] 38) = wC := ⟨_, rfl⟩
  have hbC : Below wB.heap.size wB wC := by rw [← hwC]; exact (Below.refl _ _).alloc (Nat.le_refl _) _
  have hb8C : Below w8.heap.size w8 wC := hbB.trans (hbC.mono hbB.size)
  have bL : BoxAt wC (p + 1) #[.int .u8 0, .int .i64 4, .int .u64 0, .int .u8 0, .int .i64 2, .int .u64 0, .int .u8 0, .int .i64 9, .int .u64 0] := by rw [← hwC, ← hpB]; exact BoxAt.new _ _ _
  have hnx := snext_any (c := 3) (BS8.out.below hb8C) (rfi3 bL) (by omega) (Nat.le_refl _)
  rw [nx2, show ((⟨0, 2, 0⟩ : RfI), true).1.C = #[.int .u8 0, .int .i64 2, .int .u64 0] from rfl, show ((⟨0, 2, 0⟩ : RfI), true).2 = true from rfl] at hnx
  have BRC := Lib.hid (BR8.out.below hb8C)
  have BSC := Lib.hid (BS8.out.below hb8C)
  have BPC := Lib.hid (bP.below hbC)
  have HMC := Lib.hid (HM8.out.below' hb8C)
  have c8 : w8.cell? ⟨q, 0, none⟩ = some (.int .u8 3) ∧ w8.cell? ⟨q, 1, none⟩ = some (.int .i64 1) ∧ w8.cell? ⟨q, 2, none⟩ = some (.int .u64 4) := ⟨BR8.out.cell 0, BR8.out.cell 1, BR8.out.cell 2⟩
  clear hbB bP hbC hb8C bL HM8 BR8 BS8
  go_wp2_with fail
  refine hnx.mono ?_
  clear hnx hwB hp hwC hpB c8
  rintro e wD ⟨rfl, hbD⟩
  have BRD := Lib.hid (BRC.out.below hbD)
  have BPD := Lib.hid (BPC.out.below hbD)
  have BSD := Lib.hid (BSC.out.below hbD)
  have HMD := Lib.hid (HMC.out.below' hbD)
  obtain ⟨wE, hwE⟩ : ∃ wE, wD.alloc (.cells #[.int .u8 0, .int .i64 2, .int .u64 0] 38) = wE := ⟨_, rfl⟩
  obtain ⟨y, hy⟩ : ∃ y, wD.heap.size = y := ⟨_, rfl⟩
  have hbE : Below wD.heap.size wD wE := by rw [← hwE]; exact (Below.refl _ _).alloc (Nat.le_refl _) _
  have bY : BoxAt wE y #[.int .u8 0, .int .i64 2, .int .u64 0] := by rw [← hwE, ← hy]; exact BoxAt.new _ _ _
  have BRE := Lib.hid (BRD.out.below hbE)
  have BPE := Lib.hid (BPD.out.below hbE)
  have BSE := Lib.hid (BSD.out.below hbE)
  have HME := Lib.hid (HMD.out.below' hbE)
  have BYE := Lib.hid bY
  have cE : wD.cell? ⟨q, 0, none⟩ = some (.int .u8 3) ∧ wD.cell? ⟨q, 1, none⟩ = some (.int .i64 1) ∧ wD.cell? ⟨q, 2, none⟩ = some (.int .u64 4) := ⟨BRD.out.cell 0, BRD.out.cell 1, BRD.out.cell 2⟩
  have cP : wD.cell? ⟨p, 0, none⟩ = some (.int .u8 3) ∧ wD.cell? ⟨p, 1, none⟩ = some (.int .i64 1) ∧ wD.cell? ⟨p, 2, none⟩ = some (.int .u64 4) := ⟨BPD.out.cell 0, BPD.out.cell 1, BPD.out.cell 2⟩
  have hqD := BRD.out.lt
  have hpD := BPD.out.lt
  have hms := missing_any (r := rfX) (g := fun _ => true) (N := 3) HME.out.cnt (HME.out.whc (r := rX) (xs := xX) (rf := rfX) rX_ok (Lib.hid (by decide)) xX_byt (by decide) (hX5 HOK.out) rfl rfl) (by omega)
  rw [show rfX.C = #[.int .u8 3, .int .i64 1, .int .u64 4] from rfl, show (missL (fun _ => true) 3).length = 0 from rfl] at hms
  subst hwE; subst hy
  clear hbD hbE bY BRC BPC BSC HMC BRD BPD BSD HMD
  go_wp2_with fail
  refine hms.mono ?_
  clear hms
  rintro e wF ⟨rfl, hbF⟩
  have hbY := BYE.out.below hbF
  have cY : wF.cell? ⟨wD.heap.size, 1, none⟩ = some (.int .i64 2) := hbY.cell 1
  have htu := sturns_any (BSE.out.below hbF)
  have HBF := Lib.hid (HME.out.below' hbF).bel
  clear hbY hbF cE cP
  go_wp2_with fail
  refine htu.mono ?_
  clear htu
  rintro e wG ⟨rfl, hG⟩
  subst hG
  go_wp2_with fail
  go_ret
  exact ⟨rfl, HBF.out⟩
end
section
/-- The scrubber behind i steps over L stripes. -/
def scS (L i : Nat) : Array Value := if i = 0 then scrC false 0 0 else scrC true (((i - 1) % L : Nat) : Int) (((i - 1) / L : Nat) : Int)
theorem mod_next (L i : Nat) (h : 0 < i) : ((i - 1) % L + 1) % L = i % L := by rw [Nat.mod_add_mod, Nat.sub_add_cancel h]
theorem turn_next {L i : Nat} (hL : 1 ≤ L) (h : 0 < i) : (i % L ≤ (i - 1) % L → i / L = (i - 1) / L + 1) ∧ (¬ i % L ≤ (i - 1) % L → i / L = (i - 1) / L) := by
  have h1 := Nat.div_add_mod i L
  have h2 := Nat.div_add_mod (i - 1) L
  have h3 := mod_next L i h
  have h4 := Nat.mod_lt (i - 1) (show L > 0 by omega)
  by_cases e : (i - 1) % L + 1 = L
  · rw [e, Nat.mod_self] at h3
    rw [← h3] at h1 ⊢
    have h5 : L * ((i - 1) / L + 1) = L * (i / L) := by rw [Nat.mul_add, Nat.mul_one]; omega
    have h6 := Nat.eq_of_mul_eq_mul_left (show 0 < L by omega) h5
    exact ⟨fun _ => h6.symm, fun h => absurd (Nat.zero_le _) h⟩
  · rw [Nat.mod_eq_of_lt (by omega)] at h3
    rw [← h3] at h1 ⊢
    have h5 : L * ((i - 1) / L) = L * (i / L) := by omega
    have h6 := Nat.eq_of_mul_eq_mul_left (show 0 < L by omega) h5
    exact ⟨fun h => by omega, fun _ => h6.symm⟩
/-- A step where all is whole: the next one, and nothing changes. -/
theorem sstep_whole {X : Nat → Prop} {w0 w : World} {a cb bf k m n : Nat} {sts : List DSt} {ps : List Pt} {s i L : Nat} {S : Nat → Prop} {A : Option Addr} {c : Nat} {xs : List RfI}
    (hM : MX (fun j => X j ∨ j = s) w0 w a cb bf k m n sts) (hs : BoxAt w s (scS L i)) (hsX : ¬ X s) (hs0 : w0.heap.size ≤ s) (R : RdL RfIR 3 S w A L xs) (hLc : L ≤ c) (hL : 1 ≤ L) (hL2 : L ≤ 600) (hi : i ≤ 1000)
    (hx : Around (ptR ps) L xs) (hpl : ps.length = L) (hp : PtOk k n ps) (hq : Qt n (k + m) sts) (hv : Vws k (k + m) ps (fun _ _ => true) sts) :
    Calls Tryz.prog 38 #[.pointer (some ⟨s, 0, none⟩), .pointer (some ⟨a, 0, none⟩), .pointer (some ⟨cb, 0, none⟩), .slice A L c] w fun e w' =>
      e = .returned (.tuple #[.agg (ptR ps (i % L)).C, .int .i64 0, .int .i64 0]) ∧ MX (fun j => X j ∨ j = s) w0 w' a cb bf k m n sts ∧ KpX X w w' ∧ BoxAt w' s (scS L (i + 1)) := by
  have hml := Nat.mod_lt i (show L > 0 by omega)
  obtain ⟨p, hpi⟩ : ∃ p, ps[i % L]? = some p := ⟨_, List.getElem?_eq_getElem (by omega)⟩
  have key : ∀ {began : Bool} {place turns : Int}, BoxAt w s (scrC began place turns) → 0 ≤ turns ∧ turns < 1000000 → nextR began place xs = (ptR ps (i % L), true) → comeT began place turns (ptR ps (i % L)) = ((i / L : Nat) : Int) → Calls Tryz.prog 38 #[.pointer (some ⟨s, 0, none⟩), .pointer (some ⟨a, 0, none⟩), .pointer (some ⟨cb, 0, none⟩), .slice A L c] w fun e w' =>
      e = .returned (.tuple #[.agg (ptR ps (i % L)).C, .int .i64 0, .int .i64 0]) ∧ MX (fun j => X j ∨ j = s) w0 w' a cb bf k m n sts ∧ KpX X w w' ∧ BoxAt w' s (scS L (i + 1)) := by
    intro began place turns hb ht hn hc
    have hst := sstep_any (X := X) (sts1 := sts) (cn := 0) (er := 0) (c := c) hM hb hsX hs0 R (by omega) hLc ht (by rw [hn]) (fun _ => hq.cache (by omega)) (Lib.hid fun Y W hMW => by
      have hmm := mend_m (g := fun _ => true) (xs := p.2) hMW (hp.ref hpi) (hp.hgen hpi) (hp.byt p (List.mem_of_getElem? hpi)) (hp.sz p (List.mem_of_getElem? hpi)) (hq.cache (by omega)) (by rw [cntP_all]; omega) (hv _ p hpi)
      have hc0 : cntP (fun d => !((fun _ : Nat => true) d) && !deadL sts d) (k + m) = 0 := by
        rw [← cntP_none (k + m)]
        exact cntP_congr fun d _ => rfl
      rw [hc0, mend_none] at hmm
      rw [hn]
      show Calls _ _ #[_, _, .agg (ptR ps (i % L)).C] _ _
      rw [ptR_C hpi]
      exact hmm)
    rw [hn] at hst
    dsimp only at hst
    rw [hc, show stepQ 0 sts = sts by unfold stepQ; rw [if_pos rfl, hq.same]] at hst
    have e : scS L (i + 1) = scrC true (ptR ps (i % L)).place ((i / L : Nat) : Int) := by unfold scS; rw [if_neg (by omega), Nat.add_sub_cancel]; rfl
    rw [e]
    exact hst
  by_cases h0 : i = 0
  · subst h0
    unfold scS at hs
    rw [if_pos rfl] at hs
    rw [Nat.zero_mod] at key ⊢
    refine key hs ⟨by omega, by omega⟩ (hx.next hL (.inl ⟨rfl, rfl⟩)) ?_
    unfold comeT
    rw [if_neg (by simp), Nat.zero_div]
    rfl
  · unfold scS at hs
    rw [if_neg h0] at hs
    have hd := Nat.div_le_self (i - 1) L
    have h9 : ∀ t : Nat, t ≤ i - 1 → 0 ≤ (t : Int) ∧ (t : Int) < 1000000 := fun t h => by omega
    refine key hs (h9 _ hd) (hx.next hL (.inr ⟨(i - 1) % L, rfl, rfl, Nat.mod_lt _ (by omega), (mod_next L i (by omega)).symm⟩)) ?_
    obtain ⟨t1, t2⟩ := turn_next hL (show 0 < i by omega)
    unfold comeT
    rw [show (ptR ps (i % L)).place = ((i % L : Nat) : Int) from rfl]
    by_cases hle : i % L ≤ (i - 1) % L
    · rw [if_pos ⟨rfl, by omega⟩, t1 hle]; push_cast; rfl
    · rw [if_neg (fun h => hle (by have := h.2; omega)), t2 hle]
end
section
theorem run_max_s (ts : Array TypeId) (t : TypeId) (x y : Int) (w : World) : (Builtin.max_ ts t #[.int .i64 x, .int .i64 y]).run Tryz.prog w = .ok (.int .i64 (max x y)) w := run_max_l ts t x y w
theorem run_min_s (ts : Array TypeId) (t : TypeId) (x y : Int) (w : World) : (Builtin.min_ ts t #[.int .i64 x, .int .i64 y]).run Tryz.prog w = .ok (.int .i64 (min x y)) w := by
  rw [run_min_int2, show (if y < x then y else x) = min x y by omega]
attribute [local go_sem ↓] run_max_s run_min_s
theorem ptOk_small {k s : Nat} {ps : List Pt} (hs : s ≤ 8) (h : smallP k (s : Int) ps = true) (hg : ∀ p ∈ ps, p.1 < 2 ^ 64) (hb : ∀ p ∈ ps, Byt p.2) : PtOk k s ps := by
  obtain ⟨_, h2, h3⟩ := smallP_ok hs h
  exact ⟨h2, hg, hb, h3⟩
theorem pt_byt {S : Nat → Prop} {w : World} {A : Option Addr} {L : Nat} {ps : List Pt} (R : RdL PtR 2 S w A L ps) : ∀ p ∈ ps, Byt p.2 := fun p hp => by
  obtain ⟨i, hi⟩ := List.getElem?_of_mem hp
  have hl : i < L := by rw [← R.1]; exact (List.getElem?_eq_some_iff.1 hi).1
  obtain ⟨b, o, x, A2, n, c, _, hx, _, _, _, _, _, hr⟩ := pt_at R hl
  rw [hi] at hx
  obtain rfl := Option.some.inj hx
  exact by_byt hr
set_option maxRecDepth 100000 in
set_option maxHeartbeats 64000000 in
theorem turns_any {w : World} {k m s steps swap : Int} {A1 : Option Addr} {L c1 : Nat} {ps : List Pt} (R1 : Hid (RdL PtR 2 (fun _ => True) w A1 L ps)) (hc1 : L ≤ c1) :
    Calls Tryz.prog 6 #[.agg (geoC k m s), .slice A1 L c1, .int .i64 steps, .int .i64 swap] w fun e w' => e = .returned (.bool true) ∧ Below w.heap.size w w' := by
  have hsm := fun w => small_any (w := w) k m s
  have bG := BoxAt.new w (geoC k m s) 23
  have hb0 : Below w.heap.size w (w.alloc (.cells (geoC k m s) 23)) := (Below.refl _ _).alloc (Nat.le_refl _) _
  obtain ⟨q, hq⟩ : ∃ q, w.heap.size = q := ⟨_, rfl⟩
  go_enter Tryz.func6, Tryz.ntmps6
  unfold geoC at hsm bG hb0 ⊢
  go_wp2_with fail
  obtain ⟨wA, hwA⟩ : ∃ wA, w.alloc (.cells #[.int .i64 k, .int .i64 m, .int .i64 s] 23) = wA := ⟨_, rfl⟩
  rw [hwA] at bG hb0 ⊢
  have HB0 := Lib.hid hb0
  rw [hq] at bG
  clear hwA hq hb0
  cases hs : smallB k m s with
  | false =>
    rw [hs] at hsm
    refine (hsm _).mono ?_
    clear hsm
    rintro e w1 ⟨rfl, hb1⟩
    have HB1 := Lib.hid (HB0.out.trans (hb1.mono HB0.out.size))
    go_wp2_with fail
    refine scrubs_any.mono ?_
    rintro e wz ⟨rfl, hbz⟩
    go_wp2_with fail
    go_ret
    exact ⟨rfl, HB1.out.trans (hbz.mono HB1.out.size)⟩
  | true =>
    rw [hs] at hsm
    refine (hsm _).mono ?_
    clear hsm
    rintro e w1 ⟨rfl, hb1⟩
    obtain ⟨k, m, s, rfl, rfl, rfl, k1, m1, km, s1, s8⟩ := small_nat hs
    clear hs
    have HB1 := Lib.hid (HB0.out.trans (hb1.mono HB0.out.size))
    have bG1 := bG.below hb1
    have c1g : w1.cell? ⟨q, 0, none⟩ = some (.int .i64 (k : Int)) ∧ w1.cell? ⟨q, 1, none⟩ = some (.int .i64 (m : Int)) ∧ w1.cell? ⟨q, 2, none⟩ = some (.int .i64 (s : Int)) := ⟨bG1.cell 0, bG1.cell 1, bG1.cell 2⟩
    have hss := ssmall_any (k := k) (m := m) (s := s) (c := c1) (R1.out.below PtR.stable HB1.out) (by omega)
    have BG1 := Lib.hid bG1
    have HBY := Lib.hid (pt_byt R1.out)
    unfold geoC at hss
    clear hb1 bG HB0 bG1
    cases hsp : smallP k (s : Int) ps with
    | false =>
      rw [hsp] at hss
      go_wp2_with fail
      refine hss.mono ?_
      clear hss c1g
      rintro e w2 ⟨rfl, hb2⟩
      have HB2 := Lib.hid (HB1.out.trans (hb2.mono HB1.out.size))
      go_wp2_with fail
      refine scrubs_any.mono ?_
      rintro e wz ⟨rfl, hbz⟩
      go_wp2_with fail
      go_ret
      exact ⟨rfl, HB2.out.trans (hbz.mono HB2.out.size)⟩
    | true =>
      rw [hsp] at hss
      have HPT := Lib.hid (ptOk_small s8 hsp (pt_gen R1.out) HBY.out)
      obtain ⟨l1, l2, _⟩ := smallP_ok s8 hsp
      rw [R1.out.1] at l1 l2
      clear hsp
      go_wp2_with fail
      refine hss.mono ?_
      clear hss c1g
      rintro e w2 ⟨rfl, hb2⟩
      have HB2 := Lib.hid (HB1.out.trans (hb2.mono HB1.out.size))
      have BG2 := Lib.hid (BG1.out.below hb2)
      clear hb2 BG1
      by_cases g1 : steps < 0
      · go_wp2_with fail
        refine scrubs_any.mono ?_
        rintro e wz ⟨rfl, hbz⟩
        go_wp2_with fail
        go_ret
        exact ⟨rfl, HB2.out.trans (hbz.mono HB2.out.size)⟩
      by_cases g2 : steps > 60
      · go_wp2_with fail
        refine scrubs_any.mono ?_
        rintro e wz ⟨rfl, hbz⟩
        go_wp2_with fail
        go_ret
        exact ⟨rfl, HB2.out.trans (hbz.mono HB2.out.size)⟩
      obtain ⟨st, rfl⟩ : ∃ st : Nat, steps = (st : Int) := ⟨steps.toNat, by omega⟩
      have hmd := made_m (w0 := w2) (w := w2) (k := k) (m := m) (n := s) (Below.refl _ _) k1 m1 (by omega) s1 (by omega)
      have c2g : w2.cell? ⟨q, 0, none⟩ = some (.int .i64 (k : Int)) ∧ w2.cell? ⟨q, 1, none⟩ = some (.int .i64 (m : Int)) ∧ w2.cell? ⟨q, 2, none⟩ = some (.int .i64 (s : Int)) := ⟨BG2.out.cell 0, BG2.out.cell 1, BG2.out.cell 2⟩
      unfold geoC at hmd
      go_wp2_with fail
      refine hmd.mono ?_
      clear hmd c2g
      rintro e w3 ⟨a, cb, bf, rfl, hM3, hb3⟩
      have hR3 := RdL.bound PtR.stable (R1.out.below PtR.stable HB2.out)
      have hla := laid_any (c := c1) hM3 (hR3.below PtR.stable hb3) (fun j hj => hj.2) HPT.out
      have HB3 := Lib.hid (HB2.out.trans (hb3.mono HB2.out.size))
      clear hM3 hb3 hR3 BG2
      go_wp2_with fail
      refine hla.mono ?_
      clear hla
      rintro e w4 ⟨A4, c4, sts, rfl, hc4, hM4, hK4, hR4, hQ4, _, hV4⟩
      have HM4 := Lib.hid hM4
      have HR4 := Lib.hid hR4
      have HQ4 := Lib.hid hQ4
      have HV4 := Lib.hid hV4
      have e1 : ((L : Int) != (L : Int)) = false := by simp
      clear hM4 hK4 hR4 hQ4 hV4
      obtain ⟨t, ht⟩ : ∃ t : Nat, max 0 (min swap ((L : Int) - 1)) = (t : Int) := ⟨(max 0 (min swap ((L : Int) - 1))).toNat, by omega⟩
      have htl : t ≤ L - 1 := by omega
      have q0 : (L : Int) ≤ 8 := by omega
      have q1 : (1 : Int) ≤ (L : Int) := by omega
      obtain ⟨b4, o4, rfl, hb4X, hb4⟩ := HR4.out.addr (show 0 < L by omega)
      have t0 : (0 : Int) ≤ (t : Int) := by omega
      have t1 : (t : Int) ≤ (L : Int) := by omega
      have t2 : t ≤ L := by omega
      have t3 : t ≤ c4 := by omega
      have t4 : ¬ c4 = t := by omega
      have HT := Lib.hid ht
      go_wp2_with fail
      clear ht
      have hb0 : Below w4.heap.size w4 (w4.drew.alloc (.cells #[] 38)) := ((Below.refl _ _).drew).alloc (Nat.le_refl _) _
      have HO0 := Lib.hid (show OwnL RfIR 38 3 w4.heap.size NoB (w4.drew.alloc (.cells #[] 38)) (.slice (some ⟨w4.heap.size, 0, none⟩) 0 0) 0 [] from OwnL.made #[] 0 (Nat.le_refl _) (by unfold maxLen; omega) rfl)
      have HD0 := Lib.hid (HR4.out.below RfIR.stable hb0)
      have HB0 := Lib.hid hb0
      have hs0 := hb0.size
      clear hb0
      refine wp_region_held_drew (S := fun w' => True) (by kernel_rfl) (trivial) (fun hHeld => ?_)
      refine wpAnyH_take (i := 1) (v := ?_) rfl (by kernel_rfl) (by kernel_rfl) (by kernel_rfl) (fun _ _ _ h => h) (Or.inl ⟨by first | kernel_rfl | rfl, ?_⟩) (by assumption) ?_
      rotate_left
      · (intro wq hSw; (try dsimp only at hSw); (try simp (maxSteps := 2000000) only [zz1, zz2, zz3]); go_simp); try with_reducible rfl
      try simp (maxSteps := 2000000) only [zz1, zz2, zz3, Act.put, zz4, zz5, zz6]
      refine wpAnyH_take (i := 2) (v := ?_) rfl (by kernel_rfl) (by kernel_rfl) (by kernel_rfl) (fun _ _ _ h => h) (Or.inl ⟨by first | kernel_rfl | rfl, ?_⟩) (by assumption) ?_
      rotate_left
      · (intro wq hSw; (try dsimp only at hSw); (try simp (maxSteps := 2000000) only [zz1, zz2, zz3]); go_simp); try with_reducible rfl
      try simp (maxSteps := 2000000) only [zz1, zz2, zz3, Act.put, zz4, zz5, zz6]
      refine wpAnyH_take (i := 3) (v := ?_) rfl (by kernel_rfl) (by kernel_rfl) (by kernel_rfl) (fun _ _ _ h => h) (Or.inl ⟨by first | kernel_rfl | rfl, ?_⟩) (by assumption) ?_
      rotate_left
      · (intro wq hSw; (try dsimp only at hSw); (try simp (maxSteps := 2000000) only [zz1, zz2, zz3]); go_simp); try with_reducible rfl
      try simp (maxSteps := 2000000) only [zz1, zz2, zz3, Act.put, zz4, zz5, zz6]
      refine wpAnyH_take (i := 5) (v := ?_) rfl (by kernel_rfl) (by kernel_rfl) (by kernel_rfl) (fun _ _ _ h => h) (Or.inl ⟨by first | kernel_rfl | rfl, ?_⟩) (by assumption) ?_
      rotate_left
      · (intro wq hSw; (try dsimp only at hSw); (try simp (maxSteps := 2000000) only [zz1, zz2, zz3]); go_simp); try with_reducible rfl
      try simp (maxSteps := 2000000) only [zz1, zz2, zz3, Act.put, zz4, zz5, zz6]
      refine wpAnyH_take (i := 6) (v := ?_) rfl (by kernel_rfl) (by kernel_rfl) (by kernel_rfl) (fun _ _ _ h => h) (Or.inl ⟨by first | kernel_rfl | rfl, ?_⟩) (by assumption) ?_
      rotate_left
      · (intro wq hSw; (try dsimp only at hSw); (try simp (maxSteps := 2000000) only [zz1, zz2, zz3]); go_simp); try with_reducible rfl
      try simp (maxSteps := 2000000) only [zz1, zz2, zz3, Act.put, zz4, zz5, zz6]
      refine wpAnyH_take (i := 7) (v := ?_) rfl (by kernel_rfl) (by kernel_rfl) (by kernel_rfl) (fun _ _ _ h => h) (Or.inl ⟨by first | kernel_rfl | rfl, ?_⟩) (by assumption) ?_
      rotate_left
      · (intro wq hSw; (try dsimp only at hSw); (try simp (maxSteps := 2000000) only [zz1, zz2, zz3]); go_simp); try with_reducible rfl
      try simp (maxSteps := 2000000) only [zz1, zz2, zz3, Act.put, zz4, zz5, zz6]
      refine wpAnyH_ready (rs := [0]) (by kernel_rfl) (by simp) ?_
      refine AllReadyH.cons rfl (fun K hK => ?_) AllReadyH.nil
      try simp (maxSteps := 2000000) only [zz1, zz2, zz3]
      go_simp
      refine hK.out _ _ (trivial) (fun hHeld => ?_)
      clear hK K
      try simp (maxSteps := 2000000) only [zz1, zz2, zz3, Act.put, zz4, zz5, zz6]
      refine wpAnyH_ready (rs := [4]) (by kernel_rfl) (by simp) ?_
      refine AllReadyH.cons rfl (fun K hK => ?_) AllReadyH.nil
      refine step_law (by rfl) (wpList_appL RfIR.stable RfIR.one sl_rfi (by rfl) (by rfl) (base := w4.heap.size) (S := NoB) (n := 0) (by rfl) HO0.out (by rfl) (RdL.drop HD0.out t2) (fun _ _ h => h) (by unfold maxLen; omega) (by omega) hs0 ?_)
      intro A5 c5 w5 hc5 hown hg5 hat
      refine ⟨rfl, ?_⟩
      have hb5 : Below w4.heap.size w4 w5 := HB0.out.grown hg5 hs0 (fun j hj => (HO0.out.lt j hj).1)
      have HO5 := Lib.hid hown
      have HD5 := Lib.hid (HR4.out.below RfIR.stable hb5)
      have HB5 := Lib.hid hb5
      have hs5 := hb5.size
      clear hown hg5 hat hb5
      refine hK.out _ _ (trivial) (fun hHeld => ?_)
      clear hK K
      try simp (maxSteps := 2000000) only [zz1, zz2, zz3, Act.put, zz4, zz5, zz6]
      refine wpAnyH_ready (rs := [8]) (by kernel_rfl) (by simp) ?_
      refine AllReadyH.cons rfl (fun K hK => ?_) AllReadyH.nil
      refine step_law (by rfl) (wpList_appL RfIR.stable RfIR.one sl_rfi (by rfl) (by rfl) (base := w4.heap.size) (S := NoB) (by rfl) HO5.out (by rfl) (RdL.take HD5.out t2) (fun _ _ h => h) (by unfold maxLen; omega) (by omega) hs5 ?_)
      intro A6 c6 w6 hc6 hown hg6 hat
      refine ⟨rfl, ?_⟩
      have hb6 : Below w4.heap.size w4 w6 := HB5.out.grown hg6 hs5 (fun j hj => (HO5.out.lt j hj).1)
      rw [show 0 + (L - t) + t = L by omega, List.nil_append] at hown
      have HO6 := Lib.hid hown
      have HC6 := Lib.hid (show L ≤ c6 by omega)
      have HB6 := Lib.hid hb6
      clear hown hg6 hat hb6
      refine hK.out _ _ (trivial) (fun hHeld => ?_)
      clear hK K
      try simp (maxSteps := 2000000) only [zz1, zz2, zz3, Act.put, zz4, zz5, zz6]
      refine wpAnyH_take (i := 9) (v := ?_) rfl (by kernel_rfl) (by kernel_rfl) (by kernel_rfl) (fun _ _ _ h => h) (Or.inl ⟨by first | kernel_rfl | rfl, ?_⟩) (by assumption) ?_
      rotate_left
      · (intro wq hSw; (try dsimp only at hSw); (try simp (maxSteps := 2000000) only [zz1, zz2, zz3]); go_simp); try with_reducible rfl
      try simp (maxSteps := 2000000) only [zz1, zz2, zz3, Act.put, zz4, zz5, zz6]
      refine wpAnyH_done (by kernel_rfl) ?_ _
      clear HO0 HD0 HB0 hs0 HO5 HD5 HB5 hs5 hHeld
      obtain ⟨A', c', e6, _, hr6⟩ := OwnL.rd (S' := fun j => w4.heap.size ≤ j ∧ True) HO6.out (fun j hj => ⟨hj, trivial⟩) (fun cs x hx => hx)
      injection e6 with e61 _ e62
      subst e61; subst e62
      have HR6 := Lib.hid (RdL.bound RfIR.stable hr6)
      have hsn := snew_any (w := w6)
      have HM6 := Lib.hid (HM4.out.below HB6.out)
      have HR46 := Lib.hid (HR4.out.below RfIR.stable HB6.out)
      have hc6 := HC6.out
      clear hr6 HO6 HM4 HR4 hb4X hb4 t0 t1 t3 t4 HC6
      go_wp2_with fail
      refine hsn.mono ?_
      clear hsn
      rintro e w7 ⟨sc, rfl, hs6, bS, hb7⟩
      obtain ⟨X, hX⟩ : ∃ X : Nat → Prop, (fun j => (j < w2.heap.size ∨ RwX (.slice (some ⟨b4, o4, none⟩) L c4) j) ∨ (w4.heap.size ≤ j ∧ j < w6.heap.size)) = X := ⟨_, rfl⟩
      have hXs : ∀ j, X j → j < w6.heap.size := by rw [← hX]; exact fun j hj => HM6.out.lt hj
      have HM7 := Lib.hid ((HM6.out.below hb7).sub (Y := fun j => X j ∨ j = sc) (fun j hj => by
        rcases hj with h | h
        · rw [← hX] at h; exact .inl h
        · have := bS.lt; exact .inr (by omega)))
      have HX4 := Lib.hid (show ∀ j, RwX (.slice (some ⟨b4, o4, none⟩) L c4) j → X j by rw [← hX]; exact fun j hj => .inl (.inr hj))
      have HX6 := Lib.hid (show ∀ j, (w4.heap.size ≤ j ∧ True) ∧ j < w6.heap.size → X j by rw [← hX]; exact fun j hj => .inr ⟨hj.1.1, hj.2⟩)
      have HSX := Lib.hid (show ¬ X sc from fun h => by have := hXs sc h; omega)
      have HS0 := Lib.hid (show w2.heap.size ≤ sc from Nat.le_trans (HM6.out.bel.size) hs6)
      have HR47 := Lib.hid (HR46.out.below RfIR.stable hb7)
      have HR7 := Lib.hid (HR6.out.below RfIR.stable hb7)
      have BS7 := Lib.hid (show BoxAt w7 sc (scS L 0) from bS)
      clear hs6 bS hb7 hX hXs HM6 HR46 HR6
      go_wp2_with fail
      go_loopw [15] (fun vi wr => ∃ i : Nat, i ≤ st ∧ vi = .int .i64 i ∧ Hid (MX (fun j => X j ∨ j = sc) w2 wr a cb bf k m s sts) ∧ Hid (KpX X w7 wr) ∧ Hid (BoxAt wr sc (scS L i))) (fun vi _ => st - (intOf vi).toNat)
      case atStart => exact ⟨0, Nat.zero_le _, rfl, HM7, Lib.hid KpX.refl, BS7⟩
      case round =>
        clear HM7 BS7
        obtain ⟨i, hi, rfl, HM, HK, HB⟩ := hrel
        have p0 : (0 : Int) ≤ (i : Int) := Int.natCast_nonneg _
        by_cases hlt : i < st
        · have p1 : (i : Int) < (st : Int) := by omega
          have hst := sstep_whole (c := c6) HM.out HB.out HSX.out HS0.out (HK.out.rd RfIR.stable HR7.out HX6.out) hc6 (by omega) (by omega) (by omega) (by have := around_turn ps (q := t) (by rw [R1.out.1]; exact t2); rw [R1.out.1] at this; exact this) R1.out.1 HPT.out HQ4.out HV4.out
          obtain ⟨r, hr⟩ : ∃ r, i % L = r := ⟨_, rfl⟩
          have hrl : r < L := by rw [← hr]; exact Nat.mod_lt _ (by omega)
          rw [hr] at hst
          have HMD := Lib.hid hr
          obtain ⟨x, hxe⟩ : ∃ x, ptR ps r = x := ⟨_, rfl⟩
          have hx3 : x.kind = 3 ∧ x.place = (r : Int) := by rw [← hxe]; exact ⟨rfl, rfl⟩
          rw [hxe] at hst
          have HXE := Lib.hid hxe
          obtain ⟨xk, xp, xg⟩ := x
          obtain ⟨rfl, rfl⟩ := hx3
          unfold RfI.C at hst
          dsimp only at hst
          clear hr hxe
          go_wp2_with fail
          refine hst.mono ?_
          clear hst
          rintro e w8 ⟨rfl, hM8, hK8, hB8⟩
          obtain ⟨D, hD⟩ : ∃ D, i / L = D := ⟨_, rfl⟩
          have e8 : scS L (i + 1) = scrC true (r : Int) (D : Int) := by unfold scS; rw [if_neg (by omega), Nat.add_sub_cancel, HMD.out, hD]
          have d2 : D ≤ 60 := by have := Nat.div_le_self i L; omega
          have d1 : (D : Int) ≤ 60 := by omega
          have d0 : (0 : Int) ≤ (D : Int) := by omega
          have HK8 := Lib.hid (HK.out.trans (hK8.mono fun j hj => hj))
          have HM8 := Lib.hid hM8
          have HB8 := Lib.hid hB8
          rw [e8] at hB8
          obtain ⟨b5, o5, x, e5, hx, hbl, _, x0, x1, x2⟩ := rfi_at (HK8.out.rd RfIR.stable HR47.out HX4.out) hrl
          injection e5 with e5
          injection e5 with e51 e52 _
          subst e51; subst e52
          rw [ptRs_at ps (by rw [R1.out.1]; exact hrl)] at hx
          rw [HXE.out] at hx
          obtain rfl := Option.some.inj hx
          dsimp only at x0 x1 x2
          obtain ⟨W, hW⟩ : ∃ W, w8.alloc (.cells #[.int .u8 3, .int .i64 (r : Int), .int .u64 xg] 38) = W := ⟨_, rfl⟩
          obtain ⟨y, hy⟩ : ∃ y, w8.heap.size = y := ⟨_, rfl⟩
          have hbW : Below w8.heap.size w8 W := by rw [← hW]; exact (Below.refl _ _).alloc (Nat.le_refl _) _
          have bY : BoxAt W y #[.int .u8 3, .int .i64 (r : Int), .int .u64 xg] := by rw [← hW, ← hy]; exact BoxAt.new _ _ _
          have y0 : W.cell? ⟨y, 0, none⟩ = some (.int .u8 3) := bY.cell 0
          have y1 : W.cell? ⟨y, 1, none⟩ = some (.int .i64 (r : Int)) := bY.cell 1
          have y2 : W.cell? ⟨y, 2, none⟩ = some (.int .u64 xg) := bY.cell 2
          have v0 : W.cell? ⟨b4, o4 + r * 3, none⟩ = some (.int .u8 3) := (hbW.cell (p := ⟨b4, _, none⟩) hbl).trans x0
          have v1 : W.cell? ⟨b4, o4 + r * 3 + 1, none⟩ = some (.int .i64 (r : Int)) := (hbW.cell (p := ⟨b4, _, none⟩) hbl).trans x1
          have v2 : W.cell? ⟨b4, o4 + r * 3 + 2, none⟩ = some (.int .u64 xg) := (hbW.cell (p := ⟨b4, _, none⟩) hbl).trans x2
          have hyW := bY.lt
          have hbW4 : b4 < W.heap.size := Nat.lt_of_lt_of_le hbl hbW.size
          have htu := fun (z : Later W.heap.size W) => (sturns_any ((hB8.below hbW).below z.ok)).mono (fun e w' (h : e = .returned (.int .i64 (D : Int)) ∧ w' = z.to) => (⟨h.1, h.2 ▸ Below.refl _ _⟩ : e = .returned (.int .i64 (D : Int)) ∧ Below z.to.heap.size z.to w'))
          have m1 : Int.tmod (i : Int) (L : Int) = (r : Int) := by rw [Int.tmod_eq_emod_of_nonneg p0, ← HMD.out]; rfl
          have m2 : Int.tdiv (i : Int) (L : Int) = (D : Int) := by rw [Int.tdiv_eq_ediv_of_nonneg p0, ← hD]; rfl
          have r0 : (0 : Int) ≤ (r : Int) := by omega
          have r1 : (r : Int) < (L : Int) := by omega
          have l0 : ¬ L = 0 := by omega
          have f0 : ((L : Int) == 0) = false := by simpa using (show (L : Int) ≠ 0 by omega)
          have f1 : ((D : Int) != (D : Int)) = false := by simp
          have HBW := Lib.hid hbW
          clear hM8 hK8 hB8 hx hbl x0 x1 x2 hD bY hbW HM HK HB e8
          go_wp2_with fail
          refine wp_region_later (by kernel_rfl) (by kernel_rfl) ?_
          repeat (go_big_quiet_step ((go_at_call 39; exact Later.call _ (htu _) (Nat.le_refl _))))
          refine wpQuiet_nil ?_
          rintro _ ⟨z, rfl⟩
          have hbz := HBW.out.trans (z.ok.mono HBW.out.size)
          have HM9 := Lib.hid (HM8.out.below' hbz)
          have HK9 := Lib.hid (HK8.out.trans (KpX.of_below hbz fun j hj => HM8.out.lt (.inl hj)))
          have HB9 := Lib.hid (HB8.out.below hbz)
          clear hbz htu y0 y1 y2 v0 v1 v2
          go_wp2_with fail
          exact ⟨⟨i + 1, by omega, by go_num, HM9, HK9, HB9⟩, by simp [intOf]; omega⟩
        · have p1 : ¬ (i : Int) < (st : Int) := by omega
          have HBE := Lib.hid (HB2.out.trans (HM.out.bel.mono HB2.out.size))
          go_wp2_with fail
          refine scrubs_any.mono ?_
          rintro e wz ⟨rfl, hbz⟩
          go_wp2_with fail
          go_ret
          exact ⟨rfl, HBE.out.trans (hbz.mono HBE.out.size)⟩
end
section
open Go.ChangeShapes Go.WideShapes Go.ChangeAt Go.Deep
theorem opens_by : Opens Tryz.prog 5 ByR 1 :=
  ⟨by kernel_rfl, by omega, fun H enc w base spare held fuel cs x _ hx => by
    obtain ⟨n, rfl, _, hw⟩ := DataW.trod_int Tryz.underlying5 hx
    have h2 : 0 ≤ n ∧ n ≤ 255 := by
      simp [Lit.wf, IntKind.min, IntKind.max, IntKind.signed, IntKind.bits] at hw
      omega
    exact ⟨n.toNat, by omega, by rw [show ((n.toNat : Nat) : Int) = n by omega]⟩⟩
theorem u64_bounds {z : Int} (h : (Lit.int .u64 z).wf = true) : 0 ≤ z ∧ z < 18446744073709551616 := by
  simp [Lit.wf, IntKind.min, IntKind.max, IntKind.bits, IntKind.signed] at h
  omega
set_option maxRecDepth 100000 in
theorem open_geo {H : Type} {enc : TypeId × Value → H} {w : World} {base b0 : Nat} {spare : Nat → Bool} {held : Bool} {r : Reach} {v : Value} {d : DataW H} {ps : List MemPlace}
    (hval : Value.okWide Tryz.prog w r b0 23 v) (h : DataW.Trod enc Tryz.prog w base spare held 23 v d ps) : ∃ k m s : Int, v = .agg #[.int .i64 k, .int .i64 m, .int .i64 s] := by
  obtain ⟨cs, rfl, hsz⟩ := okWide_struct Tryz.underlying23 hval
  obtain ⟨fuel, hx⟩ := h
  have h5 : cs.size = 3 := hsz.trans (by kernel_rfl)
  have hl : (Value.agg cs).cells.toList.length = 3 := by simpa [Value.cells] using h5
  obtain ⟨xs, n, _, _, hlen, hxl, hf⟩ := DataW.trod_struct Tryz.underlying23 hx
  have e0 : (Value.agg cs).cells.toList = cs.toList := rfl
  rw [e0] at hf hl
  match hc : cs.toList, hl with
  | [c0, c1, c2], _ =>
    rw [hc] at hf
    have f0 := hf 0 _ rfl
    have f1 := hf 1 _ rfl
    have f2 := hf 2 _ rfl
    have k1 : Tryz.prog.cellsOf 3 = 1 := by kernel_rfl
    have hx3 : xs.length = 3 := hxl
    simp only [List.getElem_toArray, List.getElem_cons_zero, List.getElem_cons_succ, k1, List.drop_zero, List.drop_succ_cons, List.take_succ_cons, List.take_zero] at f0 f1 f2
    rw [List.getElem?_eq_getElem (by omega)] at f0 f1 f2
    obtain ⟨s, e1, _, _⟩ := DataW.trod_int Tryz.underlying3 f0
    obtain ⟨t, e2, _, _⟩ := DataW.trod_int Tryz.underlying3 f1
    obtain ⟨u, e3, _, _⟩ := DataW.trod_int Tryz.underlying3 f2
    simp only [List.cons.injEq, and_true] at e1 e2 e3
    subst e1; subst e2; subst e3
    refine ⟨s, t, u, ?_⟩
    rw [show cs = cs.toList.toArray by simp, hc]
end
section
open Go.ChangeShapes Go.WideShapes Go.ChangeAt Go.Deep
theorem sl_pt31 : Tryz.prog.underlying 58 = some (.slice 104) := by kernel_rfl
set_option maxRecDepth 100000 in
theorem opens_pt31 : Opens Tryz.prog 104 PtR 2 := by
  refine ⟨by kernel_rfl, by omega, fun H enc w base spare held fuel cs x hl hx => ?_⟩
  obtain ⟨xs, n, _, _, hlen, hxl, hf⟩ := DataW.trod_struct Tryz.underlying104 hx
  match cs, hl with
  | [c0, c1], _ =>
    have f0 := hf 0 _ rfl
    have f1 := hf 1 _ rfl
    have k1 : Tryz.prog.cellsOf 36 = 1 := by kernel_rfl
    have k2 : Tryz.prog.cellsOf 68 = 1 := by kernel_rfl
    have hx3 : xs.length = 2 := hxl
    simp only [List.getElem_toArray, List.getElem_cons_zero, List.getElem_cons_succ, k1, k2, List.drop_zero, List.drop_succ_cons, List.take_succ_cons, List.take_zero] at f0 f1
    rw [List.getElem?_eq_getElem (by omega)] at f0 f1
    obtain ⟨g, e1, _, wg⟩ := DataW.trod_int Tryz.underlying36 f0
    obtain ⟨A, n2, c, ys, e2, hnc, _, hr⟩ := opens_slice sl_by.und opens_by f1
    simp only [List.cons.injEq, and_true] at e1 e2
    subst e1; subst e2
    obtain ⟨h0, h1⟩ := u64_bounds wg
    exact ⟨(g.toNat, ys), A, n2, c, by show [_, _] = [Value.int .u64 ((g.toNat : Nat) : Int), _]; rw [show ((g.toNat : Nat) : Int) = g by omega], hnc, hr, by show g.toNat < 2 ^ 64; omega⟩
end
end Go.Proofs.YtihnlhfngmbglaaGreat
