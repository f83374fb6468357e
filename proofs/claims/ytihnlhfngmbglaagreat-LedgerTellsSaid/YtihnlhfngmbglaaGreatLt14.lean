/-
  The document's count: ref30.Spots.
  Law 30: LedgerGets: the walk.
  The document's count: ref30's Total, Worst, Lost, SameRefs.
  Law 30: LedgerTells: the walk.
  A geometry among the arguments; bounds of whole numbers.
  Law 30's stripes, faults and names among the arguments.
-/
import Derived.Test.YtihnlhfngmbglaaGreatLt13
import Derived.Test.YtihnlhfngmbglaaGreatLt12
import Derived.Test.YtihnlhfngmbglaaGreatLt4
import Derived.Test.YtihnlhfngmbglaaGreatLt2
set_option linter.unusedSimpArgs false
set_option linter.unusedVariables false
namespace Go.Proofs.YtihnlhfngmbglaaGreat
open Go.RowKit Go.Cib
attribute [local go_sem] cell_set Later.cell Later.frozen Grw.cell Grw.frozen
section
theorem sl_intR2 : SlTy Tryz.prog 26 3 (.int .i64 0) 1 8 := ⟨by kernel_rfl, by kernel_rfl, by kernel_rfl, by omega⟩
/-- Does one of the first i shards, that are whole, lie on this drive? -/
def whB (ws : List Bool) (N p d : Nat) : Nat → Bool
  | 0 => false
  | i + 1 => whB ws N p d i || (ws.getD i false && decide (homeN N p i = d))
theorem whB_iff (ws : List Bool) (N p d : Nat) : ∀ i, whB ws N p d i = true ↔ ∃ j, j < i ∧ ws.getD j false = true ∧ homeN N p j = d
  | 0 => by simp [whB]
  | i + 1 => by
    rw [whB, Bool.or_eq_true, whB_iff ws N p d i, Bool.and_eq_true, decide_eq_true_eq]
    constructor
    · rintro (⟨j, h1, h2⟩ | h)
      · exact ⟨j, by omega, h2⟩
      · exact ⟨i, by omega, h⟩
    · rintro ⟨j, h1, h2⟩
      by_cases e : j = i
      · subst e; exact .inr h2
      · exact .inl ⟨j, by omega, h2⟩
theorem whB_all {g : Nat → Bool} {N p d : Nat} (hN : 1 ≤ N) (hd : d < N) : whB ((List.range N).map fun i => g (homeN N p i)) N p d N = g d := by
  have hg : ∀ j, j < N → ((List.range N).map fun i => g (homeN N p i)).getD j false = g (homeN N p j) := fun j hj => by
    rw [List.getD_eq_getElem?_getD, List.getElem?_map, List.getElem?_range hj]
    rfl
  rw [Bool.eq_iff_iff, whB_iff]
  constructor
  · rintro ⟨j, h1, h2, h3⟩
    rw [hg j h1, h3] at h2
    exact h2
  · intro h
    refine ⟨ixN N p d, ixN_lt hN, ?_, home_ix hN hd⟩
    rw [hg _ (ixN_lt hN), home_ix hN hd]
    exact h
theorem missZ_next (g : Nat → Bool) (d : Nat) : missZ g (d + 1) = missZ g d ++ if g d = true then [] else [(d : Int)] := by
  unfold missZ missL
  rw [List.range_succ, List.filter_append, List.map_append]
  cases hgd : g d <;> simp [hgd]
set_option maxRecDepth 100000 in
set_option maxHeartbeats 16000000 in
theorem rspots_any {w : World} {sb x k m N : Nat} {r : RfI} {g : Nat → Bool} (hS : BoxAt w sb #[.pointer (some ⟨x, 0, none⟩), .int .i64 (k : Int), .int .i64 (m : Int)]) (hN : k + m = N) (hN1 : 1 ≤ N) (hN2 : N ≤ 255) (hW : RWh w sb r g N) :
    Calls Tryz.prog 22 #[.pointer (some ⟨sb, 0, none⟩), .agg r.C] w fun e w' => ∃ A c, e = .returned (.slice A (missL g N).length c) ∧ (missL g N).length ≤ c ∧ RdL IntR 1 (fun j => w.heap.size ≤ j) w' A (missL g N).length (missZ g N) ∧ Below w.heap.size w w' := by
  obtain ⟨rk, rp, rg⟩ := r
  have hb0 : Below w.heap.size w (w.alloc (.cells #[.int .u8 rk, .int .i64 rp, .int .u64 rg] 38)) := (Below.refl _ _).alloc (Nat.le_refl _) _
  have bR := BoxAt.new w #[.int .u8 rk, .int .i64 rp, .int .u64 rg] 38
  obtain ⟨WA, hWA⟩ : ∃ W, w.alloc (.cells #[.int .u8 rk, .int .i64 rp, .int .u64 rg] 38) = W := ⟨_, rfl⟩
  rw [hWA] at bR hb0
  obtain ⟨q, hq⟩ : ∃ q, w.heap.size = q := ⟨_, rfl⟩
  rw [hq] at bR
  have HWH := Lib.hid hW
  have HCL := Lib.hid (show ∀ w', Below WA.heap.size WA w' → (w'.cell? ⟨sb, 1, none⟩ = some (.int .i64 (k : Int)) ∧ w'.cell? ⟨sb, 2, none⟩ = some (.int .i64 (m : Int))) ∧ w'.cell? ⟨q, 0, none⟩ = some (.int .u8 rk) ∧ w'.cell? ⟨q, 1, none⟩ = some (.int .i64 rp) ∧ w'.cell? ⟨q, 2, none⟩ = some (.int .u64 rg) from fun w' hb => ⟨⟨((hS.below hb0).below hb).cell 1, ((hS.below hb0).below hb).cell 2⟩, (bR.below hb).cell 0, (bR.below hb).cell 1, (bR.below hb).cell 2⟩)
  have hkm : IntKind.i64.wrap ((k : Int) + (m : Int)) = (N : Int) := by rw [IntKind.wrap_i64]; omega
  have hkm2 : (k : Int) + (m : Int) = (N : Int) := by omega
  have hkw : IntKind.i64.wrap (N : Int) = (N : Int) := by rw [IntKind.wrap_i64]; omega
  have HB0 := Lib.hid hb0
  have s0 := (HCL.out _ (Below.refl WA.heap.size WA).drew).1
  clear hS hW hb0 bR
  unfold RfI.C at HWH ⊢
  dsimp only at HWH ⊢
  go_enter Tryz.func22, Tryz.ntmps22
  go_wp2_with fail
  clear hq
  refine wp_region_held_drew (S := fun w' => w'.cell? ⟨sb, 1, none⟩ = some (.int .i64 (k : Int)) ∧ w'.cell? ⟨sb, 2, none⟩ = some (.int .i64 (m : Int))) (by kernel_rfl) (by exact s0) (fun hHeld => ?_)
  refine tkH 0 rfl ?_
  refine tkH 1 rfl ?_
  refine tkH 2 rfl ?_
  refine tkH 3 rfl ?_
  refine tkH 4 rfl ?_
  refine tkH 5 rfl ?_
  refine tkH 6 rfl ?_
  refine tkH 7 rfl ?_
  refine tkH 8 rfl ?_
  refine tkH 9 rfl ?_
  refine wpAnyH_done (by kernel_rfl) ?_ _
  obtain ⟨_, k0, k1, k2⟩ := HCL.out _ (Below.refl WA.heap.size WA).drew
  clear s0
  go_wp2_with fail
  refine (HWH.out _ HB0.out.drew).mono ?_
  rintro e w1 ⟨A, L, c, ws, rfl, hLc, hRW, hWO, hb1⟩
  dsimp only at hWO
  have HB1 := Lib.hid ((Below.refl WA.heap.size WA).drew.trans (show Below WA.heap.size WA.drew w1 from hb1))
  have HRW := Lib.hid hRW
  have hL2 : L ≤ N := by
    have hwl := hRW.1
    rcases hWO with ⟨e, _⟩ | ⟨p, _, e⟩
    · rw [e] at hwl; simp at hwl; omega
    · rw [e] at hwl; simp at hwl; omega
  have HAL := Lib.hid (show ∃ p : Nat, (0 < L → rp = p) ∧ ∀ d, d < N → whB ws N p d L = g d by
    have hwl := hRW.1
    rcases hWO with ⟨e, hz⟩ | ⟨p, e, e2⟩
    · rw [e] at hwl
      have h0 : L = 0 := by simp at hwl; omega
      subst h0
      exact ⟨0, fun h => absurd h (Nat.lt_irrefl 0), fun d hd => by rw [hz d hd]; rfl⟩
    · rw [e2] at hwl
      have h0 : L = N := by simp at hwl; omega
      subst h0
      exact ⟨p, fun _ => e, fun d hd => by rw [e2]; exact whB_all hN1 hd⟩)
  obtain ⟨p, hp1, hp2⟩ := HAL.out
  have HP1 := Lib.hid hp1
  have HP2 := Lib.hid hp2
  have hN3 : (N : Int) ≤ 255 := by omega
  clear HAL hp1 hp2 hWO hRW hb1 k0 k1 k2 hkm hkm2 hkw hWA
  go_wp2_with fail
  go_loopw [7, 8] (fun vl vi wr => ∃ (d : Nat) (A : Option Addr) (c : Nat), d ≤ N ∧ vi = .int .i64 d ∧ vl = .slice A (missL g d).length c ∧ Hid (OwnL IntR 3 1 w1.heap.size (fun _ => True) wr (.slice A (missL g d).length c) (missL g d).length (missZ g d)) ∧ Hid (Below w1.heap.size w1 wr)) (fun _ vi _ => N - (intOf vi).toNat)
  case atStart => exact ⟨0, none, 0, Nat.zero_le _, rfl, rfl, Lib.hid OwnL.nil_, Lib.hid (Below.refl _ _)⟩
  case round =>
    obtain ⟨d, AO, cO, hd, rfl, rfl, HO, HB⟩ := hrel
    obtain ⟨wo, rfl⟩ : ∃ wo, wo = wr := ⟨_, rfl⟩
    have d0 : (0 : Int) ≤ (d : Int) := Int.natCast_nonneg _
    by_cases hlt : d < N
    · have d1 : (d : Int) < (N : Int) := by omega
      go_wp2_with fail
      go_loopw [9, 10] (fun vb vi wr => ∃ i : Nat, i ≤ L ∧ vi = .int .i64 i ∧ vb = .bool (whB ws N p d i) ∧ Hid (Below wo.heap.size wo wr)) (fun _ vi _ => L - (intOf vi).toNat)
      case atStart => exact ⟨0, Nat.zero_le _, rfl, rfl, Lib.hid (Below.refl _ _)⟩
      case round =>
        obtain ⟨i, hi, rfl, rfl, HBi⟩ := hrel
        have i0 : (0 : Int) ≤ (i : Int) := Int.natCast_nonneg _
        by_cases hil : i < L
        · have i1 : (i : Int) < (L : Int) := by omega
          have hBB := HB.out.trans (HBi.out.mono HB.out.size)
          obtain ⟨b, o, y, rfl, hy, v0⟩ := bool_at (HRW.out.below BoolR.stable hBB) hil
          have hwn : whB ws N p d (i + 1) = (whB ws N p d i || (y && decide (homeN N p i = d))) := by
            rw [whB, List.getD_eq_getElem?_getD, hy]; rfl
          obtain ⟨rfl⟩ : rp = (p : Int) := HP1.out (by omega)
          have k1 := (HCL.out wr (HB1.out.trans (hBB.mono HB1.out.size))).2.2.1
          obtain ⟨B, hB⟩ : ∃ B, whB ws N p d i = B := ⟨_, rfl⟩
          rw [hB] at hwn ⊢
          have HWN := Lib.hid hwn
          have HBB := Lib.hid hBB
          clear hwn hy hB hBB
          cases B with
          | true =>
            go_wp2_with fail
            exact ⟨⟨i + 1, hil, by go_num, by rw [HWN.out]; rfl, HBi⟩, by simp [intOf]; omega⟩
          | false =>
            cases y with
            | false =>
              go_wp2_with fail
              exact ⟨⟨i + 1, hil, by go_num, by rw [HWN.out]; rfl, HBi⟩, by simp [intOf]; omega⟩
            | true =>
              go_wp2_with fail
              refine (rhome_any (w := wr) (n := N) (place := p) (i := i) hN1 (by omega)).mono ?_
              rintro e w5 ⟨rfl, hb5⟩
              have HB5 := Lib.hid (HBi.out.trans (hb5.mono HBi.out.size))
              clear hb5 k1 v0
              obtain ⟨hm, hhm⟩ : ∃ h, homeN N p i = h := ⟨_, rfl⟩
              rw [hhm] at HWN ⊢
              by_cases he : hm = d
              · have e1 : ((hm : Int) == (d : Int)) = true := by rw [he]; simp
                have e2 : decide (hm = d) = true := decide_eq_true he
                rw [e2] at HWN
                clear he e2 hhm
                go_wp2_with fail
                exact ⟨⟨i + 1, hil, by go_num, by rw [HWN.out]; rfl, HB5⟩, by simp [intOf]; omega⟩
              · have e1 : ((hm : Int) == (d : Int)) = false := by simp; omega
                have e2 : decide (hm = d) = false := decide_eq_false he
                rw [e2] at HWN
                clear he e2 hhm
                go_wp2_with fail
                exact ⟨⟨i + 1, hil, by go_num, by rw [HWN.out]; rfl, HB5⟩, by simp [intOf]; omega⟩
        · have i1 : ¬ (i : Int) < (L : Int) := by omega
          obtain rfl : i = L := by omega
          rw [HP2.out d hlt]
          have HMN := Lib.hid (missZ_next g d)
          have HOi := Lib.hid (HO.out.keep IntR.stable HBi.out)
          have HBn := Lib.hid (HB.out.trans (HBi.out.mono HB.out.size))
          have hszr := HBn.out.size
          have hml : (missL g d).length ≤ 255 := by
            have h9 : (missL g d).length ≤ d := misN_le (fun _ => g) d 0
            omega
          have HML := Lib.hid (show (missZ g (d + 1)).length = (missL g (d + 1)).length from missZ_len g (d + 1))
          have HML0 := Lib.hid (show (missZ g d).length = (missL g d).length from missZ_len g d)
          cases hgd : g d with
          | true =>
            rw [hgd, if_pos rfl, List.append_nil] at HMN
            have hll : (missL g (d + 1)).length = (missL g d).length := by rw [← HML.out, HMN.out, HML0.out]
            have HLL := Lib.hid hll
            clear hll hgd
            go_wp2_with fail
            exact ⟨⟨d + 1, AO, cO, hlt, by go_num, by rw [HLL.out], by rw [HLL.out, HMN.out]; exact HOi, HBn⟩, by simp [intOf]; omega⟩
          | false =>
            rw [hgd, if_neg (by decide)] at HMN
            have hll : (missL g (d + 1)).length = (missL g d).length + 1 := by rw [← HML.out, HMN.out, List.length_append, HML0.out]; rfl
            have HLL := Lib.hid hll
            obtain ⟨ll, hle⟩ : ∃ l, (missL g d).length = l := ⟨_, rfl⟩
            rw [hle] at HOi HLL hml ⊢
            clear hll hgd hle HML HML0
            go_wp2_with (at_builtin; go_must (refine wpList_push1 IntR.stable IntR.one sl_intR2 (by rfl) (by rfl) (base := w1.heap.size) (S := fun _ => True) (cs := #[.int .i64 (d : Int)]) (y := (d : Int)) (by rfl) (by rfl) HOi.out (by rfl) (by rfl) (by unfold maxLen; omega) (by omega) hszr ?_); intro A8 c8 ug hc8 own9 hlt8 hb8 hat8; rw [← HMN.out] at own9; have HO9 := Lib.hid own9; have HB9 := Lib.hid (HBn.out.trans hb8); clear own9 hb8 hlt8 hat8)
            exact ⟨⟨d + 1, A8, c8, hlt, by go_num, by rw [HLL.out], by rw [HLL.out]; exact HO9, HB9⟩, by simp [intOf]; omega⟩
    · have d1 : ¬ (d : Int) < (N : Int) := by omega
      obtain rfl : d = N := by omega
      have HW1 := Lib.hid (HB0.out.trans (HB1.out.mono HB0.out.size))
      obtain ⟨A', c', e, hcc, hr⟩ := HO.out.rd (S' := fun j => w.heap.size ≤ j) (fun j hj => Nat.le_trans HW1.out.size hj) (fun cs x hx => hx)
      injection e with h1 _ h2
      subst h1 h2
      have HR9 := Lib.hid hr
      have HCC := Lib.hid hcc
      clear hr hcc hlt
      go_wp2_with fail
      go_ret
      exact ⟨AO, cO, rfl, HCC.out, HR9.out, HW1.out.trans (HB.out.mono HW1.out.size)⟩
end
section
abbrev Nm := Nat × Int × Nat
def nmR (x : Nm) : RfI := ⟨(x.1 : Int), x.2.1, (x.2.2 : Int)⟩
def nmL (ps : List LPt) (r : Nm) : List Nm := ps.map (fun p => (p.kd, p.pl, p.gn)) ++ [r]
theorem nm_names (ps : List LPt) (r : Nm) : namesL ps (nmR r) = (nmL ps r).map nmR := by
  unfold namesL nmL
  rw [List.map_append, List.map_map]
  rfl
def gsN (sts : List DSt) (n k N : Nat) (ns : List Nm) (i : Nat) : Nat → Bool := match ns[i]? with
  | some x => viewX sts n k N x.1 x.2.1 x.2.2
  | none => fun _ => false
theorem lost_nil0 (gs : Nat → Nat → Bool) (N m : Nat) (rs : List RfI) : ∀ i, (lostL gs N m rs i).length = 0 ↔ maxM gs N i ≤ m
  | 0 => by simp [lostL, maxM]
  | i + 1 => by
    have ih := lost_nil0 gs N m rs i
    rw [lostL, maxM, List.length_append]
    split
    · simp only [List.length_singleton]
      constructor
      · intro h; omega
      · intro h; omega
    · simp only [List.length_nil, Nat.add_zero]
      rw [ih]
      omega
theorem MX.whs {X : Nat → Prop} {w0 w : World} {a cb bf k m n t : Nat} {sts : List DSt} (h : MX X w0 w a cb bf k m n sts) (hG : GdA t sts) (ns : List Nm) : ∀ (i : Nat) (r : RfI), (ns.map nmR)[i]? = some r → WhC w (.pointer (some ⟨a, 0, none⟩)) (.pointer (some ⟨cb, 0, none⟩)) r (gsN sts n k (k + m) ns i) (k + m) := by
  intro i r hr
  rw [List.getElem?_map] at hr
  obtain ⟨x, hx, rfl⟩ := Option.map_eq_some_iff.1 hr
  unfold gsN
  rw [hx]
  exact h.whx hG x.1 x.2.2 x.2.1
theorem rfi_at3 {S : Nat → Prop} {w : World} {A : Option Addr} {L : Nat} {rs : List RfI} (h : RdL RfIR 3 S w A L rs) {i : Nat} (hi : i < L) : ∃ b o x, A = some ⟨b, o, none⟩ ∧ rs[i]? = some x ∧ b < w.heap.size ∧ (w.cell? ⟨b, o + i * 3, none⟩ = some (.int .u8 x.kind) ∧ w.cell? ⟨b, o + i * 3 + 1, none⟩ = some (.int .i64 x.place) ∧ w.cell? ⟨b, o + i * 3 + 2, none⟩ = some (.int .u64 x.gen)) := by
  obtain ⟨b, o, rfl, hS, hlt⟩ := h.addr hi
  obtain ⟨hl, cs, h1, h2, h3⟩ := h.at hi
  subst h2
  refine ⟨b, o, rs[i], rfl, by simp [hl], hlt, ?_, ?_, ?_⟩
  · simpa using h3 0 _ rfl
  · simpa using h3 1 _ rfl
  · simpa using h3 2 _ rfl
end
section
theorem sl_ref3 : SlTy Tryz.prog 34 38 (.agg #[.int .u8 0, .int .i64 0, .int .u64 0]) 3 24 := ⟨by kernel_rfl, by kernel_rfl, by kernel_rfl, by omega⟩
attribute [local go_sem ↓] run_max_l
section
variable {w : World} {sb x k m N n c : Nat} {S : Nat → Prop} {A : Option Addr} {rs : List RfI} {gs : Nat → Nat → Bool}

set_option maxRecDepth 100000 in
set_option maxHeartbeats 8000000 in
theorem rtotal_any (R : RdL RfIR 3 S w A n rs) (hn : n ≤ 1000000) (hS : BoxAt w sb #[.pointer (some ⟨x, 0, none⟩), .int .i64 (k : Int), .int .i64 (m : Int)]) (hN : k + m = N) (hN1 : 1 ≤ N) (hN2 : N ≤ 255) (hW : Hid (∀ i r, rs[i]? = some r → RWh w sb r (gs i) N)) :
    Calls Tryz.prog 26 #[.pointer (some ⟨sb, 0, none⟩), .slice A n c] w fun e w' => e = .returned (.int .i64 (sumM gs N n : Nat)) ∧ Below w.heap.size w w' := by
  have HR := Lib.hid R
  have HSB := Lib.hid hS
  have HN := Lib.hid (And.intro hN (And.intro hN1 hN2))
  have hn3 : (n : Int) ≤ 1000000 := by omega
  clear R hS hN hN1
  go_enter Tryz.func26, Tryz.ntmps26
  go_wp2_with fail
  go_loopw [5, 6] (fun vz vi wr => ∃ i : Nat, i ≤ n ∧ vi = .int .i64 i ∧ vz = .int .i64 (sumM gs N i : Nat) ∧ Hid (Below w.heap.size w wr)) (fun _ vi _ => n - (intOf vi).toNat)
  case atStart => exact ⟨0, Nat.zero_le _, rfl, rfl, Lib.hid (Below.refl _ _)⟩
  case round =>
    obtain ⟨i, hi, rfl, rfl, HB⟩ := hrel
    have i0 : (0 : Int) ≤ (i : Int) := Int.natCast_nonneg _
    by_cases hlt : i < n
    · have i1 : (i : Int) < (n : Int) := by omega
      obtain ⟨b, o, y, rfl, hy, hbl, x0, x1, x2⟩ := rfi_at3 (HR.out.below RfIR.stable HB.out) hlt
      have hsp := rspots_any (HSB.out.below HB.out) HN.out.1 HN.out.2.1 HN.out.2.2 ((hW.out i y hy).below HB.out)
      have hmi : (missL (gs i) N).length ≤ 255 := by
        have h9 : (missL (gs i) N).length ≤ N := misN_le gs N i
        omega
      have hsm : sumM gs N i ≤ 255000000 := by
        have h9 := sumM_le gs N i
        have h8 : i * N ≤ 1000000 * 255 := Nat.mul_le_mul (by omega) hN2
        omega
      have HNX := Lib.hid (show sumM gs N (i + 1) = sumM gs N i + misN gs N i by rw [sumM])
      have HMI := Lib.hid (show misN gs N i = (missL (gs i) N).length from rfl)
      obtain ⟨mi, hmie⟩ : ∃ l, (missL (gs i) N).length = l := ⟨_, rfl⟩
      obtain ⟨sm, hsme⟩ : ∃ l, sumM gs N i = l := ⟨_, rfl⟩
      rw [hmie] at hsp hmi HMI
      rw [HMI.out] at HNX
      rw [hsme] at hsm HNX ⊢
      have HSP := Lib.hid hsp
      unfold RfI.C at HSP
      clear hsp hy hmie hsme hbl HMI
      go_wp2_with fail
      refine HSP.out.mono ?_
      clear HSP x0 x1 x2
      rintro e w5 ⟨A5, c5, rfl, _, _, hb5⟩
      have HB5 := Lib.hid (HB.out.trans (hb5.mono HB.out.size))
      clear hb5
      go_wp2_with fail
      exact ⟨⟨i + 1, hlt, by go_num, by rw [HNX.out]; push_cast; rfl, HB5⟩, by simp [intOf]; omega⟩
    · have i1 : ¬ (i : Int) < (n : Int) := by omega
      obtain rfl : i = n := by omega
      go_wp2_with fail
      go_ret
      exact ⟨rfl, HB.out⟩
set_option maxRecDepth 100000 in
set_option maxHeartbeats 8000000 in
theorem rworst_any (R : RdL RfIR 3 S w A n rs) (hn : n ≤ 1000000) (hS : BoxAt w sb #[.pointer (some ⟨x, 0, none⟩), .int .i64 (k : Int), .int .i64 (m : Int)]) (hN : k + m = N) (hN1 : 1 ≤ N) (hN2 : N ≤ 255) (hW : Hid (∀ i r, rs[i]? = some r → RWh w sb r (gs i) N)) :
    Calls Tryz.prog 24 #[.pointer (some ⟨sb, 0, none⟩), .slice A n c] w fun e w' => e = .returned (.int .i64 (maxM gs N n : Nat)) ∧ Below w.heap.size w w' := by
  have HR := Lib.hid R
  have HSB := Lib.hid hS
  have HN := Lib.hid (And.intro hN (And.intro hN1 hN2))
  have hn3 : (n : Int) ≤ 1000000 := by omega
  clear R hS hN hN1
  go_enter Tryz.func24, Tryz.ntmps24
  go_wp2_with fail
  go_loopw [5, 6] (fun vz vi wr => ∃ i : Nat, i ≤ n ∧ vi = .int .i64 i ∧ vz = .int .i64 (maxM gs N i : Nat) ∧ Hid (Below w.heap.size w wr)) (fun _ vi _ => n - (intOf vi).toNat)
  case atStart => exact ⟨0, Nat.zero_le _, rfl, rfl, Lib.hid (Below.refl _ _)⟩
  case round =>
    obtain ⟨i, hi, rfl, rfl, HB⟩ := hrel
    have i0 : (0 : Int) ≤ (i : Int) := Int.natCast_nonneg _
    by_cases hlt : i < n
    · have i1 : (i : Int) < (n : Int) := by omega
      obtain ⟨b, o, y, rfl, hy, hbl, x0, x1, x2⟩ := rfi_at3 (HR.out.below RfIR.stable HB.out) hlt
      have hsp := rspots_any (HSB.out.below HB.out) HN.out.1 HN.out.2.1 HN.out.2.2 ((hW.out i y hy).below HB.out)
      have hmi : (missL (gs i) N).length ≤ 255 := by
        have h9 : (missL (gs i) N).length ≤ N := misN_le gs N i
        omega
      have hsm : maxM gs N i ≤ 255000000 := by
        have h9 := maxM_le gs N i
        omega
      have HNX := Lib.hid (show maxM gs N (i + 1) = max (maxM gs N i) (misN gs N i) by rw [maxM])
      have HMI := Lib.hid (show misN gs N i = (missL (gs i) N).length from rfl)
      obtain ⟨mi, hmie⟩ : ∃ l, (missL (gs i) N).length = l := ⟨_, rfl⟩
      obtain ⟨sm, hsme⟩ : ∃ l, maxM gs N i = l := ⟨_, rfl⟩
      rw [hmie] at hsp hmi HMI
      rw [HMI.out] at HNX
      rw [hsme] at hsm HNX ⊢
      have HSP := Lib.hid hsp
      unfold RfI.C at HSP
      clear hsp hy hmie hsme hbl HMI
      go_wp2_with fail
      refine HSP.out.mono ?_
      clear HSP x0 x1 x2
      rintro e w5 ⟨A5, c5, rfl, _, _, hb5⟩
      have HB5 := Lib.hid (HB.out.trans (hb5.mono HB.out.size))
      clear hb5
      go_wp2_with fail
      exact ⟨⟨i + 1, hlt, by go_num, by rw [HNX.out]; congr 1; omega, HB5⟩, by simp [intOf]; omega⟩
    · have i1 : ¬ (i : Int) < (n : Int) := by omega
      obtain rfl : i = n := by omega
      go_wp2_with fail
      go_ret
      exact ⟨rfl, HB.out⟩
set_option maxRecDepth 100000 in
set_option maxHeartbeats 16000000 in
theorem rlost_any (R : RdL RfIR 3 S w A n rs) (hn : n ≤ 1000000) (hS : BoxAt w sb #[.pointer (some ⟨x, 0, none⟩), .int .i64 (k : Int), .int .i64 (m : Int)]) (hN : k + m = N) (hN1 : 1 ≤ N) (hN2 : N ≤ 255) (hW : Hid (∀ i r, rs[i]? = some r → RWh w sb r (gs i) N)) :
    Calls Tryz.prog 25 #[.pointer (some ⟨sb, 0, none⟩), .slice A n c] w fun e w' => ∃ A' c', e = .returned (.slice A' (lostL gs N m rs n).length c') ∧ RdL RfIR 3 (fun j => w.heap.size ≤ j) w' A' (lostL gs N m rs n).length (lostL gs N m rs n) ∧ Below w.heap.size w w' := by
  have HR := Lib.hid R
  have HSB := Lib.hid hS
  have HN := Lib.hid (And.intro hN (And.intro hN1 hN2))
  have hn3 : (n : Int) ≤ 1000000 := by omega
  clear R hS hN hN1
  go_enter Tryz.func25, Tryz.ntmps25
  go_wp2_with fail
  go_loopw [5, 6] (fun vl vi wr => ∃ (i : Nat) (A : Option Addr) (c : Nat), i ≤ n ∧ vi = .int .i64 i ∧ vl = .slice A (lostL gs N m rs i).length c ∧ Hid (OwnL RfIR 38 3 w.heap.size (fun _ => True) wr (.slice A (lostL gs N m rs i).length c) (lostL gs N m rs i).length (lostL gs N m rs i)) ∧ Hid (Below w.heap.size w wr)) (fun _ vi _ => n - (intOf vi).toNat)
  case atStart => exact ⟨0, none, 0, Nat.zero_le _, rfl, rfl, Lib.hid OwnL.nil_, Lib.hid (Below.refl _ _)⟩
  case round =>
    obtain ⟨i, AO, cO, hi, rfl, rfl, HO, HB⟩ := hrel
    have i0 : (0 : Int) ≤ (i : Int) := Int.natCast_nonneg _
    by_cases hlt : i < n
    · have i1 : (i : Int) < (n : Int) := by omega
      obtain ⟨b, o, y, rfl, hy, hbl, x0, x1, x2⟩ := rfi_at3 (HR.out.below RfIR.stable HB.out) hlt
      have hd : Below wr.heap.size wr wr.drew := (Below.refl _ _).drew
      have hBd := HB.out.drew
      have hsp := rspots_any (HSB.out.below hBd) HN.out.1 HN.out.2.1 HN.out.2.2 ((hW.out i y hy).below hBd)
      have HCL := Lib.hid (show ∀ w', Below wr.heap.size wr w' → (w'.cell? ⟨b, o + i * 3, none⟩ = some (.int .u8 y.kind) ∧ w'.cell? ⟨b, o + i * 3 + 1, none⟩ = some (.int .i64 y.place) ∧ w'.cell? ⟨b, o + i * 3 + 2, none⟩ = some (.int .u64 y.gen)) ∧ w'.cell? ⟨sb, 2, none⟩ = some (.int .i64 (m : Int)) from fun w' hb => ⟨⟨(hb.cell (p := ⟨b, o + i * 3, none⟩) hbl).trans x0, (hb.cell (p := ⟨b, o + i * 3 + 1, none⟩) hbl).trans x1, (hb.cell (p := ⟨b, o + i * 3 + 2, none⟩) hbl).trans x2⟩, ((HSB.out.below HB.out).below hb).cell 2⟩)
      have s0 := HCL.out _ hd
      have HNX := Lib.hid (show lostL gs N m rs (i + 1) = lostL gs N m rs i ++ if m < misN gs N i then [y] else [] by rw [lostL, List.getD_eq_getElem?_getD, hy]; rfl)
      have HMI := Lib.hid (show misN gs N i = (missL (gs i) N).length from rfl)
      have hll := lostL_len gs N m rs i
      obtain ⟨mi, hmie⟩ : ∃ l, (missL (gs i) N).length = l := ⟨_, rfl⟩
      rw [hmie] at hsp HMI
      rw [HMI.out] at HNX
      have HSP := Lib.hid hsp
      unfold RfI.C at HSP
      clear hsp hy hmie hbl HMI hBd x0 x1 x2
      have m0 : (0 : Int) ≤ (m : Int) := Int.natCast_nonneg _
      have m1 : (0 : Int) ≤ (mi : Int) := Int.natCast_nonneg _
      by_cases hc : m < mi
      · have e1 : (mi : Int) > (m : Int) := by omega
        have e2 : decide ((mi : Int) > (m : Int)) = true := decide_eq_true e1
        have e3 : decide (m < mi) = true := decide_eq_true hc
        rw [if_pos hc] at HNX
        have HLL := Lib.hid (show (lostL gs N m rs (i + 1)).length = (lostL gs N m rs i).length + 1 by rw [HNX.out, List.length_append]; rfl)
        obtain ⟨ll, hle⟩ : ∃ l, (lostL gs N m rs i).length = l := ⟨_, rfl⟩
        rw [hle] at HO HLL hll ⊢
        clear hc hle
        go_wp2_with fail
        refine wp_region_held_drew (S := fun w' => (w'.cell? ⟨b, o + i * 3, none⟩ = some (.int .u8 y.kind) ∧ w'.cell? ⟨b, o + i * 3 + 1, none⟩ = some (.int .i64 y.place) ∧ w'.cell? ⟨b, o + i * 3 + 2, none⟩ = some (.int .u64 y.gen)) ∧ w'.cell? ⟨sb, 2, none⟩ = some (.int .i64 (m : Int))) (by kernel_rfl) (by first | exact s0 | exact s1) (fun hHeld => ?_)
        refine tkH 0 rfl ?_
        refine tkH 1 rfl ?_
        refine tkH 2 rfl ?_
        refine tkH 3 rfl ?_
        refine tkH 4 rfl ?_
        refine tkH 7 rfl ?_
        refine tkH 8 rfl ?_
        refine tkH 9 rfl ?_
        refine tkH 10 rfl ?_
        refine rdH 5 rfl fun K hK => ?_
        try simp (maxSteps := 2000000) only [zz1, zz2, zz3]
        go_simp
        go_at_call 22
        refine HSP.out.mono ?_
        clear HSP
        rintro e w5 ⟨A5, c5, rfl, _, _, hb5⟩
        have s1 := HCL.out _ (hd.trans (show Below wr.heap.size wr.drew w5 from hb5))
        have HW5 := Lib.hid (hd.trans (show Below wr.heap.size wr.drew w5 from hb5))
        clear hb5
        try (go_wp2_with fail)
        refine hK.out _ _ (by first | exact s0 | exact s1) (fun hHeld => ?_)
        clear hK K
        try simp (maxSteps := 2000000) only [zz1, zz2, zz3, Act.put, zz4, zz5, zz6]
        refine tkH 6 rfl ?_
        refine tkH 11 rfl ?_
        refine wpAnyH_done (by kernel_rfl) ?_ _
        have HO5 := Lib.hid (HO.out.keep RfIR.stable HW5.out)
        have HB5 := Lib.hid (HB.out.trans (HW5.out.mono HB.out.size))
        obtain ⟨⟨x0, x1, x2⟩, _⟩ := s1
        have hszr := HB5.out.size
        clear s0 hHeld e1 e2 e3
        go_wp2_with (at_builtin; go_must (refine wpList_push1 RfIR.stable RfIR.one sl_ref3 (by rfl) (by rfl) (base := w.heap.size) (S := fun _ => True) (cs := #[.int .u8 y.kind, .int .i64 y.place, .int .u64 y.gen]) (y := y) (by rfl) (by rfl) HO5.out (by rfl) (by rfl) (by unfold maxLen; omega) (by omega) hszr ?_); intro A8 c8 ug hc8 own9 hlt8 hb8 hat8; rw [← HNX.out] at own9; have HO9 := Lib.hid own9; have HB9 := Lib.hid (HB5.out.trans hb8); clear own9 hb8 hlt8 hat8)
        exact ⟨⟨i + 1, A8, c8, hlt, by go_num, by rw [HLL.out], by rw [HLL.out]; exact HO9, HB9⟩, by simp [intOf]; omega⟩
      · have e1 : ¬ (mi : Int) > (m : Int) := by omega
        have e2 : decide ((mi : Int) > (m : Int)) = false := decide_eq_false e1
        have e3 : decide (m < mi) = false := decide_eq_false hc
        rw [if_neg hc, List.append_nil] at HNX
        clear hc
        go_wp2_with fail
        refine wp_region_held_drew (S := fun w' => (w'.cell? ⟨b, o + i * 3, none⟩ = some (.int .u8 y.kind) ∧ w'.cell? ⟨b, o + i * 3 + 1, none⟩ = some (.int .i64 y.place) ∧ w'.cell? ⟨b, o + i * 3 + 2, none⟩ = some (.int .u64 y.gen)) ∧ w'.cell? ⟨sb, 2, none⟩ = some (.int .i64 (m : Int))) (by kernel_rfl) (by first | exact s0 | exact s1) (fun hHeld => ?_)
        refine tkH 0 rfl ?_
        refine tkH 1 rfl ?_
        refine tkH 2 rfl ?_
        refine tkH 3 rfl ?_
        refine tkH 4 rfl ?_
        refine tkH 7 rfl ?_
        refine tkH 8 rfl ?_
        refine tkH 9 rfl ?_
        refine tkH 10 rfl ?_
        refine rdH 5 rfl fun K hK => ?_
        try simp (maxSteps := 2000000) only [zz1, zz2, zz3]
        go_simp
        go_at_call 22
        refine HSP.out.mono ?_
        clear HSP
        rintro e w5 ⟨A5, c5, rfl, _, _, hb5⟩
        have s1 := HCL.out _ (hd.trans (show Below wr.heap.size wr.drew w5 from hb5))
        have HW5 := Lib.hid (hd.trans (show Below wr.heap.size wr.drew w5 from hb5))
        clear hb5
        try (go_wp2_with fail)
        refine hK.out _ _ (by first | exact s0 | exact s1) (fun hHeld => ?_)
        clear hK K
        try simp (maxSteps := 2000000) only [zz1, zz2, zz3, Act.put, zz4, zz5, zz6]
        refine tkH 6 rfl ?_
        refine tkH 11 rfl ?_
        refine wpAnyH_done (by kernel_rfl) ?_ _
        have HO5 := Lib.hid (HO.out.keep RfIR.stable HW5.out)
        have HB5 := Lib.hid (HB.out.trans (HW5.out.mono HB.out.size))
        clear s0 s1 hHeld
        go_wp2_with fail
        exact ⟨⟨i + 1, AO, cO, hlt, by go_num, by rw [HNX.out], by rw [HNX.out]; exact HO5, HB5⟩, by simp [intOf]; omega⟩
    · have i1 : ¬ (i : Int) < (n : Int) := by omega
      obtain rfl : i = n := by omega
      obtain ⟨A', c', e, hcc, hr⟩ := HO.out.rd (S' := fun j => w.heap.size ≤ j) (fun j hj => hj) (fun cs x hx => hx)
      injection e with h1 _ h2
      subst h1 h2
      have HR9 := Lib.hid hr
      clear hr hcc hlt
      go_wp2_with fail
      go_ret
      exact ⟨AO, ⟨cO, rfl⟩, HR9.out, HB.out⟩
set_option maxRecDepth 100000 in
set_option maxHeartbeats 8000000 in
theorem rsamerefs_any {A1 A2 : Option Addr} {c1 c2 : Nat} {S1 S2 : Nat → Prop} (R1 : RdL RfIR 3 S1 w A1 n rs) (R2 : RdL RfIR 3 S2 w A2 n rs) (hn : n ≤ 1000000) :
    Calls Tryz.prog 28 #[.slice A1 n c1, .slice A2 n c2] w fun e w' => e = .returned (.bool true) ∧ Below w.heap.size w w' := by
  have H1 := Lib.hid R1
  have H2 := Lib.hid R2
  have en : ((n : Int) != (n : Int)) = false := by simp
  clear R1 R2
  go_enter Tryz.func28, Tryz.ntmps28
  go_wp2_with fail
  clear en
  go_loopw [5] (fun vi wr => ∃ i : Nat, i ≤ n ∧ vi = .int .i64 i ∧ Hid (Below w.heap.size w wr)) (fun vi _ => n - (intOf vi).toNat)
  case atStart => exact ⟨0, Nat.zero_le _, rfl, Lib.hid (Below.refl _ _)⟩
  case round =>
    obtain ⟨i, hi, rfl, HB⟩ := hrel
    have p0 : (0 : Int) ≤ (i : Int) := Int.natCast_nonneg _
    by_cases hlt : i < n
    · have p1 : (i : Int) < (n : Int) := by omega
      obtain ⟨b1, o1, y, rfl, hy, _, v0, v1, v2⟩ := rfi_at3 (H1.out.below RfIR.stable HB.out) hlt
      obtain ⟨b2, o2, y2, rfl, hy2, _, u0, u1, u2⟩ := rfi_at3 (H2.out.below RfIR.stable HB.out) hlt
      obtain rfl : y = y2 := Option.some.inj (hy.symm.trans hy2)
      clear hy hy2
      go_wp2_with fail
      refine wp_region_later (by kernel_rfl) (by kernel_rfl) ?_
      repeat (go_big_quiet_step (fail))
      refine wpQuiet_nil ?_
      rintro _ ⟨z, rfl⟩
      go_wp2_with fail
      exact ⟨⟨i + 1, by omega, by go_num, Lib.hid (HB.out.trans (z.ok.mono HB.out.size))⟩, by simp [intOf]; omega⟩
    · have p1 : ¬ (i : Int) < (n : Int) := by omega
      go_wp2_with fail
      go_ret
      exact ⟨rfl, HB.out⟩
end
end
section
attribute [local go_sem ↓] run_max_l

set_option maxRecDepth 100000 in
set_option maxHeartbeats 32000000 in
theorem tells_any {w : World} {k m s pl : Int} {kd gn : Nat} {A1 A2 : Option Addr} {L1 L2 c1 c2 : Nat} {ps : List LPt} {hs : List Hrt} (R1 : Hid (RdL LPtR 4 (fun _ => True) w A1 L1 ps)) (R2 : Hid (RdL HrtR 3 (fun _ => True) w A2 L2 hs)) (hl1 : L1 ≤ maxLen) (hl2 : L2 ≤ maxLen) :
    Calls Tryz.prog 4 #[.agg (geoC k m s), .slice A1 L1 c1, .slice A2 L2 c2, .agg #[.int .u8 (kd : Int), .int .i64 pl, .int .u64 (gn : Int)]] w fun e w' => e = .returned (.bool true) ∧ Below w.heap.size w w' := by
  have hsm := fun w => small_any (w := w) k m s
  have bG := BoxAt.new w (geoC k m s) 23
  have hb0 : Below w.heap.size w (w.alloc (.cells (geoC k m s) 23)) := (Below.refl _ _).alloc (Nat.le_refl _) _
  obtain ⟨WA, hWA⟩ : ∃ W, w.alloc (.cells (geoC k m s) 23) = W := ⟨_, rfl⟩
  rw [hWA] at bG hb0
  have bR := BoxAt.new WA #[.int .u8 (kd : Int), .int .i64 pl, .int .u64 (gn : Int)] 38
  have bG1 := bG.alloc (.cells #[.int .u8 (kd : Int), .int .i64 pl, .int .u64 (gn : Int)] 38)
  have hb1 : Below w.heap.size w (WA.alloc (.cells #[.int .u8 (kd : Int), .int .i64 pl, .int .u64 (gn : Int)] 38)) := hb0.alloc hb0.size _
  obtain ⟨W, hW⟩ : ∃ W, WA.alloc (.cells #[.int .u8 (kd : Int), .int .i64 pl, .int .u64 (gn : Int)] 38) = W := ⟨_, rfl⟩
  rw [hW] at bR bG1 hb1
  obtain ⟨q, hq⟩ : ∃ q, w.heap.size = q := ⟨_, rfl⟩
  obtain ⟨p, hp⟩ : ∃ p, WA.heap.size = p := ⟨_, rfl⟩
  rw [hq] at bG1
  rw [hp] at bR
  have HBG := Lib.hid bG1
  have HBR := Lib.hid bR
  have HB1 := Lib.hid hb1
  have g0 := bG1.cell 0
  have g1 := bG1.cell 1
  have g2 := bG1.cell 2
  clear bG hb0 bR bG1 hb1
  unfold geoC at hsm hWA g0 g1 g2 ⊢
  go_enter Tryz.func4, Tryz.ntmps4
  go_wp2_with fail
  refine (hsm _).mono ?_
  rintro e w1 ⟨rfl, hb1⟩
  have HB2 := Lib.hid hb1
  clear hsm hb1 g0 g1 g2 hWA hW
  obtain ⟨Bs, hBs⟩ : ∃ B, smallB k m s = B := ⟨_, rfl⟩
  rw [hBs]
  have HBS := Lib.hid hBs
  clear hBs
  cases Bs with
  | false =>
    go_wp2_with fail
    refine (counts_any (w := w1)).mono ?_
    rintro e w2 ⟨rfl, hb2⟩
    have HB3 := Lib.hid (HB1.out.trans ((HB2.out.trans (hb2.mono HB2.out.size)).mono HB1.out.size))
    clear hb2
    go_wp2_with fail
    go_ret
    exact ⟨rfl, by first | exact HB3.out | (rw [← hq]; exact HB3.out)⟩
  | true =>
    have HW1 := Lib.hid (HB1.out.trans (HB2.out.mono HB1.out.size))
    go_wp2_with fail
    refine (lfew_any (R1.out.below LPtR.stable HW1.out) hl2 hl1).mono ?_
    rintro e w2 hfq
    unfold FewQ at hfq
    obtain ⟨B, rfl, hB, hb2⟩ := hfq
    have HW2 := Lib.hid (HW1.out.trans (hb2.mono HW1.out.size))
    have HFW := Lib.hid (show ∀ (b : Nat) (cs : Array Value), BoxAt W b cs → BoxAt w2 b cs from fun _ _ h => (h.below HB2.out).below hb2)
    have HFR := HFW
    clear hb2
    cases B with
    | false =>
      go_wp2_with fail
      refine (counts_any (w := w2)).mono ?_
      rintro e w3 ⟨rfl, hb3⟩
      have HB3 := Lib.hid (HW2.out.trans (hb3.mono HW2.out.size))
      clear hb3
      go_wp2_with fail
      go_ret
      exact ⟨rfl, by first | exact HB3.out | (rw [← hq]; exact HB3.out)⟩
    | true =>
      obtain ⟨h12, h30, h500⟩ := hB rfl
      have hs5 : 1 ≤ k ∧ 1 ≤ m ∧ k + m ≤ 10 ∧ 1 ≤ s ∧ s ≤ 8 := of_decide_eq_true HBS.out
      obtain ⟨K, rfl⟩ : ∃ K : Nat, k = K := ⟨k.toNat, by omega⟩
      obtain ⟨M, rfl⟩ : ∃ M : Nat, m = M := ⟨m.toNat, by omega⟩
      obtain ⟨N, rfl⟩ : ∃ N : Nat, s = N := ⟨s.toNat, by omega⟩
      have hp5 : 1 ≤ K ∧ 1 ≤ M ∧ K + M ≤ 10 ∧ 1 ≤ N ∧ N ≤ 8 := by omega
      have hG2 := HFW.out _ _ HBG.out
      unfold geoC at hG2
      have g0 := hG2.cell 0
      have g1 := hG2.cell 1
      have g2 := hG2.cell 2
      have HRF := Lib.hid (HFR.out _ _ HBR.out)
      have hd := done_any (c1 := c1) (c2 := c2) (k := K) (m := M) (n := N) hp5.1 hp5.2.1 (by omega) hp5.2.2.2.1 (by omega) (R1.out.below LPtR.stable HW2.out) (R2.out.below HrtR.stable HW2.out) h12 h30 h500
      unfold geoC at hd
      have HDO := Lib.hid hd
      have q1 : (L1 : Int) ≤ 12 := by omega
      have q2 : (0 : Int) ≤ (L1 : Int) := by omega
      clear hd hB hs5 h30
      go_wp2_with fail
      refine HDO.out.mono ?_
      clear HDO
      rintro e w3 hde
      unfold DoneE at hde
      obtain ⟨a, cb, bf, sb, sts, V, x, ra, rfl, hD, hT, hGd, _⟩ := hde
      have HSB := Lib.hid hD.bx
      have HRA := Lib.hid hD.ra
      have HTI := Lib.hid hT
      have HM3 := Lib.hid (show MX NoB w2 w3 a cb bf K M N sts from hD.mx.sub fun j hj => hj.elim)
      have HGD := Lib.hid hGd
      have HW3 := Lib.hid (HW2.out.trans (hD.mx.bel.mono HW2.out.size))
      have hR3 := HRF.out.below hD.mx.bel
      have hG3 := hG2.below hD.mx.bel
      have r0 := hR3.cell 0
      have r1 := hR3.cell 1
      have r2 := hR3.cell 2
      have HNA := Lib.hid (named_any (c1 := c1) (kd := kd) (gn := gn) (pl := pl) (R1.out.below LPtR.stable HW3.out) h12)
      have HG3 := Lib.hid hG3
      clear hD hT hGd g0 g1 g2 hG2 hR3 hG3
      go_wp2_with fail
      refine HNA.out.mono ?_
      clear HNA r0 r1 r2
      rintro e w4 ⟨A4, c4, rfl, hc4, hr4, hb4⟩
      have HW4 := Lib.hid (HW3.out.trans (hb4.mono HW3.out.size))
      have HM4 := Lib.hid (HM3.out.below' hb4)
      have HG4 := Lib.hid (HG3.out.below hb4)
      have hlen : L1 + 1 ≤ 13 := by omega
      obtain ⟨rs, hrs⟩ : ∃ rs, namesL ps ⟨(kd : Int), pl, (gn : Int)⟩ = rs := ⟨_, rfl⟩
      obtain ⟨ns, hns⟩ : ∃ ns, nmL ps (kd, pl, gn) = ns := ⟨_, rfl⟩
      have hrn : rs = ns.map nmR := by rw [← hrs, ← hns]; exact nm_names ps (kd, pl, gn)
      rw [hrs] at hr4
      obtain ⟨L, hL⟩ : ∃ L, L1 + 1 = L := ⟨_, rfl⟩
      rw [hL] at hr4 hlen hc4
      have HR4 := Lib.hid hr4
      have HLN := Lib.hid hr4.1
      have HRN := Lib.hid hrn
      have l1 : (L : Int) ≤ 13 := by omega
      have l2 : (0 : Int) ≤ (L : Int) := by omega
      have HWS := Lib.hid (show ∀ i r, rs[i]? = some r → WhC w4 (.pointer (some ⟨a, 0, none⟩)) (.pointer (some ⟨cb, 0, none⟩)) r (gsN sts N K (K + M) ns i) (K + M) by rw [hrn]; exact HM4.out.whs HGD.out ns)
      obtain ⟨gs, hgs⟩ : ∃ gs, gs = gsN sts N K (K + M) ns := ⟨_, rfl⟩
      have HGS := Lib.hid hgs
      clear hgs
      have HRS := Lib.hid (show ∀ i r, rs[i]? = some r → RWh w4 sb r (gs i) (K + M) by
        intro i r hr
        rw [hrn, List.getElem?_map] at hr
        obtain ⟨y, hy, rfl⟩ := Option.map_eq_some_iff.1 hr
        rw [HGS.out]
        unfold gsN
        rw [hy]
        exact (rwh_any HSB.out HRA.out HTI.out (by omega) HGD.out HM3.out.mid.ok (by omega) (by omega) (by omega) y.1 y.2.2 y.2.1).below hb4)
      have HSB4 := Lib.hid (HSB.out.below hb4)
      rw [← HGS.out] at HWS
      clear hb4 hr4 hrs hns hrn
      go_wp2_with fail
      go_loopw [13] (fun vi wr => ∃ i : Nat, i ≤ L ∧ vi = .int .i64 i ∧ Hid (Below w4.heap.size w4 wr)) (fun vi _ => L - (intOf vi).toNat)
      case atStart => exact ⟨0, Nat.zero_le _, rfl, Lib.hid (Below.refl _ _)⟩
      case round =>
        obtain ⟨i, hi, rfl, HB⟩ := hrel
        have i0 : (0 : Int) ≤ (i : Int) := Int.natCast_nonneg _
        by_cases hlt : i < L
        · have i1 : (i : Int) < (L : Int) := by omega
          obtain ⟨b, o, x9, rfl, hx, hbl, x0, x1, x2⟩ := rfi_at3 HR4.out hlt
          have hx' := hx
          rw [HRN.out, List.getElem?_map] at hx'
          obtain ⟨y, hy, rfl⟩ := Option.map_eq_some_iff.1 hx'
          have HCL := Lib.hid (show ∀ w', Below w4.heap.size w4 w' → (w'.cell? ⟨b, o + i * 3, none⟩ = some (.int .u8 (y.1 : Int)) ∧ w'.cell? ⟨b, o + i * 3 + 1, none⟩ = some (.int .i64 y.2.1) ∧ w'.cell? ⟨b, o + i * 3 + 2, none⟩ = some (.int .u64 (y.2.2 : Int))) from fun w' hb => ⟨(hb.cell (p := ⟨b, o + i * 3, none⟩) hbl).trans x0, (hb.cell (p := ⟨b, o + i * 3 + 1, none⟩) hbl).trans x1, (hb.cell (p := ⟨b, o + i * 3 + 2, none⟩) hbl).trans x2⟩)
          have HWI := Lib.hid (HWS.out i _ hx)
          have HRI := Lib.hid (HRS.out i _ hx)
          have hd := HB.out.drew
          have s0 := HCL.out _ hd
          have HD0 := Lib.hid hd
          have HP1 := Lib.hid (fun w' (hb : Below w4.heap.size w4 w') => spots_any (HM4.out.cnt.below hb) (HWI.out.below hb) (by omega))
          have HP2 := Lib.hid (fun w' (hb : Below w4.heap.size w4 w') => rspots_any (HSB4.out.below hb) rfl (by omega) (by omega) (HRI.out.below hb))
          have HP3 := Lib.hid (fun w' (hb : Below w4.heap.size w4 w') => missing_any (HM4.out.cnt.below hb) (HWI.out.below hb) (by omega))
          have hmi : (missL (gs i) (K + M)).length ≤ 10 := by
            have h9 : (missL (gs i) (K + M)).length ≤ K + M := misN_le gs (K + M) i
            omega
          have hmz := missZ_len (gs i) (K + M)
          obtain ⟨zl, hzl⟩ : ∃ z, missZ (gs i) (K + M) = z := ⟨_, rfl⟩
          obtain ⟨mi, hmi2⟩ : ∃ mi, (missL (gs i) (K + M)).length = mi := ⟨_, rfl⟩
          rw [hzl] at HP1 HP2
          rw [hmi2] at HP1 HP2 HP3 hmi
          have e1 : ((mi : Int) != (mi : Int)) = false := by simp
          have HMI := Lib.hid hmi
          clear hx hx' hy x0 x1 x2 hd hmz hzl hmi2 hmi
          go_wp2_with fail
          refine wp_region_held_drew (S := fun w' => w'.cell? ⟨b, o + i * 3, none⟩ = some (.int .u8 (y.1 : Int)) ∧ w'.cell? ⟨b, o + i * 3 + 1, none⟩ = some (.int .i64 y.2.1) ∧ w'.cell? ⟨b, o + i * 3 + 2, none⟩ = some (.int .u64 (y.2.2 : Int))) (by kernel_rfl) (by with_reducible first | assumption | exact s0 | exact s5 | exact s6 | exact s7 | exact s8 | exact s9) (fun hHeld => ?_)
          refine tkH 0 rfl ?_
          refine tkH 1 rfl ?_
          refine tkH 2 rfl ?_
          refine tkH 3 rfl ?_
          refine tkH 4 rfl ?_
          refine tkH 5 rfl ?_
          refine tkH 7 rfl ?_
          refine tkH 8 rfl ?_
          refine tkH 9 rfl ?_
          refine tkH 10 rfl ?_
          refine tkH 11 rfl ?_
          refine rdH 6 rfl fun K hK => ?_
          try simp (maxSteps := 2000000) only [zz1, zz2, zz3]
          go_simp
          go_at_call 21
          refine (HP1.out _ HD0.out).mono ?_
          rintro e w5 ⟨A5, c5, rfl, _, hr5, hb5⟩
          have s5 := HCL.out _ (HD0.out.trans (hb5.mono HD0.out.size))
          have HB5 := Lib.hid (HD0.out.trans (hb5.mono HD0.out.size))
          have HR5 := Lib.hid hr5
          clear hb5 hr5
          try (go_wp2_with fail)
          refine hK.out _ _ (by with_reducible first | assumption | exact s0 | exact s5 | exact s6 | exact s7 | exact s8 | exact s9) (fun hHeld => ?_)
          clear hK K
          try simp (maxSteps := 2000000) only [zz1, zz2, zz3, Act.put, zz4, zz5, zz6]
          refine rdH 12 rfl fun K hK => ?_
          try simp (maxSteps := 2000000) only [zz1, zz2, zz3]
          go_simp
          go_at_call 22
          refine (HP2.out _ HB5.out).mono ?_
          rintro e w6 ⟨A6, c6, rfl, _, hr6, hb6⟩
          have s6 := HCL.out _ (HB5.out.trans (hb6.mono HB5.out.size))
          have HB6 := Lib.hid (HB5.out.trans (hb6.mono HB5.out.size))
          have HR6 := Lib.hid hr6
          have HR56 := Lib.hid (HR5.out.below IntR.stable hb6)
          clear hb6 hr6
          try (go_wp2_with fail)
          refine hK.out _ _ (by with_reducible first | assumption | exact s0 | exact s5 | exact s6 | exact s7 | exact s8 | exact s9) (fun hHeld => ?_)
          clear hK K
          try simp (maxSteps := 2000000) only [zz1, zz2, zz3, Act.put, zz4, zz5, zz6]
          refine rdH 13 rfl fun K hK => ?_
          try simp (maxSteps := 2000000) only [zz1, zz2, zz3]
          go_simp
          go_at_call 20
          refine (ints7_same HR56.out HR6.out (by have := HMI.out; omega)).mono ?_
          rintro e w7 ⟨rfl, hb7⟩
          have s7 := HCL.out _ (HB6.out.trans (hb7.mono HB6.out.size))
          have HB7 := Lib.hid (HB6.out.trans (hb7.mono HB6.out.size))
          clear hb7
          try (go_wp2_with fail)
          refine hK.out _ _ (by with_reducible first | assumption | exact s0 | exact s5 | exact s6 | exact s7 | exact s8 | exact s9) (fun hHeld => ?_)
          clear hK K
          try simp (maxSteps := 2000000) only [zz1, zz2, zz3, Act.put, zz4, zz5, zz6]
          refine tkH 14 rfl ?_
          refine tkH 15 rfl ?_
          refine tkH 16 rfl ?_
          refine tkH 17 rfl ?_
          refine tkH 18 rfl ?_
          refine tkH 19 rfl ?_
          refine tkH 20 rfl ?_
          refine tkH 21 rfl ?_
          refine tkH 23 rfl ?_
          refine tkH 24 rfl ?_
          refine tkH 25 rfl ?_
          refine tkH 26 rfl ?_
          refine tkH 27 rfl ?_
          refine rdH 22 rfl fun K hK => ?_
          try simp (maxSteps := 2000000) only [zz1, zz2, zz3]
          go_simp
          go_at_call 23
          refine (HP3.out _ HB7.out).mono ?_
          rintro e w8 ⟨rfl, hb8⟩
          have s8 := HCL.out _ (HB7.out.trans (hb8.mono HB7.out.size))
          have HB8 := Lib.hid (HB7.out.trans (hb8.mono HB7.out.size))
          clear hb8
          try (go_wp2_with fail)
          refine hK.out _ _ (by with_reducible first | assumption | exact s0 | exact s5 | exact s6 | exact s7 | exact s8 | exact s9) (fun hHeld => ?_)
          clear hK K
          try simp (maxSteps := 2000000) only [zz1, zz2, zz3, Act.put, zz4, zz5, zz6]
          refine rdH 28 rfl fun K hK => ?_
          try simp (maxSteps := 2000000) only [zz1, zz2, zz3]
          go_simp
          go_at_call 22
          refine (HP2.out _ HB8.out).mono ?_
          rintro e w9 ⟨A9, c9, rfl, _, _, hb9⟩
          have s9 := HCL.out _ (HB8.out.trans (hb9.mono HB8.out.size))
          have HB9 := Lib.hid (HB8.out.trans (hb9.mono HB8.out.size))
          clear hb9
          try (go_wp2_with fail)
          refine hK.out _ _ (by with_reducible first | assumption | exact s0 | exact s5 | exact s6 | exact s7 | exact s8 | exact s9) (fun hHeld => ?_)
          clear hK K
          try simp (maxSteps := 2000000) only [zz1, zz2, zz3, Act.put, zz4, zz5, zz6]
          refine tkH 29 rfl ?_
          refine tkH 30 rfl ?_
          refine tkH 31 rfl ?_
          refine wpAnyH_done (by kernel_rfl) ?_ _
          go_wp2_with fail
          exact ⟨⟨i + 1, hlt, by go_num, HB9⟩, by simp [intOf]; omega⟩
        · have i1 : ¬ (i : Int) < (L : Int) := by omega
          obtain rfl : i = L := by omega
          have hR9 := HR4.out.below RfIR.stable HB.out
          have hwc := HM4.out.cnt
          have HWc := Lib.hid (fun w' (hb : Below w4.heap.size w4 w') => (Lib.hid fun j r hr => (HWS.out j r hr).below hb : Hid (∀ j r, rs[j]? = some r → WhC w' (.pointer (some ⟨a, 0, none⟩)) (.pointer (some ⟨cb, 0, none⟩)) r (gs j) (K + M))))
          have HRc := Lib.hid (fun w' (hb : Below w4.heap.size w4 w') => (Lib.hid fun j r hr => (HRS.out j r hr).below hb : Hid (∀ j r, rs[j]? = some r → RWh w' sb r (gs j) (K + M))))
          have hz := lost_nil0 gs (K + M) M rs i
          have HT1 := Lib.hid (fun w' (hb : Below w4.heap.size w4 w') => ltotal_any (c := c4) (HR4.out.below RfIR.stable hb) (by omega) (HM4.out.cnt.below hb) (by omega) (HWc.out _ hb))
          have HT2 := Lib.hid (fun w' (hb : Below w4.heap.size w4 w') => rtotal_any (c := c4) (HR4.out.below RfIR.stable hb) (by omega) (HSB4.out.below hb) rfl (by omega) (by omega) (HRc.out _ hb))
          have HW1 := Lib.hid (fun w' (hb : Below w4.heap.size w4 w') => lworst_any (c := c4) (HR4.out.below RfIR.stable hb) (by omega) (HM4.out.cnt.below hb) (by omega) (HWc.out _ hb))
          have HW2' := Lib.hid (fun w' (hb : Below w4.heap.size w4 w') => rworst_any (c := c4) (HR4.out.below RfIR.stable hb) (by omega) (HSB4.out.below hb) rfl (by omega) (by omega) (HRc.out _ hb))
          have HL1 := Lib.hid (fun w' (hb : Below w4.heap.size w4 w') => llost_any (c := c4) (HR4.out.below RfIR.stable hb) (by omega) (HM4.out.cnt.below hb) (by omega) (HWc.out _ hb) (HM4.out.cmt.below hb))
          have HL2 := Lib.hid (fun w' (hb : Below w4.heap.size w4 w') => rlost_any (c := c4) (HR4.out.below RfIR.stable hb) (by omega) (HSB4.out.below hb) rfl (by omega) (by omega) (HRc.out _ hb))
          have HI1 := Lib.hid (fun w' (hb : Below w4.heap.size w4 w') => lwithin_any (c := c4) (HR4.out.below RfIR.stable hb) (by omega) (HM4.out.cnt.below hb) (by omega) (HWc.out _ hb) (HM4.out.cmt.below hb))
          have HP1 := Lib.hid (fun w' (hb : Below w4.heap.size w4 w') => lspare_any (c := c4) (HR4.out.below RfIR.stable hb) (by omega) (HM4.out.cnt.below hb) (by omega) (HWc.out _ hb) (HM4.out.cmt.below hb) (by omega))
          rw [if_neg (show ¬ K + M = 0 by omega)] at HP1
          have hml : maxM gs (K + M) i ≤ 10 := by have := maxM_le gs (K + M) i; omega
          have hll := lostL_len gs (K + M) M rs i
          have HLL := Lib.hid hll
          obtain ⟨sm, hsm⟩ : ∃ z, sumM gs (K + M) i = z := ⟨_, rfl⟩
          obtain ⟨mx, hmx⟩ : ∃ z, maxM gs (K + M) i = z := ⟨_, rfl⟩
          obtain ⟨ls, hls⟩ : ∃ z, lostL gs (K + M) M rs i = z := ⟨_, rfl⟩
          rw [hsm] at HT1 HT2
          rw [hmx] at HW1 HW2' HI1 HP1 hml hz
          rw [hls] at HL1 HL2 hz HLL
          obtain ⟨ll, hlle⟩ : ∃ z, ls.length = z := ⟨_, rfl⟩
          rw [hlle] at HL2 hz HLL
          have HLE := Lib.hid hlle
          have HZ := Lib.hid hz
          have e1 : ((sm : Int) == (sm : Int)) = true := by simp
          have e2 : ((mx : Int) == (mx : Int)) = true := by simp
          have e3 : (decide (mx ≤ M) == ((ll : Int) == 0)) = true := by
            by_cases h0 : ll = 0
            · rw [decide_eq_true (hz.1 h0), h0]; rfl
            · rw [decide_eq_false (fun h9 => h0 (hz.2 h9))]
              have : ((ll : Int) == 0) = false := by simpa using h0
              rw [this]; rfl
          obtain ⟨sp, hsp⟩ : ∃ z, max (-1) ((M : Int) - (mx : Int)) = z := ⟨_, rfl⟩
          have e4 : (sp == sp) = true := by simp
          have hsb : IntKind.i64.wrap ((M : Int) - (mx : Int)) = (M : Int) - (mx : Int) := by rw [IntKind.wrap_i64]; omega
          rw [hsp] at HP1
          have hd := HB.out.drew
          have s0 : wr.drew.cell? ⟨q, 1, none⟩ = some (.int .i64 (M : Int)) := (HG4.out.below hd).cell 1
          have HD0 := Lib.hid hd
          have i2 : decide ((i : Int) < (i : Int)) = false := by simp
          clear hR9 hwc hz hlt hi i0 hll hsm hmx hls hlle hml hd
          go_wp2_with fail
          refine wp_region_held_drew (S := fun w' => w'.cell? ⟨q, 1, none⟩ = some (.int .i64 (M : Int))) (by kernel_rfl) (by with_reducible first | assumption | exact s0 | exact s5) (fun hHeld => ?_)
          refine tkH 0 rfl ?_
          refine tkH 1 rfl ?_
          refine tkH 2 rfl ?_
          refine tkH 3 rfl ?_
          refine rdH 4 rfl fun K hK => ?_
          try simp (maxSteps := 2000000) only [zz1, zz2, zz3]
          go_simp
          go_at_call 24
          refine (HW2'.out _ HD0.out).mono ?_
          rintro e w5 ⟨rfl, hb5⟩
          have s5 : w5.cell? ⟨q, 1, none⟩ = some (.int .i64 (M : Int)) := (HG4.out.below (HD0.out.trans (hb5.mono HD0.out.size))).cell 1
          have HB5 := Lib.hid (HD0.out.trans (hb5.mono HD0.out.size))
          clear hb5
          try (go_wp2_with fail)
          refine hK.out _ _ (by with_reducible first | assumption | exact s0 | exact s5) (fun hHeld => ?_)
          clear hK K
          try simp (maxSteps := 2000000) only [zz1, zz2, zz3, Act.put, zz4, zz5, zz6]
          refine tkH 5 rfl ?_
          refine tkH 6 rfl ?_
          refine tkH 7 rfl ?_
          refine wpAnyH_done (by kernel_rfl) ?_ _
          clear s0 s5 hHeld
          go_wp2_with fail
          refine (HL2.out _ HB5.out).mono ?_
          rintro e w6 ⟨A6, c6, rfl, hr6, hb6⟩
          have HB6 := Lib.hid (HB5.out.trans (hb6.mono HB5.out.size))
          have HR6 := Lib.hid hr6
          clear hb6 hr6
          go_wp2_with fail
          refine (HT1.out _ HB6.out).mono ?_
          rintro e w7 ⟨rfl, hb7⟩
          have HB7 := Lib.hid (HB6.out.trans (hb7.mono HB6.out.size))
          have HR7 := Lib.hid (HR6.out.below RfIR.stable hb7)
          clear hb7
          go_wp2_with fail
          refine (HT2.out _ HB7.out).mono ?_
          rintro e w8 ⟨rfl, hb8⟩
          have HB8 := Lib.hid (HB7.out.trans (hb8.mono HB7.out.size))
          have HR8 := Lib.hid (HR7.out.below RfIR.stable hb8)
          clear hb8
          go_wp2_with fail
          refine (HW1.out _ HB8.out).mono ?_
          rintro e w9 ⟨rfl, hb9⟩
          have HB9 := Lib.hid (HB8.out.trans (hb9.mono HB8.out.size))
          have HR9 := Lib.hid (HR8.out.below RfIR.stable hb9)
          clear hb9
          go_wp2_with fail
          refine (HW2'.out _ HB9.out).mono ?_
          rintro e w10 ⟨rfl, hb10⟩
          have HB10 := Lib.hid (HB9.out.trans (hb10.mono HB9.out.size))
          have HR10 := Lib.hid (HR9.out.below RfIR.stable hb10)
          clear hb10
          go_wp2_with fail
          refine (HL1.out _ HB10.out).mono ?_
          rintro e w11 ⟨A11, l11, c11, rfl, _, hr11, hb11⟩
          have hl11 : ll = l11 := by rw [← HLE.out]; exact hr11.1
          subst hl11
          have HB11 := Lib.hid (HB10.out.trans (hb11.mono HB10.out.size))
          have hsa := rsamerefs_any (c1 := c11) (c2 := c6) hr11 (HR10.out.below RfIR.stable hb11) (by have := HLL.out; omega)
          have HSA := Lib.hid hsa
          clear hb11 hr11 hsa
          go_wp2_with fail
          refine HSA.out.mono ?_
          clear HSA
          rintro e w12 ⟨rfl, hb12⟩
          have HB12 := Lib.hid (HB11.out.trans (hb12.mono HB11.out.size))
          clear hb12
          go_wp2_with fail
          refine (HI1.out _ HB12.out).mono ?_
          rintro e w13 ⟨rfl, hb13⟩
          have HB13 := Lib.hid (HB12.out.trans (hb13.mono HB12.out.size))
          clear hb13
          go_wp2_with fail
          refine (HP1.out _ HB13.out).mono ?_
          rintro e w14 ⟨rfl, hb14⟩
          have HB14 := Lib.hid (HB13.out.trans (hb14.mono HB13.out.size))
          clear hb14
          go_wp2_with fail
          refine (counts_any (w := w14)).mono ?_
          rintro e w15 ⟨rfl, hb15⟩
          have HB15 := Lib.hid (HW4.out.trans ((HB14.out.trans (hb15.mono HB14.out.size)).mono HW4.out.size))
          clear hb15
          go_wp2_with fail
          go_ret
          exact ⟨rfl, by first | exact HB15.out | (rw [← hq]; exact HB15.out)⟩
end
section
open Go.ChangeShapes Go.WideShapes Go.ChangeAt Go.Deep
theorem opens_by : Opens Tryz.prog 5 ByR 1 :=
  ⟨by kernel_rfl, by omega, fun H enc w base spare held fuel cs x _ hx => by
    obtain ⟨n, rfl, _, hw⟩ := DataW.trod_int Tryz.underlying5 hx
    have h2 : 0 ≤ n ∧ n ≤ 255 := by
      simp [Lit.wf, IntKind.min, IntKind.max, IntKind.signed, IntKind.bits] at hw
      omega
    exact ⟨n.toNat, by omega, by rw [show ((n.toNat : Nat) : Int) = n by omega]⟩⟩
theorem u64_bounds {z : Int} (h : (Lit.int .u64 z).wf = true) : 0 ≤ z ∧ z < 18446744073709551616 := by
  simp [Lit.wf, IntKind.min, IntKind.max, IntKind.bits, IntKind.signed] at h
  omega
set_option maxRecDepth 100000 in
theorem open_geo {H : Type} {enc : TypeId × Value → H} {w : World} {base b0 : Nat} {spare : Nat → Bool} {held : Bool} {r : Reach} {v : Value} {d : DataW H} {ps : List MemPlace}
    (hval : Value.okWide Tryz.prog w r b0 23 v) (h : DataW.Trod enc Tryz.prog w base spare held 23 v d ps) : ∃ k m s : Int, v = .agg #[.int .i64 k, .int .i64 m, .int .i64 s] := by
  obtain ⟨cs, rfl, hsz⟩ := okWide_struct Tryz.underlying23 hval
  obtain ⟨fuel, hx⟩ := h
  have h5 : cs.size = 3 := hsz.trans (by kernel_rfl)
  have hl : (Value.agg cs).cells.toList.length = 3 := by simpa [Value.cells] using h5
  obtain ⟨xs, n, _, _, hlen, hxl, hf⟩ := DataW.trod_struct Tryz.underlying23 hx
  have e0 : (Value.agg cs).cells.toList = cs.toList := rfl
  rw [e0] at hf hl
  match hc : cs.toList, hl with
  | [c0, c1, c2], _ =>
    rw [hc] at hf
    have f0 := hf 0 _ rfl
    have f1 := hf 1 _ rfl
    have f2 := hf 2 _ rfl
    have k1 : Tryz.prog.cellsOf 3 = 1 := by kernel_rfl
    have hx3 : xs.length = 3 := hxl
    simp only [List.getElem_toArray, List.getElem_cons_zero, List.getElem_cons_succ, k1, List.drop_zero, List.drop_succ_cons, List.take_succ_cons, List.take_zero] at f0 f1 f2
    rw [List.getElem?_eq_getElem (by omega)] at f0 f1 f2
    obtain ⟨s, e1, _, _⟩ := DataW.trod_int Tryz.underlying3 f0
    obtain ⟨t, e2, _, _⟩ := DataW.trod_int Tryz.underlying3 f1
    obtain ⟨u, e3, _, _⟩ := DataW.trod_int Tryz.underlying3 f2
    simp only [List.cons.injEq, and_true] at e1 e2 e3
    subst e1; subst e2; subst e3
    refine ⟨s, t, u, ?_⟩
    rw [show cs = cs.toList.toArray by simp, hc]
end
section
open Go.ChangeShapes Go.WideShapes Go.ChangeAt Go.Deep
theorem sl_pt30 : Tryz.prog.underlying 24 = some (.slice 108) := by kernel_rfl
theorem sl_ht30 : Tryz.prog.underlying 25 = some (.slice 110) := by kernel_rfl
theorem u8_bnd {z : Int} (h : (Lit.int .u8 z).wf = true) : 0 ≤ z ∧ z < 256 := by
  simp [Lit.wf, IntKind.min, IntKind.max, IntKind.signed, IntKind.bits] at h
  omega
def NmR (_ : Nat → Prop) (_ : World) (cs : List Value) (x : Nm) : Prop := cs = [.int .u8 (x.1 : Int), .int .i64 x.2.1, .int .u64 (x.2.2 : Int)] ∧ x.1 < 256 ∧ x.2.2 < 2 ^ 64
set_option maxRecDepth 100000 in
theorem opens_nm : Opens Tryz.prog 38 NmR 3 := by
  refine ⟨by kernel_rfl, by omega, fun H enc w base spare held fuel cs x hl hx => ?_⟩
  obtain ⟨xs, n, _, _, hlen, hxl, hf⟩ := DataW.trod_struct Tryz.underlying38 hx
  match cs, hl with
  | [c0, c1, c2], _ =>
    have f0 := hf 0 _ rfl
    have f1 := hf 1 _ rfl
    have f2 := hf 2 _ rfl
    have k1 : Tryz.prog.cellsOf 5 = 1 := by kernel_rfl
    have k2 : Tryz.prog.cellsOf 3 = 1 := by kernel_rfl
    have k3 : Tryz.prog.cellsOf 36 = 1 := by kernel_rfl
    have hx3 : xs.length = 3 := hxl
    simp only [List.getElem_toArray, List.getElem_cons_zero, List.getElem_cons_succ, k1, k2, k3, List.drop_zero, List.drop_succ_cons, List.take_succ_cons, List.take_zero] at f0 f1 f2
    rw [List.getElem?_eq_getElem (by omega)] at f0 f1 f2
    obtain ⟨a, e0, _, wa⟩ := DataW.trod_int Tryz.underlying5 f0
    obtain ⟨z, e1, _, _⟩ := DataW.trod_int Tryz.underlying3 f1
    obtain ⟨g, e2, _, wg⟩ := DataW.trod_int Tryz.underlying36 f2
    simp only [List.cons.injEq, and_true] at e0 e1 e2
    subst e0; subst e1; subst e2
    obtain ⟨h0, h1⟩ := u8_bnd wa
    obtain ⟨h2, h3⟩ := u64_bounds wg
    exact ⟨(a.toNat, z, g.toNat), by show [_, _, _] = [Value.int .u8 ((a.toNat : Nat) : Int), .int .i64 z, Value.int .u64 ((g.toNat : Nat) : Int)]; rw [show ((a.toNat : Nat) : Int) = a by omega, show ((g.toNat : Nat) : Int) = g by omega], by show a.toNat < 256; omega, by show g.toNat < 2 ^ 64; omega⟩
set_option maxRecDepth 100000 in
theorem opens_pt30 : Opens Tryz.prog 108 LPtR 4 := by
  refine ⟨by kernel_rfl, by omega, fun H enc w base spare held fuel cs x hl hx => ?_⟩
  obtain ⟨xs, n, _, _, hlen, hxl, hf⟩ := DataW.trod_struct Tryz.underlying108 hx
  match cs, hl with
  | [c0, c1, c2, c3], _ =>
    have f0 := hf 0 _ rfl
    have f1 := hf 1 _ rfl
    have k1 : Tryz.prog.cellsOf 38 = 3 := by kernel_rfl
    have k2 : Tryz.prog.cellsOf 68 = 1 := by kernel_rfl
    have hx3 : xs.length = 2 := hxl
    simp only [List.getElem_toArray, List.getElem_cons_zero, List.getElem_cons_succ, k1, k2, List.drop_zero, List.drop_succ_cons, List.take_succ_cons, List.take_zero] at f0 f1
    rw [List.getElem?_eq_getElem (by omega)] at f0 f1
    obtain ⟨y, e1, hy1, hy2⟩ := opens_nm.2.2 _ _ _ _ _ _ _ _ _ rfl f0
    obtain ⟨A, n2, c, ys, e2, hnc, _, hr⟩ := opens_slice sl_by.und opens_by f1
    simp only [List.cons.injEq, and_true] at e1 e2
    obtain ⟨rfl, rfl, rfl⟩ := e1
    subst e2
    exact ⟨⟨y.1, y.2.1, y.2.2, ys⟩, A, n2, c, rfl, hnc, hr, hy1, hy2⟩
set_option maxRecDepth 100000 in
theorem opens_ht30 : Opens Tryz.prog 110 HrtR 3 := by
  refine ⟨by kernel_rfl, by omega, fun H enc w base spare held fuel cs x hl hx => ?_⟩
  obtain ⟨xs, n, _, _, hlen, hxl, hf⟩ := DataW.trod_struct Tryz.underlying110 hx
  match cs, hl with
  | [c0, c1, c2], _ =>
    have f0 := hf 0 _ rfl
    have f1 := hf 1 _ rfl
    have f2 := hf 2 _ rfl
    have k2 : Tryz.prog.cellsOf 3 = 1 := by kernel_rfl
    have hx3 : xs.length = 3 := hxl
    simp only [List.getElem_toArray, List.getElem_cons_zero, List.getElem_cons_succ, k2, List.drop_zero, List.drop_succ_cons, List.take_succ_cons, List.take_zero] at f0 f1 f2
    rw [List.getElem?_eq_getElem (by omega)] at f0 f1 f2
    obtain ⟨a, e0, _, _⟩ := DataW.trod_int Tryz.underlying3 f0
    obtain ⟨z, e1, _, _⟩ := DataW.trod_int Tryz.underlying3 f1
    obtain ⟨g, e2, _, _⟩ := DataW.trod_int Tryz.underlying3 f2
    simp only [List.cons.injEq, and_true] at e0 e1 e2
    subst e0; subst e1; subst e2
    exact ⟨⟨a, z, g⟩, rfl⟩
set_option maxRecDepth 100000 in
/-- A name among the arguments. -/
theorem open_nm {H : Type} {enc : TypeId × Value → H} {w : World} {base b0 : Nat} {spare : Nat → Bool} {held : Bool} {r : Reach} {v : Value} {d : DataW H} {ps : List MemPlace}
    (hval : Value.okWide Tryz.prog w r b0 38 v) (h : DataW.Trod enc Tryz.prog w base spare held 38 v d ps) :
    ∃ (a g : Nat) (z : Int), v = .agg #[.int .u8 (a : Int), .int .i64 z, .int .u64 (g : Int)] ∧ a < 256 ∧ g < 2 ^ 64 := by
  obtain ⟨cs, rfl, hsz⟩ := okWide_struct Tryz.underlying38 hval
  obtain ⟨fuel, hf⟩ := h
  have h5 : cs.size = 3 := hsz.trans opens_nm.1
  have hl : (Value.agg cs).cells.toList.length = 3 := by simpa [Value.cells] using h5
  obtain ⟨y, e, h1, h2⟩ := opens_nm.2.2 _ _ _ _ _ _ _ _ _ hl hf
  refine ⟨y.1, y.2.2, y.2.1, ?_, h1, h2⟩
  have e2 : cs.toList = _ := e
  rw [← e2]
end
end Go.Proofs.YtihnlhfngmbglaaGreat
