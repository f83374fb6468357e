/-
  A value is put.
  Whether a blob may be; how long its stripes should be.
  A value is got.
  A law's base: rows, and places of a pool: is it small?
  A law's base: drives, a coder and a pool are made.
  A value is put: no room, too long.
  Without drives, a coder or a pool nothing is put or got; too long a value is not put.
  What is taken of a pool is free no more; a value's stripes lie on the drives as they were put, and stay.
  What a region's operations keep may be sharpened on the way.
  blob.Put while nothing came back to the pool: the places follow each other.
  A value's stripes, by name.
  The document's count of a value's stripes.
  A value's stripes as the document names them.
  May a blob be, as the document says?
  A number put as few bytes.
  A value's name as bytes.
-/
import Derived.Test.YtcliejdiaohamaaGreatBr12
import Derived.Test.YtcliejdiaohamaaGreatBr11
import Derived.Test.YtcliejdiaohamaaGreatBr8
set_option linter.unusedSimpArgs false
set_option linter.unusedVariables false
namespace Go.Proofs.YtcliejdiaohamaaGreat
open Go.RowKit Go.Cib
attribute [local go_sem] cell_set Later.cell Later.frozen Grw.cell Grw.frozen
def bRef (ps : List Int) (gen : Nat) (i : Nat) : Ref := ⟨3, (ps.getD i 0).toNat, gen + i⟩
def bPc (k : Nat) (xs : List Nat) (i : Nat) : List Nat := (xs.drop (i * (k * 44))).take (k * 44)
/-- The drives behind the first i stripes. -/
def putB (n k N : Nat) (ps : List Int) (gen : Nat) (xs : List Nat) (sts : List DSt) : Nat → List DSt
  | 0 => sts
  | i + 1 => (putB n k N ps gen xs sts i).mapIdx (putQ n k N (bRef ps gen i) (bPc k xs i))
theorem putB_cache {n k N : Nat} {ps : List Int} {gen : Nat} {xs : List Nat} {sts : List DSt} {c : Nat} (h : ∀ st ∈ sts, st.cache.length < c) : ∀ i, ∀ st ∈ putB n k N ps gen xs sts i, st.cache.length < c + i
  | 0, st, hst => h st hst
  | i + 1, st, hst => by
    rw [putB] at hst
    obtain ⟨d, hd, rfl⟩ := List.mem_iff_getElem.1 hst
    obtain ⟨s1, h1, e⟩ := mapIdx_at (List.getElem?_eq_getElem hd)
    rw [e]
    have h2 := putB_cache h i s1 (List.mem_of_getElem? h1)
    have h3 := putQ_cache (n := n) (k := k) (N := N) (d := d) (r := bRef ps gen i) (xs := bPc k xs i) (st := s1)
    omega
theorem cntN_mul {k size i : Nat} (hk : 1 ≤ k) (hi : i < cntN k size) : i * (k * 44) < size := by
  unfold cntN at hi
  have h1 := (Nat.le_div_iff_mul_le (show 0 < k * 44 by omega)).1 (show i + 1 ≤ _ from hi)
  rw [Nat.add_mul] at h1
  omega
def BPutE (P X : Nat → Prop) (w0 w : World) (a cb bf k m n p o l go gl ep ct fs np M size : Nat) (wo wl : List Nat) (xs : List Nat) (sts : List DSt) (e : Ending) (w' : World) : Prop :=
  ∃ A c S', e = .returned (.tuple #[.agg (blobC A M c ((ep * 1048576 + ct : Nat) : Int) (size : Int)), .int .i64 0]) ∧ M ≤ c ∧ RdL IntR 1 S' w' A M (((frI wo np).take M).map fun x => x + (fs : Int)) ∧ (∀ j, S' j → w.heap.size ≤ j ∧ j < w'.heap.size) ∧
    PoolAt w' p o l go gl ep (ct + M) fs np (takeW np wo ((frI wo np).take M)) wl ∧ MidP P (fun j => X j ∨ S' j) w0 w' a cb bf k m n (putB n k (k + m) (((frI wo np).take M).map fun x => x + (fs : Int)) (ep * 1048576 + ct) xs sts M) ∧ KpX X w w'
section
variable {P X S : Nat → Prop} {w0 w w' : World} {a p o l go gl ep ct fs np n cb bf k m : Nat} {wo wl : List Nat} {sts : List DSt}
set_option maxRecDepth 100000 in
set_option maxHeartbeats 16000000 in
theorem bput_any (h : MidP P X w0 w a cb bf k m n sts) (hP : PoolAt w p o l go gl ep ct fs np wo wl) (hPB : ∀ j, PoolB p o l go gl j → P j) {A : Option Addr} {size cx : Nat} {xs : List Nat} (R : RdL ByR 1 S w A size xs) (hSX : ∀ j, S j → X j) (hcx : size ≤ cx) (hs : size ≤ 400) (he : ep < 1099511627776) (hct : ct + cntN k size ≤ 1048576) (hfr : cntN k size ≤ (freeL wo np).length) (hnp : fs + np ≤ n) (hcl : ∀ st ∈ sts, st.cache.length < 800000) :
    Calls Tryz.prog 40 #[.pointer (some ⟨a, 0, none⟩), .pointer (some ⟨cb, 0, none⟩), .pointer (some ⟨p, 0, none⟩), .slice A size cx] w fun e w' => BPutE P X w0 w a cb bf k m n p o l go gl ep ct fs np (cntN k size) size wo wl xs sts e w' := by
  have hpos := h.pos
  have hM4 := cntN_le hpos.1 size
  have hb0 : Below w.heap.size w (w.alloc (.cells #[.slice none 0 0, .int .u64 0, .int .i64 0] 61)) := (Below.refl _ _).alloc (Nat.le_refl _) _
  have bB := BoxAt.new w #[.slice none 0 0, .int .u64 0, .int .i64 0] 61
  obtain ⟨w1, hw1⟩ : ∃ w1, w.alloc (.cells #[.slice none 0 0, .int .u64 0, .int .i64 0] 61) = w1 := ⟨_, rfl⟩
  obtain ⟨q, hq⟩ : ∃ q, w.heap.size = q := ⟨_, rfl⟩
  rw [hw1] at hb0 bB
  rw [hq] at bB
  have hM1 := h.below hb0
  have hP1 := hP.below hb0
  have han := an_p hM1
  have HM1 := Lib.hid hM1
  have HP1 := Lib.hid hP1
  have HB0 := Lib.hid hb0
  have BB := Lib.hid bB
  have HQ := Lib.hid hq
  have HMU := Lib.hid (fun i (hi : i < cntN k size) => cntN_mul hpos.1 hi)
  have HH := Lib.hid h
  have HR := Lib.hid R
  have q0 : (0 : Int) ≤ (size : Int) := Int.natCast_nonneg _
  have q1 : (size : Int) ≤ 400 := by omega
  obtain ⟨N, hN⟩ : ∃ N, k + m = N := ⟨_, rfl⟩
  have hcn := fun (w2 : World) (hb : Below w1.heap.size w1 w2) => cn_any (hM1.cod.below hb)
  have hpc := fun (w2 : World) (hb : Below w1.heap.size w1 w2) => pcopy_any (hP1.below hb)
  have htk := fun (w2 : World) (hb : Below w1.heap.size w1 w2) => taken_any (hM1.cod.below hb) (hP1.below hb) (size := size) (by omega) he hct hfr
  rw [hN] at han hcn
  have e0 : ((N : Int) == 0) = false := by simp; omega
  have HCN := Lib.hid hcn
  have HPC := Lib.hid hpc
  have HTK := Lib.hid htk
  have HN := Lib.hid hN
  have HCL := Lib.hid hcl
  have HPB := Lib.hid hPB
  have HSX := Lib.hid hSX
  have HE := Lib.hid he
  have HCTX := Lib.hid hct
  have HFR := Lib.hid hfr
  obtain ⟨M, hM⟩ : ∃ M, cntN k size = M := ⟨_, rfl⟩
  have HMM := Lib.hid hM
  clear h hP hM1 hP1 hb0 bB hcn hpc htk hN hcl hPB hSX R he hct hfr hM
  go_enter Tryz.func40, Tryz.ntmps40
  go_wp2_with fail
  refine han.mono ?_
  clear han hw1
  rintro e w2 ⟨rfl, hb2⟩
  have hcn2 := HCN.out w2 hb2
  have HB2 := Lib.hid hb2
  clear hb2
  go_wp2_with fail
  refine hcn2.mono ?_
  clear hcn2
  rintro e w3 ⟨rfl, hb3⟩
  have HB3 := Lib.hid (HB2.out.trans (hb3.mono HB2.out.size))
  have hpc3 := HPC.out w3 HB3.out
  clear hb3 HB2
  go_wp2_with fail
  refine hpc3.mono ?_
  clear hpc3
  rintro e w4 ⟨zc, rfl, hb4⟩
  have HB4 := Lib.hid (HB3.out.trans (hb4.mono HB3.out.size))
  have htk4 := HTK.out w4 HB4.out
  clear hb4 HB3
  go_wp2_with fail
  refine htk4.mono ?_
  clear htk4
  rintro e w5 ⟨A5, c5, rfl, hc5, hr5, hP5, hK5⟩
  rw [HMM.out] at hc5 hr5 hP5 hM4 ⊢
  obtain ⟨G, hG⟩ : ∃ G, ep * 1048576 + ct = G := ⟨_, rfl⟩
  rw [hG]
  have hG64 : Hid (G + M < 2 ^ 64) := Lib.hid (by have := HE.out; have := HCTX.out; rw [HMM.out] at this; omega)
  have HG := Lib.hid hG
  obtain ⟨ps, hps⟩ : ∃ ps, ((frI wo np).take M).map (fun x => x + (fs : Int)) = ps := ⟨_, rfl⟩
  rw [hps] at hr5
  have hpl : ps.length = M := hr5.1
  have hpb : ∀ x ∈ ps, 0 ≤ x ∧ x < (n : Int) := fun x hx => by
    rw [← hps] at hx
    obtain ⟨y, hy, rfl⟩ := List.mem_map.1 hx
    obtain ⟨j, hj, rfl⟩ := List.mem_map.1 (List.mem_of_mem_take hy)
    have := List.mem_range.1 (List.mem_filter.1 hj).1
    omega
  have hKP : Keep P w4 w5 := hK5.mono (fun j hj _ => by
    rcases hj with rfl | rfl
    · exact HPB.out _ (.inr (.inr (.inr (.inl rfl))))
    · exact HPB.out _ (.inl rfl))
  have hM4' := HM1.out.below' HB4.out
  have hM5 := hM4'.poolN hKP
  have hK45 := (hM4'.pool hKP).2
  have hs1 := HB0.out.size
  have hs4 := HB4.out.size
  have hs5 := hKP.size
  have hw1s := BB.out.lt
  have bB5 := hK45.box (BB.out.below HB4.out) (.inr (by have := HQ.out; omega))
  have bQ := BoxAt.new w5 (blobC A5 M c5 (G : Int) (size : Int)) 61
  have hb6 : Below w5.heap.size w5 (w5.alloc (.cells (blobC A5 M c5 (G : Int) (size : Int)) 61)) := (Below.refl _ _).alloc (Nat.le_refl _) _
  obtain ⟨w6, hw6⟩ : ∃ w6, w5.alloc (.cells (blobC A5 M c5 (G : Int) (size : Int)) 61) = w6 := ⟨_, rfl⟩
  obtain ⟨qb, hqb⟩ : ∃ qb, w5.heap.size = qb := ⟨_, rfl⟩
  have hs6 : w6.heap.size = qb + 1 := by rw [← hw6, ← hqb, World.size_alloc]
  rw [hw6] at bQ hb6
  rw [hqb] at bQ
  have hM6 := hM5.below hb6
  obtain ⟨XX, hXX⟩ : ∃ XX : Nat → Prop, (fun j => (((X j ∨ (w.heap.size ≤ j ∧ j < w1.heap.size)) ∨ (w4.heap.size ≤ j ∧ j < w5.heap.size)) ∨ (w5.heap.size ≤ j ∧ j < w6.heap.size))) = XX := ⟨_, rfl⟩
  have hX1 : ∀ j, X j → XX j := fun j hj => by rw [← hXX]; exact .inl (.inl (.inl hj))
  have hXq : XX q := by rw [← hXX]; exact .inl (.inl (.inr (by have := HQ.out; omega)))
  have hXb : XX qb := by rw [← hXX]; exact .inr (by omega)
  have hX5 : ∀ j, w4.heap.size ≤ j ∧ j < w5.heap.size → XX j := fun j hj => by rw [← hXX]; exact .inl (.inr hj)
  rw [hXX] at hM6
  have HM6 := Lib.hid hM6
  have BB6 := Lib.hid (bB5.below hb6)
  have BQ6 := Lib.hid bQ
  have HR6 := Lib.hid ((RdL.bound1 IntR.stable hr5).below IntR.stable hb6)
  have HS56 := Lib.hid (show w5.heap.size ≤ w6.heap.size from hb6.size)
  have HP6 := Lib.hid (hP5.below hb6)
  have HX1 := Lib.hid hX1
  have HXQ := Lib.hid hXq
  have HXB := Lib.hid hXb
  have HX5 := Lib.hid hX5
  have HPS := Lib.hid hps
  have HPL := Lib.hid hpl
  have HPSB := Lib.hid hpb
  have HKX := Lib.hid (show KpX X w w6 from ((KpX.of_below (HB0.out.trans (HB4.out.mono hs1)) (fun j hj => HH.out.lt hj)).trans (hK45.mono (fun j hj => .inl hj))).trans (KpX.of_below hb6 (fun j hj => by have := HH.out.lt hj; omega)))
  have hqw := HQ.out
  have HG2 := Lib.hid hG
  have HW14 := Lib.hid (show q < w4.heap.size by omega)
  have HWS6 := Lib.hid (show w.heap.size ≤ w6.heap.size by omega)
  have HQLT := Lib.hid (show q < qb by omega)
  have c6 : w6.cell? ⟨qb, 0, none⟩ = some (.slice A5 M c5) := bQ.cell 0
  clear hKP hM4' hM5 hK45 hK5 bB5 bQ hM6 hXX hX1 hXq hXb hX5 hr5 hP5 hps hpl hpb hG HM1 HP1 HCN HPC HTK HB0 BB HB4 hb6
  unfold blobC at hw6 ⊢
  go_wp2_with fail
  clear c6 hw6 hqb
  go_loopw [50] (fun vi wr => ∃ i : Nat, i ≤ M ∧ vi = .int .i64 (i : Int) ∧ Hid (MidP P XX w0 wr a cb bf k m n (putB n k (k + m) ps G xs sts i)) ∧ Hid (KpX (fun j => XX j ∨ P j) w6 wr)) (fun vi _ => M - (intOf vi).toNat)
  case atStart => exact ⟨0, Nat.zero_le _, rfl, HM6, Lib.hid KpX.refl⟩
  case round =>
    clear HM6
    obtain ⟨i, hi, rfl, HM, HK⟩ := hrel
    have p0 : (0 : Int) ≤ (i : Int) := Int.natCast_nonneg _
    have bQr := HK.out.box BQ6.out (.inl HXB.out)
    have BQR := Lib.hid bQr
    by_cases hlt : i < M
    · have p1 : (i : Int) < (M : Int) := by omega
      have HRr := Lib.hid (HK.out.rd IntR.stable HR6.out (fun j hj => .inl (HX5.out j hj)))
      have cr : wr.cell? ⟨qb, 0, none⟩ = some (.slice A5 M c5) ∧ wr.cell? ⟨qb, 1, none⟩ = some (.int .u64 (G : Int)) ∧ wr.cell? ⟨qb, 2, none⟩ = some (.int .i64 (size : Int)) := ⟨bQr.cell 0, bQr.cell 1, bQr.cell 2⟩
      obtain ⟨x, hx⟩ : ∃ x, ps[i]? = some x := ⟨_, List.getElem?_eq_getElem (by rw [HPL.out]; exact hlt)⟩
      have hxb := HPSB.out x (List.mem_of_getElem? hx)
      have hnm := name_any (c := c5) (gen := (G : Int)) (size := (size : Int)) HRr.out hlt (by omega) hx
      have hG2 : u64w ((G : Int) + (i : Int)) = (G : Int) + (i : Int) := by unfold u64w; have := hG64.out; omega
      rw [hG2] at hnm
      have hbr : bRef ps G i = ⟨3, x.toNat, G + i⟩ := by unfold bRef; rw [List.getD_eq_getElem?_getD, hx]; rfl
      have hrefC : refC (bRef ps G i) = #[.int .u8 3, .int .i64 x, .int .u64 ((G : Int) + (i : Int))] := by rw [hbr]; unfold refC; rw [show ((x.toNat : Nat) : Int) = x by omega]; push_cast; rfl
      have hrok : (bRef ps G i).ok n := by rw [hbr]; exact ⟨(by decide : 1 ≤ 3), (by decide : 3 ≤ 4), (by show x.toNat < n; omega)⟩
      have hrg : Hid ((bRef ps G i).gen < 2 ^ 64) := Lib.hid (by rw [hbr]; show G + i < _; have := hG64.out; omega)
      have HRC := Lib.hid hrefC
      have HROK := Lib.hid hrok
      have hmu := HMU.out i (by rw [HMM.out]; exact hlt)
      unfold blobC at hnm
      clear hx hbr hrefC hrok hG2 bQr
      go_wp2_with fail
      refine hnm.mono ?_
      clear hnm cr
      rintro e w7 ⟨rfl, hb7⟩
      have HM7 := Lib.hid (HM.out.below' hb7)
      have HK7 := Lib.hid (HK.out.trans (KpX.of_below hb7 (fun j hj => by
        rcases hj with hj | hj
        · exact HM.out.lt hj
        · exact HM.out.ltP hj)))
      have hrm := room_any HM7.out.cod
      clear hb7 HM HK HRr
      go_wp2_with fail
      refine hrm.mono ?_
      clear hrm
      rintro e w8 ⟨rfl, hw8⟩
      rw [hw8]
      clear hw8
      have hKXr := HKX.out.trans (HK7.out.mono fun j hj => .inl (HX1.out j hj))
      have hRx := hKXr.rd ByR.stable HR.out HSX.out
      have hpi := bpiece_any (i := i) (rm := k * 44) hRx hcx (by omega) (by omega) (by omega)
      go_wp2_with fail
      refine hpi.mono ?_
      clear hpi
      rintro e w9 ⟨A9, l9, c9, rfl, hl9, hr9, hle9, hw9⟩
      rw [hw9]
      clear hw9
      have hpu := put_p HM7.out (r := bRef ps G i) HROK.out hrg (fun st hst => by have := putB_cache HCL.out i st hst; omega) hr9 hl9 (by omega)
      have HL9 := Lib.hid hle9
      clear hle9
      rw [HRC.out] at hpu
      have HPU := Lib.hid hpu
      clear hpu hr9 hRx hKXr hmu
      go_wp2_with fail
      refine HPU.out.mono ?_
      clear HPU
      rintro e w10 ⟨rfl, hM10, hK10⟩
      have HM10 := Lib.hid (show MidP P XX w0 w10 a cb bf k m n (putB n k (k + m) ps G xs sts (i + 1)) from hM10)
      have HK10 := Lib.hid (HK7.out.trans hK10)
      clear hM10 hK10 HM7 HK7
      go_wp2_with fail
      exact ⟨⟨i + 1, by omega, by go_num, HM10, HK10⟩, by simp [intOf]; omega⟩
    · have p1 : ¬ (i : Int) < (M : Int) := by omega
      obtain rfl : i = M := by omega
      have bBr := HK.out.box BB6.out (.inl HXQ.out)
      have cr : wr.cell? ⟨qb, 0, none⟩ = some (.slice A5 i c5) ∧ wr.cell? ⟨qb, 1, none⟩ = some (.int .u64 (G : Int)) ∧ wr.cell? ⟨qb, 2, none⟩ = some (.int .i64 (size : Int)) := ⟨bQr.cell 0, bQr.cell 1, bQr.cell 2⟩
      have k0 := bBr.cell 0
      have k1 := bBr.cell 1
      have k2 := bBr.cell 2
      have z0 := bBr.frozen 0
      have z1 := bBr.frozen 1
      have z2 := bBr.frozen 2
      have hqne : ¬ q = qb := by have := HQLT.out; omega
      have HPr := Lib.hid (HP6.out.kp (X := fun j => XX j ∨ P j) HK.out.1 (fun j hj => .inr (HPB.out j hj)))
      have HRr := Lib.hid (HK.out.rd IntR.stable HR6.out (fun j hj => .inl (HX5.out j hj)))
      have HKw := Lib.hid (HKX.out.trans (HK.out.mono fun j hj => .inl (HX1.out j hj)))
      have HWB := Lib.hid HH.out.bel
      have HNX := Lib.hid (fun j (hj : X j) => HH.out.lt hj)
      have HNP := Lib.hid (fun j (hj : PoolB p o l go gl j) => HH.out.ltP (HPB.out j hj))
      clear bQr bBr HCL HMU HN HR HSX
      go_wp2_with fail
      refine bodyPost_ret (v := .tuple #[.agg #[.slice A5 i c5, .int .u64 (G : Int), .int .i64 (size : Int)], .int .i64 0]) (by simp [results, Tryz.results40, go_sem, *]) rfl ?_
      have hKq : ∀ (x y z : Value), Keep (fun j => j = q) wr (((wr.setCell ⟨q, 0, none⟩ x).setCell ⟨q, 1, none⟩ y).setCell ⟨q, 2, none⟩ z) := fun x y z =>
        Keep.setCell (Keep.setCell (Keep.setCell (Keep.refl (fun j => j = q) wr) (p := ⟨q, 0, none⟩) (fun _ => rfl) x) (p := ⟨q, 1, none⟩) (fun _ => rfl) y) (p := ⟨q, 2, none⟩) (fun _ => rfl) z
      have hq1 := HQ.out
      have hs0 := HWB.out.size
      unfold BPutE
      rw [HMM.out, HPS.out, HG2.out]
      have hs56 := HK.out.2
      have hsq := (hKq (.slice A5 i c5) (.int .u64 (G : Int)) (.int .i64 (size : Int))).size
      have h6 := HWS6.out
      have h14 := HW14.out
      refine ⟨A5, c5, fun j => w4.heap.size ≤ j ∧ j < w5.heap.size, rfl, hc5, HRr.out.keep IntR.stable (hKq _ _ _) (fun j hj e => by have h2 : w4.heap.size ≤ j := hj.1; omega), (fun j hj => by have h2 := hj.1; have h3 := hj.2; have h4 := HS56.out; omega), HPr.out.keep (hKq _ _ _) (fun j hj e => by have := HNP.out j hj; omega), (HM.out.own (hKq _ _ _) (fun j hj => by subst hj; exact ⟨HXQ.out, by omega⟩)).sub (fun j hj => hj.elim (HX1.out j) (HX5.out j)), HKw.out.trans ⟨fun j hj => (hKq _ _ _).block j (by have := HNX.out j hj; have := HK.out.2; have := HWS6.out; omega) (fun e => by have := HNX.out j hj; omega), (hKq _ _ _).size⟩⟩
end
end Go.Proofs.YtcliejdiaohamaaGreat

set_option linter.unusedSimpArgs false
set_option linter.unusedVariables false
namespace Go.Proofs.YtcliejdiaohamaaGreat
open Go.RowKit Go.Cib
attribute [local go_sem] cell_set Later.cell Later.frozen Grw.cell Grw.frozen
section
variable {w w' : World} {cb bf k m : Nat}
theorem bcnt_b (h : CodAt w cb bf k m) {size : Int} (hs : Hid (size < 9223372036854775808)) : Calls Tryz.prog 35 #[.pointer (some ⟨cb, 0, none⟩), .int .i64 size] w fun e w' => e = .returned (.int .i64 (cntI k size)) ∧ Below w.heap.size w w' := (bcnt_any h hs).mono fun e w' ⟨h1, h2⟩ => ⟨h1, by rw [h2]; exact Below.refl _ _⟩
def nonB (ps : List Int) : Bool := ps.all fun x => decide (0 ≤ x)
def rightB (k : Nat) (ps : List Int) (size : Int) : Bool := nonB ps && (decide (0 ≤ size) && (decide (size ≤ 400) && decide ((ps.length : Int) = cntI k size)))
theorem nonB_take {ps : List Int} {i : Nat} {x : Int} (h : nonB (ps.take i) = true) (hx : ps[i]? = some x) : nonB (ps.take (i + 1)) = decide (0 ≤ x) := by
  unfold nonB at h ⊢
  rw [List.take_add_one, hx, List.all_append, h]
  simp
theorem nonB_no {ps : List Int} {i : Nat} {x : Int} (hx : ps[i]? = some x) (h : x < 0) : nonB ps = false := by
  unfold nonB
  rw [List.all_eq_false]
  exact ⟨x, List.mem_of_getElem? hx, by simp; omega⟩
set_option maxRecDepth 100000 in
set_option maxHeartbeats 8000000 in
theorem right_any (h : CodAt w cb bf k m) {S : Nat → Prop} {A : Option Addr} {n c : Nat} {gen size : Int} {ps : List Int} (R : RdL IntR 1 S w A n ps) (hn : n ≤ 1000000) :
    Calls Tryz.prog 37 #[.pointer (some ⟨cb, 0, none⟩), .agg (blobC A n c gen size)] w fun e w' => e = .returned (.bool (rightB k ps size)) ∧ Below w.heap.size w w' := by
  have bB := BoxAt.new w (blobC A n c gen size) 61
  have hb1 : Below w.heap.size w (w.alloc (.cells (blobC A n c gen size) 61)) := (Below.refl _ _).alloc (Nat.le_refl _) _
  obtain ⟨w1, hw1⟩ : ∃ w1, w.alloc (.cells (blobC A n c gen size) 61) = w1 := ⟨_, rfl⟩
  obtain ⟨q, hq⟩ : ∃ q, w.heap.size = q := ⟨_, rfl⟩
  rw [hw1] at bB hb1
  rw [hq] at bB
  have HC1 := Lib.hid (h.below hb1)
  have HR1 := Lib.hid (R.below IntR.stable hb1)
  have hnl := R.1
  have HNL := Lib.hid hnl
  have HB1 := Lib.hid hb1
  have BB := Lib.hid bB
  have hql := bB.lt
  have c1 : w1.cell? ⟨q, 0, none⟩ = some (.slice A n c) ∧ w1.cell? ⟨q, 2, none⟩ = some (.int .i64 size) := ⟨bB.cell 0, bB.cell 2⟩
  have q2 : (n : Int) ≤ 1000000 := by omega
  clear h R hnl hb1 bB
  unfold blobC at hw1 ⊢
  go_enter Tryz.func37, Tryz.ntmps37
  go_wp2_with fail
  clear hw1
  go_loopw [10] (fun vi wr => ∃ i : Nat, i ≤ n ∧ vi = .int .i64 (i : Int) ∧ wr = w1 ∧ Hid (nonB (ps.take i) = true)) (fun vi _ => n - (intOf vi).toNat)
  case atStart => exact ⟨0, Nat.zero_le _, rfl, rfl, Lib.hid rfl⟩
  case round =>
    obtain ⟨i, hi, rfl, hwr, HI⟩ := hrel
    rw [hwr]
    clear hwr
    have p0 : (0 : Int) ≤ (i : Int) := Int.natCast_nonneg _
    by_cases hlt : i < n
    · have p1 : (i : Int) < (n : Int) := by omega
      obtain ⟨ba, oa, rfl, _, hba⟩ := HR1.out.addr hlt
      obtain ⟨x, hx, v1⟩ := int_at1 HR1.out hlt
      by_cases hneg : x < 0
      · have HF := Lib.hid (show rightB k ps size = false by unfold rightB; rw [nonB_no hx hneg]; rfl)
        clear hx
        go_wp2_with fail
        go_ret
        exact ⟨by rw [HF.out]; rfl, HB1.out⟩
      · have HI2 := Lib.hid (show nonB (ps.take (i + 1)) = true by rw [nonB_take HI.out hx]; exact decide_eq_true (by omega))
        clear hx HI
        go_wp2_with fail
        exact ⟨⟨i + 1, by omega, by go_num, trivial, HI2⟩, by simp [intOf]; omega⟩
    · have p1 : ¬ (i : Int) < (n : Int) := by omega
      obtain rfl : i = n := by omega
      have hnb : nonB ps = true := by have h1 := HI.out; rwa [List.take_of_length_le (by have := HNL.out; omega)] at h1
      have hrb : rightB k ps size = (decide (0 ≤ size) && (decide (size ≤ 400) && decide ((i : Int) = cntI k size))) := by unfold rightB; rw [hnb, HNL.out, Bool.true_and]
      have hcn := fun hs => fun (y : Later w1.heap.size w1) => bcnt_b (HC1.out.below y.ok) (size := size) hs
      have HRB := Lib.hid hrb
      clear hnb hrb HI
      by_cases h0 : size ≥ 0
      · by_cases h4 : size ≤ 400
        · have hcn2 := hcn (Lib.hid (by omega))
          obtain ⟨ci, hci⟩ : ∃ ci, cntI k size = ci := ⟨_, rfl⟩
          rw [hci] at hcn2
          have HF := Lib.hid (show rightB k ps size = ((i : Int) == ci) by rw [HRB.out, decide_eq_true h0, decide_eq_true h4, hci]; simp [decide_eq_true_eq, beq_iff_eq] <;> rfl)
          clear hcn hci
          go_wp2_with fail
          refine wp_region_later (by kernel_rfl) (by kernel_rfl) ?_
          repeat (go_big_quiet_step ((go_at_call 35; exact Later.call _ (hcn2 _) (Nat.le_refl _))))
          refine wpQuiet_nil ?_
          rintro _ ⟨z, rfl⟩
          clear hcn2
          go_wp2_with fail
          go_ret
          exact ⟨by rw [HF.out]; rfl, HB1.out.trans (z.ok.mono HB1.out.size)⟩
        · have HF := Lib.hid (show rightB k ps size = false by rw [HRB.out, decide_eq_false h4]; simp)
          have f4 : decide (size ≤ 400) = false := decide_eq_false h4
          clear hcn
          go_wp2_with fail
          refine wp_region_later (by kernel_rfl) (by kernel_rfl) ?_
          repeat (go_big_quiet_step (fail))
          refine wpQuiet_nil ?_
          rintro _ ⟨z, rfl⟩
          go_wp2_with fail
          go_ret
          exact ⟨by rw [HF.out]; rfl, HB1.out.trans (z.ok.mono HB1.out.size)⟩
      · have HF := Lib.hid (show rightB k ps size = false by rw [HRB.out, decide_eq_false (by omega : ¬ 0 ≤ size)]; rfl)
        have f0 : decide (size ≥ 0) = false := decide_eq_false h0
        clear hcn
        go_wp2_with fail
        refine wp_region_later (by kernel_rfl) (by kernel_rfl) ?_
        repeat (go_big_quiet_step (fail))
        refine wpQuiet_nil ?_
        rintro _ ⟨z, rfl⟩
        go_wp2_with fail
        go_ret
        exact ⟨by rw [HF.out]; rfl, HB1.out.trans (z.ok.mono HB1.out.size)⟩
attribute [local go_sem ↓] run_min_b
set_option maxRecDepth 100000 in
set_option maxHeartbeats 4000000 in
theorem long_any {A : Option Addr} {n c rm i : Nat} {gen size : Int} (hr : rm ≤ 20000) (hi : i ≤ 1000000) (hs : 0 ≤ size ∧ size ≤ 1000000) :
    Calls Tryz.prog 112 #[.agg (blobC A n c gen size), .int .i64 (rm : Int), .int .i64 (i : Int)] w fun e w' => e = .returned (.int .i64 (min (rm : Int) (size - ((i * rm : Nat) : Int)))) ∧ Below w.heap.size w w' := by
  have bB := BoxAt.new w (blobC A n c gen size) 61
  have hb1 : Below w.heap.size w (w.alloc (.cells (blobC A n c gen size) 61)) := (Below.refl _ _).alloc (Nat.le_refl _) _
  obtain ⟨w1, hw1⟩ : ∃ w1, w.alloc (.cells (blobC A n c gen size) 61) = w1 := ⟨_, rfl⟩
  obtain ⟨q, hq⟩ : ∃ q, w.heap.size = q := ⟨_, rfl⟩
  rw [hw1] at bB hb1
  rw [hq] at bB
  have c1 : w1.cell? ⟨q, 2, none⟩ = some (.int .i64 size) := bB.cell 2
  have HB1 := Lib.hid hb1
  have hmul : i * rm ≤ 1000000 * 20000 := Nat.mul_le_mul hi hr
  obtain ⟨x, hx⟩ : ∃ x, i * rm = x := ⟨_, rfl⟩
  have hxI : (i : Int) * (rm : Int) = (x : Int) := by rw [← hx]; push_cast; rfl
  rw [hx] at hmul ⊢
  have f1 : IntKind.i64.wrap (x : Int) = (x : Int) := by rw [IntKind.wrap_i64]; omega
  have f2 : IntKind.i64.wrap (size - (x : Int)) = size - (x : Int) := by rw [IntKind.wrap_i64]; omega
  clear hb1 bB hx hmul hs
  unfold blobC at hw1 ⊢
  go_enter Tryz.func112, Tryz.ntmps112
  go_wp2_with fail
  go_ret
  exact ⟨rfl, HB1.out⟩
end
end Go.Proofs.YtcliejdiaohamaaGreat

set_option linter.unusedSimpArgs false
set_option linter.unusedVariables false
namespace Go.Proofs.YtcliejdiaohamaaGreat
open Go.RowKit Go.Cib
attribute [local go_sem] cell_set Later.cell Later.frozen Grw.cell Grw.frozen
theorem bPc_next (k : Nat) (xs : List Nat) (i : Nat) : xs.take ((i + 1) * (k * 44)) = xs.take (i * (k * 44)) ++ bPc k xs i := by
  unfold bPc
  rw [Nat.add_mul, Nat.one_mul, List.take_add]
theorem bPc_len (k : Nat) (xs : List Nat) (i : Nat) : (bPc k xs i).length = min (k * 44) (xs.length - i * (k * 44)) := by
  unfold bPc
  rw [List.length_take, List.length_drop]
theorem bPc_all {k size : Nat} (hk : 1 ≤ k) {xs : List Nat} (hl : xs.length = size) : xs.take (cntN k size * (k * 44)) = xs := by
  refine List.take_of_length_le ?_
  rw [hl]
  unfold cntN
  have hr : 0 < k * 44 := by omega
  obtain ⟨r, hre⟩ : ∃ r, k * 44 = r := ⟨_, rfl⟩
  rw [hre] at hr ⊢
  have h1 := Nat.div_add_mod (size + r - 1) r
  have h2 := Nat.mod_lt (size + r - 1) hr
  rw [Nat.mul_comm] at h1
  omega
section
variable {w0 w w' : World} {a n cb bf k m : Nat} {sts : List DSt} {S : Nat → Prop}
theorem room_b (h : CodAt w cb bf k m) : Calls Tryz.prog 105 #[.pointer (some ⟨cb, 0, none⟩)] w fun e w' => e = .returned (.int .i64 ((k * 44 : Nat) : Int)) ∧ Below w.heap.size w w' := (room_any h).mono fun e w' ⟨h1, h2⟩ => ⟨h1, by rw [h2]; exact Below.refl _ _⟩
theorem an_s (h : SMid w0 w a cb bf k m n sts) : Calls Tryz.prog 86 #[.pointer (some ⟨a, 0, none⟩)] w fun e w' => e = .returned (.int .i64 ((k + m : Nat) : Int)) ∧ Below w.heap.size w w' := by
  have hk := h.k1
  have hl := h.len
  obtain ⟨U, C, ⟨v, Fs, ps, hA⟩, hC, hU, hd⟩ := h.ex
  have := an_any (Lib.hid hA) (by omega)
  rw [hl] at this
  exact this
set_option maxRecDepth 100000 in
set_option maxHeartbeats 16000000 in
theorem bget_any (h : SMid w0 w a cb bf k m n sts) {A : Option Addr} {M c G size : Nat} {ps : List Int} {xs : List Nat} {g : Nat → Bool} (R : RdL IntR 1 S w A M ps) (hM : M = cntN k size) (hs : size ≤ 400) (hpb : ∀ x ∈ ps, 0 ≤ x ∧ x < (n : Int)) (hG : Hid (G + M < 2 ^ 64)) (hx : Byt xs) (hl : xs.length = size)
    (hv : ∀ i, i < M → Hds g k (k + m) (bRef ps G i) (bPc k xs i) sts) (hg : k ≤ cntP g (k + m)) :
    Calls Tryz.prog 41 #[.pointer (some ⟨a, 0, none⟩), .pointer (some ⟨cb, 0, none⟩), .agg (blobC A M c (G : Int) (size : Int))] w fun e w' => ∃ A' c', e = .returned (.tuple #[.slice A' size c', .int .i64 0]) ∧ size ≤ c' ∧ RdL ByR 1 (fun j => w.heap.size ≤ j) w' A' size xs ∧ Below w.heap.size w w' := by
  have hk1 := h.k1
  have hM4 := cntN_le hk1 size
  rw [← hM] at hM4
  have bB := BoxAt.new w (blobC A M c (G : Int) (size : Int)) 61
  have hb1 : Below w.heap.size w (w.alloc (.cells (blobC A M c (G : Int) (size : Int)) 61)) := (Below.refl _ _).alloc (Nat.le_refl _) _
  obtain ⟨w1, hw1⟩ : ∃ w1, w.alloc (.cells (blobC A M c (G : Int) (size : Int)) 61) = w1 := ⟨_, rfl⟩
  obtain ⟨q, hq⟩ : ∃ q, w.heap.size = q := ⟨_, rfl⟩
  rw [hw1] at bB hb1
  rw [hq] at bB
  have hm1 := h.below hb1
  have HM1 := Lib.hid hm1
  have HR1 := Lib.hid (R.below IntR.stable hb1)
  have hpl := R.1
  have han := an_s hm1
  have hcn := fun (w2 : World) (hb : Below w1.heap.size w1 w2) => cn_any (hm1.cod.below hb)
  obtain ⟨N, hN⟩ : ∃ N, k + m = N := ⟨_, rfl⟩
  rw [hN] at han hcn
  have e0 : ((N : Int) == 0) = false := by simp; omega
  have hrb : rightB k ps (size : Int) = true := by
    unfold rightB nonB
    rw [List.all_eq_true.2 (fun x hx => decide_eq_true (hpb x hx).1), cntI_nat hk1, ← hM, hpl, decide_eq_true (by omega : (0 : Int) ≤ (size : Int)), decide_eq_true (by omega : (size : Int) ≤ 400), decide_eq_true rfl]; rfl
  have hri := fun (w2 : World) (hb : Below w1.heap.size w1 w2) => right_any (gen := (G : Int)) (size := (size : Int)) (c := c) (hm1.cod.below hb) (HR1.out.below IntR.stable hb) (by omega)
  rw [hrb] at hri
  have HB1 := Lib.hid hb1
  have BB := Lib.hid bB
  have HCN := Lib.hid hcn
  have HRI := Lib.hid hri
  have HPL := Lib.hid hpl
  have HPB := Lib.hid hpb
  have HV := Lib.hid hv
  have HXB := Lib.hid hx
  have HL := Lib.hid hl
  have HALL := Lib.hid (show xs.take (M * (k * 44)) = xs by rw [hM]; exact bPc_all hk1 hl)
  have HMU := Lib.hid (fun i (hi : i < M) => cntN_mul (size := size) hk1 (by rw [← hM]; exact hi))
  have HKG := Lib.hid hg
  have hkm := h.km
  clear h R hm1 hb1 bB hcn hri hrb hpl hpb hv hx hl hN hM hg
  unfold blobC at hw1 ⊢
  go_enter Tryz.func41, Tryz.ntmps41
  go_wp2_with fail
  refine han.mono ?_
  clear han hw1
  rintro e w2 ⟨rfl, hb2⟩
  have hcn2 := HCN.out w2 hb2
  have HB2 := Lib.hid hb2
  clear hb2
  go_wp2_with fail
  refine hcn2.mono ?_
  clear hcn2
  rintro e w3 ⟨rfl, hb3⟩
  have HB3 := Lib.hid (HB2.out.trans (hb3.mono HB2.out.size))
  have hri3 := HRI.out w3 HB3.out
  have bB3 := BB.out.below HB3.out
  have c3 : w3.cell? ⟨q, 0, none⟩ = some (.slice A M c) ∧ w3.cell? ⟨q, 1, none⟩ = some (.int .u64 (G : Int)) ∧ w3.cell? ⟨q, 2, none⟩ = some (.int .i64 (size : Int)) := ⟨bB3.cell 0, bB3.cell 1, bB3.cell 2⟩
  unfold blobC at hri3
  clear hb3 HB2 bB3
  go_wp2_with fail
  refine hri3.mono ?_
  clear hri3 c3
  rintro e w4 ⟨rfl, hb4⟩
  have HB4 := Lib.hid (HB3.out.trans (hb4.mono HB3.out.size))
  have bB4 := BB.out.below HB4.out
  have c4 : w4.cell? ⟨q, 0, none⟩ = some (.slice A M c) := bB4.cell 0
  have HW4 := Lib.hid (HB1.out.trans (HB4.out.mono HB1.out.size))
  clear hb4 HB3 bB4 HCN HRI
  go_wp2_with fail
  clear c4
  go_loopw [8, 9, 30] (fun vo ve vi wr => ∃ (i ol co : Nat) (Ao : Option Addr), i ≤ M ∧ vi = .int .i64 (i : Int) ∧ ve = .int .i64 0 ∧ vo = .slice Ao ol co ∧ ol ≤ co ∧ Hid (ol = (xs.take (i * (k * 44))).length) ∧ ol ≤ 400 ∧ Hid (OwnL ByR 5 1 w1.heap.size (fun _ => False) wr (.slice Ao ol co) ol (xs.take (i * (k * 44)))) ∧ Hid (Below w1.heap.size w1 wr)) (fun _ _ vi _ => M - (intOf vi).toNat)
  case atStart => exact ⟨0, 0, 0, none, Nat.zero_le _, rfl, rfl, rfl, Nat.le_refl _, Lib.hid (by simp), by omega, Lib.hid (by rw [Nat.zero_mul]; exact OwnL.nil_), HB4⟩
  case round =>
    obtain ⟨i, ol, co, Ao, hi, rfl, rfl, rfl, hco, HOL, hol, HO, HB⟩ := hrel
    have p0 : (0 : Int) ≤ (i : Int) := Int.natCast_nonneg _
    by_cases hlt : i < M
    · have p1 : (i : Int) < (M : Int) := by omega
      have hRr := HR1.out.below IntR.stable HB.out
      have bBr := BB.out.below HB.out
      have cr : wr.cell? ⟨q, 0, none⟩ = some (.slice A M c) ∧ wr.cell? ⟨q, 1, none⟩ = some (.int .u64 (G : Int)) ∧ wr.cell? ⟨q, 2, none⟩ = some (.int .i64 (size : Int)) := ⟨bBr.cell 0, bBr.cell 1, bBr.cell 2⟩
      obtain ⟨x, hx⟩ : ∃ x, ps[i]? = some x := ⟨_, List.getElem?_eq_getElem (by rw [HPL.out]; exact hlt)⟩
      have hxb := HPB.out x (List.mem_of_getElem? hx)
      have hnm := name_any (c := c) (gen := (G : Int)) (size := (size : Int)) hRr hlt (by omega) hx
      have hG2 : u64w ((G : Int) + (i : Int)) = (G : Int) + (i : Int) := by unfold u64w; have := hG.out; omega
      rw [hG2] at hnm
      have hbr : bRef ps G i = ⟨3, x.toNat, G + i⟩ := by unfold bRef; rw [List.getD_eq_getElem?_getD, hx]; rfl
      have hrefC : refC (bRef ps G i) = #[.int .u8 3, .int .i64 x, .int .u64 ((G : Int) + (i : Int))] := by rw [hbr]; unfold refC; rw [show ((x.toNat : Nat) : Int) = x by omega]; push_cast; rfl
      have hrok : (bRef ps G i).ok n := by rw [hbr]; exact ⟨(by decide : 1 ≤ 3), (by decide : 3 ≤ 4), (by show x.toNat < n; omega)⟩
      have hrg : Hid ((bRef ps G i).gen < 2 ^ 64) := Lib.hid (by rw [hbr]; show G + i < _; have := hG.out; omega)
      have HRC := Lib.hid hrefC
      have HROK := Lib.hid hrok
      have hmu := HMU.out i hlt
      have hbl := bPc_len k xs i
      rw [HL.out] at hbl
      have hbb : Byt (bPc k xs i) := fun y hy => HXB.out y (List.mem_of_mem_drop (List.mem_of_mem_take hy))
      have hnx := bPc_next k xs i
      have HNX := Lib.hid hnx
      have HBB := Lib.hid hbb
      unfold blobC at hnm
      clear hx hbr hrefC hrok hG2 hRr bBr hnx hbb
      obtain ⟨pl, hple⟩ : ∃ pl, (bPc k xs i).length = pl := ⟨_, rfl⟩
      rw [hple] at hbl
      have HPLE := Lib.hid hple
      have hpl4 : pl ≤ 400 := by omega
      have HPK := Lib.hid (show pl ≤ k * 44 by omega)
      have hplI : (pl : Int) = min (((k * 44 : Nat) : Int)) ((size : Int) - ((i * (k * 44) : Nat) : Int)) := by omega
      have HPLI := Lib.hid hplI
      have hol2 : ol + pl ≤ 400 := by
        have h1 := HOL.out
        rw [List.length_take, HL.out] at h1
        omega
      clear hple hbl hplI
      go_wp2_with fail
      refine hnm.mono ?_
      clear hnm cr
      rintro e w7 ⟨rfl, hb7⟩
      have HB7 := Lib.hid (HB.out.trans (hb7.mono HB.out.size))
      have HO7 := Lib.hid (HO.out.keep ByR.stable hb7)
      have hgt := get_view (g := g) (r := bRef ps G i) (xs := bPc k xs i) (HM1.out.below HB7.out) HROK.out hrg HBB.out (by rw [HPLE.out]; exact HPK.out) (HV.out i hlt)
      rw [HRC.out, HPLE.out] at hgt
      clear hb7 HB HO
      go_wp2_with fail
      refine hgt.mono ?_
      clear hgt
      rintro e w8 ⟨hb8, ⟨hlk, _⟩ | ⟨_, A8, c8, rfl, hc8, hr8⟩⟩
      · exact absurd hlk (by have := HKG.out; omega)
      have HB8 := Lib.hid (HB7.out.trans (hb8.mono HB7.out.size))
      have HO8 := Lib.hid (HO7.out.keep ByR.stable hb8)
      have HR8 := Lib.hid hr8
      have bB8 := BB.out.below HB8.out
      have hrm := fun (y : Later w8.heap.size w8) => room_b (HM1.out.cod.below (HB8.out.trans (y.ok.mono HB8.out.size)))
      have hlo := fun (y : Later w8.heap.size w8) => long_any (w := y.to) (A := A) (n := M) (c := c) (gen := (G : Int)) (size := (size : Int)) (rm := k * 44) (i := i) (by omega) (by omega) (by omega)
      rw [← HPLI.out] at hlo
      have c8q : w8.cell? ⟨q, 0, none⟩ = some (.slice A M c) ∧ w8.cell? ⟨q, 1, none⟩ = some (.int .u64 (G : Int)) ∧ w8.cell? ⟨q, 2, none⟩ = some (.int .i64 (size : Int)) := ⟨bB8.cell 0, bB8.cell 1, bB8.cell 2⟩
      have hq8 := bB8.lt
      unfold blobC at hlo
      clear hb8 HB7 HO7 hr8 bB8
      push_cast at hrm hlo
      go_wp2_with fail
      refine wp_region_later (by kernel_rfl) (by kernel_rfl) ?_
      repeat (go_big_quiet_step (first | (go_at_call 105; exact Later.call _ (hrm _) (Nat.le_refl _)) | (go_at_call 112; exact Later.call _ (hlo _) (Nat.le_refl _))))
      refine wpQuiet_nil ?_
      rintro _ ⟨z, rfl⟩
      clear hrm hlo c8q
      have HO9 := Lib.hid (HO8.out.keep ByR.stable z.ok)
      have HR9 := Lib.hid (HR8.out.below ByR.stable z.ok)
      have HB9 := Lib.hid (HB8.out.trans (z.ok.mono HB8.out.size))
      have hsz9 := HB9.out.size
      have HOL2 := Lib.hid (show ol + pl = (xs.take ((i + 1) * (k * 44))).length by rw [HNX.out, List.length_append, ← HOL.out, HPLE.out])
      clear HO8 HR8 HB8
      go_wp2_with (at_builtin; go_must (refine wpList_appL ByR.stable ByR.one sl_by rfl (by exact rfl) (base := w1.heap.size) (S := fun _ => False) (n := ol) (xs := xs.take (i * (k * 44))) (by exact rfl) HO9.out (by exact rfl) HR9.out (fun _ _ h => h) (by unfold maxLen; omega) (by omega) hsz9 ?_); intro A3 c3 w9 hc3 hown hg3 hat; rw [← HNX.out] at hown; have HOW := Lib.hid hown; have HBW := Lib.hid (Below.grown HB9.out hg3 hsz9 (fun k hk => (HO9.out.lt k hk).1)); clear hown hg3 hat)
      exact ⟨⟨i + 1, ol + pl, c3, A3, by omega, by go_num, rfl, rfl, hc3, HOL2, hol2, HOW, HBW⟩, by simp [intOf]; omega⟩
    · have p1 : ¬ (i : Int) < (M : Int) := by omega
      obtain rfl : i = M := by omega
      rw [HALL.out] at HO HOL
      go_wp2_with fail
      go_ret2
      obtain ⟨A', c', e, _, hr⟩ := HO.out.rd (S' := fun j => w.heap.size ≤ j) (fun j hj => by have := HB1.out.size; show w.heap.size ≤ j; omega) (fun cs x hx => hx)
      injection e with e1 _ e2
      subst e1; subst e2
      have hos : ol = size := by rw [HOL.out, HL.out]
      subst hos
      subst hq
      exact ⟨Ao, co, rfl, hco, hr, HB1.out.trans (HB.out.mono HB1.out.size)⟩
end
end Go.Proofs.YtcliejdiaohamaaGreat

set_option linter.unusedSimpArgs false
set_option linter.unusedVariables false
namespace Go.Proofs.YtcliejdiaohamaaGreat
open Go.RowKit Go.Cib
attribute [local go_sem] cell_set Later.cell Later.frozen Grw.cell Grw.frozen
def baseC (k m f c : Int) : Array Value := #[.int .i64 k, .int .i64 m, .int .i64 f, .int .i64 c]
end Go.Proofs.YtcliejdiaohamaaGreat

set_option linter.unusedSimpArgs false
set_option linter.unusedVariables false
namespace Go.Proofs.YtcliejdiaohamaaGreat
open Go.RowKit Go.Cib
attribute [local go_sem] cell_set Later.cell Later.frozen Grw.cell Grw.frozen
set_option maxRecDepth 100000 in
set_option maxHeartbeats 8000000 in
theorem bmade_any {w0 w : World} {k m f c : Nat} (hbel : Below w0.heap.size w0 w) (k1 : 1 ≤ k) (m1 : 1 ≤ m) (km : k + m ≤ 255) (c1 : 1 ≤ c) (c2 : c ≤ 400) (hfc : f + c ≤ 600) :
    Calls Tryz.prog 39 #[.agg (baseC k m f c)] w fun e w' => ∃ a cb bf p o l go gl, e = .returned (.tuple #[.pointer (some ⟨a, 0, none⟩), .pointer (some ⟨cb, 0, none⟩), .pointer (some ⟨p, 0, none⟩)]) ∧ MidP (PoolB p o l go gl) (fun j => j < w.heap.size) w0 w' a cb bf k m (f + c) (List.replicate (k + m) (DSt.new (f + c))) ∧ PoolAt w' p o l go gl 0 0 f c (List.replicate ((c + 63) / 64) 0) (List.replicate ((c + 63) / 64) 0) ∧ Below w.heap.size w w' := by
  have hb0 : Below w.heap.size w (w.alloc (.cells (baseC k m f c) 76)) := (Below.refl _ _).alloc (Nat.le_refl _) _
  have bG := BoxAt.new w (baseC k m f c) 76
  obtain ⟨N, hN⟩ : ∃ N, k + m = N := ⟨_, rfl⟩
  obtain ⟨n, hn⟩ : ∃ n, f + c = n := ⟨_, rfl⟩
  have hnw := fun w => anew_any N n (by omega) (by omega) (by omega) (by omega) w
  have hfn := fun w => fldnew_any (w := w)
  have hcn := fun w b base F hb => new_anyS (w := w) (b := b) (base := base) (k := k) (m := m) F hb k1 m1 km
  have hpn := fun w => pnew_any (w := w) (fs := f) (n := c) c1 c2 hfc
  have q0 : (k : Int) + (m : Int) = (N : Int) := by omega
  have q1 : IntKind.i64.wrap (N : Int) = (N : Int) := by rw [IntKind.wrap_i64]; omega
  have q2 : (f : Int) + (c : Int) = (n : Int) := by omega
  have q3 : IntKind.i64.wrap (n : Int) = (n : Int) := by rw [IntKind.wrap_i64]; omega
  have HN := Lib.hid hN
  have Hn := Lib.hid hn
  have HR := Lib.hid (show 1 ≤ n ∧ n ≤ 600 from ⟨by omega, by omega⟩)
  unfold baseC at hb0 bG ⊢
  go_enter Tryz.func39, Tryz.ntmps39
  go_wp2_with fail
  obtain ⟨wA, hwA⟩ : ∃ wA, w.alloc (.cells #[.int .i64 (k : Int), .int .i64 (m : Int), .int .i64 (f : Int), .int .i64 (c : Int)] 76) = wA := ⟨_, rfl⟩
  rw [hwA] at hb0 bG ⊢
  obtain ⟨q, hq⟩ : ∃ q, w.heap.size = q := ⟨_, rfl⟩
  have HQ := Lib.hid hq
  rw [hq] at bG ⊢
  clear hwA hN hn hq c1 c2 hfc
  have bGd : BoxAt wA.drew q #[.int .i64 (k : Int), .int .i64 (m : Int), .int .i64 (f : Int), .int .i64 (c : Int)] := bG.keep rfl
  have hd : Below w.heap.size w wA.drew := hb0.drew
  have s0 : wA.drew.cell? ⟨q, 0, none⟩ = some (.int .i64 (k : Int)) ∧ wA.drew.cell? ⟨q, 1, none⟩ = some (.int .i64 (m : Int)) ∧ wA.drew.cell? ⟨q, 2, none⟩ = some (.int .i64 (f : Int)) ∧ wA.drew.cell? ⟨q, 3, none⟩ = some (.int .i64 (c : Int)) := ⟨bGd.cell 0, bGd.cell 1, bGd.cell 2, bGd.cell 3⟩
  refine wp_region_held_drew (S := fun w' => w'.cell? ⟨q, 0, none⟩ = some (.int .i64 (k : Int)) ∧ w'.cell? ⟨q, 1, none⟩ = some (.int .i64 (m : Int)) ∧ w'.cell? ⟨q, 2, none⟩ = some (.int .i64 (f : Int)) ∧ w'.cell? ⟨q, 3, none⟩ = some (.int .i64 (c : Int))) (by kernel_rfl) (by first | exact s0 | exact s5 | exact s6 | exact s7 | exact s8) (fun hHeld => ?_)
  refine wpAnyH_take (i := 0) (v := ?_) rfl (by kernel_rfl) (by kernel_rfl) (by kernel_rfl) (fun _ _ _ h => h) (Or.inl ⟨by first | kernel_rfl | rfl, ?_⟩) (by assumption) ?_
  rotate_left
  · (intro wq hSw; (try dsimp only at hSw); (try simp (maxSteps := 2000000) only [List.getElem_toArray, List.getElem_cons_succ, List.getElem_cons_zero]); go_simp); try with_reducible rfl
  try simp (maxSteps := 2000000) only [List.getElem_toArray, List.getElem_cons_succ, List.getElem_cons_zero, Act.put, List.setIfInBounds_toArray, List.set_cons_zero, List.set_cons_succ]
  refine wpAnyH_take (i := 1) (v := ?_) rfl (by kernel_rfl) (by kernel_rfl) (by kernel_rfl) (fun _ _ _ h => h) (Or.inl ⟨by first | kernel_rfl | rfl, ?_⟩) (by assumption) ?_
  rotate_left
  · (intro wq hSw; (try dsimp only at hSw); (try simp (maxSteps := 2000000) only [List.getElem_toArray, List.getElem_cons_succ, List.getElem_cons_zero]); go_simp); try with_reducible rfl
  try simp (maxSteps := 2000000) only [List.getElem_toArray, List.getElem_cons_succ, List.getElem_cons_zero, Act.put, List.setIfInBounds_toArray, List.set_cons_zero, List.set_cons_succ]
  refine wpAnyH_take (i := 2) (v := ?_) rfl (by kernel_rfl) (by kernel_rfl) (by kernel_rfl) (fun _ _ _ h => h) (Or.inl ⟨by first | kernel_rfl | rfl, ?_⟩) (by assumption) ?_
  rotate_left
  · (intro wq hSw; (try dsimp only at hSw); (try simp (maxSteps := 2000000) only [List.getElem_toArray, List.getElem_cons_succ, List.getElem_cons_zero]); go_simp); try with_reducible rfl
  try simp (maxSteps := 2000000) only [List.getElem_toArray, List.getElem_cons_succ, List.getElem_cons_zero, Act.put, List.setIfInBounds_toArray, List.set_cons_zero, List.set_cons_succ]
  refine wpAnyH_take (i := 3) (v := ?_) rfl (by kernel_rfl) (by kernel_rfl) (by kernel_rfl) (fun _ _ _ h => h) (Or.inl ⟨by first | kernel_rfl | rfl, ?_⟩) (by assumption) ?_
  rotate_left
  · (intro wq hSw; (try dsimp only at hSw); (try simp (maxSteps := 2000000) only [List.getElem_toArray, List.getElem_cons_succ, List.getElem_cons_zero]); go_simp); try with_reducible rfl
  try simp (maxSteps := 2000000) only [List.getElem_toArray, List.getElem_cons_succ, List.getElem_cons_zero, Act.put, List.setIfInBounds_toArray, List.set_cons_zero, List.set_cons_succ]
  refine wpAnyH_take (i := 4) (v := ?_) rfl (by kernel_rfl) (by kernel_rfl) (by kernel_rfl) (fun _ _ _ h => h) (Or.inl ⟨by first | kernel_rfl | rfl, ?_⟩) (by assumption) ?_
  rotate_left
  · (intro wq hSw; (try dsimp only at hSw); (try simp (maxSteps := 2000000) only [List.getElem_toArray, List.getElem_cons_succ, List.getElem_cons_zero]); go_simp); try with_reducible rfl
  try simp (maxSteps := 2000000) only [List.getElem_toArray, List.getElem_cons_succ, List.getElem_cons_zero, Act.put, List.setIfInBounds_toArray, List.set_cons_zero, List.set_cons_succ]
  refine wpAnyH_take (i := 5) (v := ?_) rfl (by kernel_rfl) (by kernel_rfl) (by kernel_rfl) (fun _ _ _ h => h) (Or.inl ⟨by first | kernel_rfl | rfl, ?_⟩) (by assumption) ?_
  rotate_left
  · (intro wq hSw; (try dsimp only at hSw); (try simp (maxSteps := 2000000) only [List.getElem_toArray, List.getElem_cons_succ, List.getElem_cons_zero]); go_simp); try with_reducible rfl
  try simp (maxSteps := 2000000) only [List.getElem_toArray, List.getElem_cons_succ, List.getElem_cons_zero, Act.put, List.setIfInBounds_toArray, List.set_cons_zero, List.set_cons_succ]
  refine wpAnyH_take (i := 6) (v := ?_) rfl (by kernel_rfl) (by kernel_rfl) (by kernel_rfl) (fun _ _ _ h => h) (Or.inl ⟨by first | kernel_rfl | rfl, ?_⟩) (by assumption) ?_
  rotate_left
  · (intro wq hSw; (try dsimp only at hSw); (try simp (maxSteps := 2000000) only [List.getElem_toArray, List.getElem_cons_succ, List.getElem_cons_zero]); go_simp); try with_reducible rfl
  try simp (maxSteps := 2000000) only [List.getElem_toArray, List.getElem_cons_succ, List.getElem_cons_zero, Act.put, List.setIfInBounds_toArray, List.set_cons_zero, List.set_cons_succ]
  refine wpAnyH_take (i := 7) (v := ?_) rfl (by kernel_rfl) (by kernel_rfl) (by kernel_rfl) (fun _ _ _ h => h) (Or.inl ⟨by first | kernel_rfl | rfl, ?_⟩) (by assumption) ?_
  rotate_left
  · (intro wq hSw; (try dsimp only at hSw); (try simp (maxSteps := 2000000) only [List.getElem_toArray, List.getElem_cons_succ, List.getElem_cons_zero]); go_simp); try with_reducible rfl
  try simp (maxSteps := 2000000) only [List.getElem_toArray, List.getElem_cons_succ, List.getElem_cons_zero, Act.put, List.setIfInBounds_toArray, List.set_cons_zero, List.set_cons_succ]
  refine wpAnyH_take (i := 8) (v := ?_) rfl (by kernel_rfl) (by kernel_rfl) (by kernel_rfl) (fun _ _ _ h => h) (Or.inl ⟨by first | kernel_rfl | rfl, ?_⟩) (by assumption) ?_
  rotate_left
  · (intro wq hSw; (try dsimp only at hSw); (try simp (maxSteps := 2000000) only [List.getElem_toArray, List.getElem_cons_succ, List.getElem_cons_zero]); go_simp); try with_reducible rfl
  try simp (maxSteps := 2000000) only [List.getElem_toArray, List.getElem_cons_succ, List.getElem_cons_zero, Act.put, List.setIfInBounds_toArray, List.set_cons_zero, List.set_cons_succ]
  refine wpAnyH_take (i := 9) (v := ?_) rfl (by kernel_rfl) (by kernel_rfl) (by kernel_rfl) (fun _ _ _ h => h) (Or.inl ⟨by first | kernel_rfl | rfl, ?_⟩) (by assumption) ?_
  rotate_left
  · (intro wq hSw; (try dsimp only at hSw); (try simp (maxSteps := 2000000) only [List.getElem_toArray, List.getElem_cons_succ, List.getElem_cons_zero]); go_simp); try with_reducible rfl
  try simp (maxSteps := 2000000) only [List.getElem_toArray, List.getElem_cons_succ, List.getElem_cons_zero, Act.put, List.setIfInBounds_toArray, List.set_cons_zero, List.set_cons_succ]
  refine wpAnyH_take (i := 12) (v := ?_) rfl (by kernel_rfl) (by kernel_rfl) (by kernel_rfl) (fun _ _ _ h => h) (Or.inl ⟨by first | kernel_rfl | rfl, ?_⟩) (by assumption) ?_
  rotate_left
  · (intro wq hSw; (try dsimp only at hSw); (try simp (maxSteps := 2000000) only [List.getElem_toArray, List.getElem_cons_succ, List.getElem_cons_zero]); go_simp); try with_reducible rfl
  try simp (maxSteps := 2000000) only [List.getElem_toArray, List.getElem_cons_succ, List.getElem_cons_zero, Act.put, List.setIfInBounds_toArray, List.set_cons_zero, List.set_cons_succ]
  refine wpAnyH_take (i := 13) (v := ?_) rfl (by kernel_rfl) (by kernel_rfl) (by kernel_rfl) (fun _ _ _ h => h) (Or.inl ⟨by first | kernel_rfl | rfl, ?_⟩) (by assumption) ?_
  rotate_left
  · (intro wq hSw; (try dsimp only at hSw); (try simp (maxSteps := 2000000) only [List.getElem_toArray, List.getElem_cons_succ, List.getElem_cons_zero]); go_simp); try with_reducible rfl
  try simp (maxSteps := 2000000) only [List.getElem_toArray, List.getElem_cons_succ, List.getElem_cons_zero, Act.put, List.setIfInBounds_toArray, List.set_cons_zero, List.set_cons_succ]
  refine wpAnyH_take (i := 14) (v := ?_) rfl (by kernel_rfl) (by kernel_rfl) (by kernel_rfl) (fun _ _ _ h => h) (Or.inl ⟨by first | kernel_rfl | rfl, ?_⟩) (by assumption) ?_
  rotate_left
  · (intro wq hSw; (try dsimp only at hSw); (try simp (maxSteps := 2000000) only [List.getElem_toArray, List.getElem_cons_succ, List.getElem_cons_zero]); go_simp); try with_reducible rfl
  try simp (maxSteps := 2000000) only [List.getElem_toArray, List.getElem_cons_succ, List.getElem_cons_zero, Act.put, List.setIfInBounds_toArray, List.set_cons_zero, List.set_cons_succ]
  refine wpAnyH_take (i := 15) (v := ?_) rfl (by kernel_rfl) (by kernel_rfl) (by kernel_rfl) (fun _ _ _ h => h) (Or.inl ⟨by first | kernel_rfl | rfl, ?_⟩) (by assumption) ?_
  rotate_left
  · (intro wq hSw; (try dsimp only at hSw); (try simp (maxSteps := 2000000) only [List.getElem_toArray, List.getElem_cons_succ, List.getElem_cons_zero]); go_simp); try with_reducible rfl
  try simp (maxSteps := 2000000) only [List.getElem_toArray, List.getElem_cons_succ, List.getElem_cons_zero, Act.put, List.setIfInBounds_toArray, List.set_cons_zero, List.set_cons_succ]
  refine wpAnyH_take (i := 17) (v := ?_) rfl (by kernel_rfl) (by kernel_rfl) (by kernel_rfl) (fun _ _ _ h => h) (Or.inl ⟨by first | kernel_rfl | rfl, ?_⟩) (by assumption) ?_
  rotate_left
  · (intro wq hSw; (try dsimp only at hSw); (try simp (maxSteps := 2000000) only [List.getElem_toArray, List.getElem_cons_succ, List.getElem_cons_zero]); go_simp); try with_reducible rfl
  try simp (maxSteps := 2000000) only [List.getElem_toArray, List.getElem_cons_succ, List.getElem_cons_zero, Act.put, List.setIfInBounds_toArray, List.set_cons_zero, List.set_cons_succ]
  refine wpAnyH_take (i := 18) (v := ?_) rfl (by kernel_rfl) (by kernel_rfl) (by kernel_rfl) (fun _ _ _ h => h) (Or.inl ⟨by first | kernel_rfl | rfl, ?_⟩) (by assumption) ?_
  rotate_left
  · (intro wq hSw; (try dsimp only at hSw); (try simp (maxSteps := 2000000) only [List.getElem_toArray, List.getElem_cons_succ, List.getElem_cons_zero]); go_simp); try with_reducible rfl
  try simp (maxSteps := 2000000) only [List.getElem_toArray, List.getElem_cons_succ, List.getElem_cons_zero, Act.put, List.setIfInBounds_toArray, List.set_cons_zero, List.set_cons_succ]
  refine wpAnyH_take (i := 19) (v := ?_) rfl (by kernel_rfl) (by kernel_rfl) (by kernel_rfl) (fun _ _ _ h => h) (Or.inl ⟨by first | kernel_rfl | rfl, ?_⟩) (by assumption) ?_
  rotate_left
  · (intro wq hSw; (try dsimp only at hSw); (try simp (maxSteps := 2000000) only [List.getElem_toArray, List.getElem_cons_succ, List.getElem_cons_zero]); go_simp); try with_reducible rfl
  try simp (maxSteps := 2000000) only [List.getElem_toArray, List.getElem_cons_succ, List.getElem_cons_zero, Act.put, List.setIfInBounds_toArray, List.set_cons_zero, List.set_cons_succ]
  refine wpAnyH_take (i := 20) (v := ?_) rfl (by kernel_rfl) (by kernel_rfl) (by kernel_rfl) (fun _ _ _ h => h) (Or.inl ⟨by first | kernel_rfl | rfl, ?_⟩) (by assumption) ?_
  rotate_left
  · (intro wq hSw; (try dsimp only at hSw); (try simp (maxSteps := 2000000) only [List.getElem_toArray, List.getElem_cons_succ, List.getElem_cons_zero]); go_simp); try with_reducible rfl
  try simp (maxSteps := 2000000) only [List.getElem_toArray, List.getElem_cons_succ, List.getElem_cons_zero, Act.put, List.setIfInBounds_toArray, List.set_cons_zero, List.set_cons_succ]
  refine wpAnyH_ready (rs := [10]) (by kernel_rfl) (by simp) ?_
  refine AllReadyH.cons rfl (fun K hK => ?_) AllReadyH.nil
  try simp (maxSteps := 2000000) only [List.getElem_toArray, List.getElem_cons_succ, List.getElem_cons_zero]
  go_simp
  go_at_call 68
  refine (hnw _).mono ?_
  clear hnw
  rintro e w5 ⟨a, U, rfl, hA, hU, hb5⟩
  have bG5 := bGd.below hb5
  have s5 : w5.cell? ⟨q, 0, none⟩ = some (.int .i64 (k : Int)) ∧ w5.cell? ⟨q, 1, none⟩ = some (.int .i64 (m : Int)) ∧ w5.cell? ⟨q, 2, none⟩ = some (.int .i64 (f : Int)) ∧ w5.cell? ⟨q, 3, none⟩ = some (.int .i64 (c : Int)) := ⟨bG5.cell 0, bG5.cell 1, bG5.cell 2, bG5.cell 3⟩
  have hw5 : Below w.heap.size w w5 := hd.trans (hb5.mono hd.size)
  have HA5 := Lib.hid hA
  have HU5 := Lib.hid hU
  clear hA hU
  try (go_wp2_with fail)
  refine hK.out _ _ (by first | exact s0 | exact s5 | exact s6 | exact s7 | exact s8) (fun hHeld => ?_)
  clear hK K
  try simp (maxSteps := 2000000) only [List.getElem_toArray, List.getElem_cons_succ, List.getElem_cons_zero, Act.put, List.setIfInBounds_toArray, List.set_cons_zero, List.set_cons_succ]
  refine wpAnyH_ready (rs := [11]) (by kernel_rfl) (by simp) ?_
  refine AllReadyH.cons rfl (fun K hK => ?_) AllReadyH.nil
  try simp (maxSteps := 2000000) only [List.getElem_toArray, List.getElem_cons_succ, List.getElem_cons_zero]
  go_simp
  go_at_call 30
  refine (hfn _).mono ?_
  clear hfn
  rintro e w6 ⟨rfl, hF, hb6⟩
  have bG6 := bG5.below hb6
  have s6 : w6.cell? ⟨q, 0, none⟩ = some (.int .i64 (k : Int)) ∧ w6.cell? ⟨q, 1, none⟩ = some (.int .i64 (m : Int)) ∧ w6.cell? ⟨q, 2, none⟩ = some (.int .i64 (f : Int)) ∧ w6.cell? ⟨q, 3, none⟩ = some (.int .i64 (c : Int)) := ⟨bG6.cell 0, bG6.cell 1, bG6.cell 2, bG6.cell 3⟩
  have hw6 : Below w.heap.size w w6 := hw5.trans (hb6.mono hw5.size)
  have HF6 := Lib.hid hF
  clear hF
  try (go_wp2_with fail)
  refine hK.out _ _ (by first | exact s0 | exact s5 | exact s6 | exact s7 | exact s8) (fun hHeld => ?_)
  clear hK K
  try simp (maxSteps := 2000000) only [List.getElem_toArray, List.getElem_cons_succ, List.getElem_cons_zero, Act.put, List.setIfInBounds_toArray, List.set_cons_zero, List.set_cons_succ]
  refine wpAnyH_ready (rs := [16]) (by kernel_rfl) (by simp) ?_
  refine AllReadyH.cons rfl (fun K hK => ?_) AllReadyH.nil
  try simp (maxSteps := 2000000) only [List.getElem_toArray, List.getElem_cons_succ, List.getElem_cons_zero]
  go_simp
  go_at_call 29
  refine (hcn _ _ w5.heap.size HF6.out (Nat.le_refl _)).mono ?_
  clear hcn
  rintro e w7 ⟨cb, rfl, hC, hkp⟩
  have hk57 : Keep (fun j => w5.heap.size ≤ j) w5 w7 := (Keep.of_below (F := fun j => w5.heap.size ≤ j) hb6).trans hkp (fun j e _ => by rw [e]; exact Nat.le_refl _)
  have hb57 : Below w5.heap.size w5 w7 := hk57.below (Nat.le_refl _) (fun j h => h)
  have bG7 := bG5.below hb57
  have s7 : w7.cell? ⟨q, 0, none⟩ = some (.int .i64 (k : Int)) ∧ w7.cell? ⟨q, 1, none⟩ = some (.int .i64 (m : Int)) ∧ w7.cell? ⟨q, 2, none⟩ = some (.int .i64 (f : Int)) ∧ w7.cell? ⟨q, 3, none⟩ = some (.int .i64 (c : Int)) := ⟨bG7.cell 0, bG7.cell 1, bG7.cell 2, bG7.cell 3⟩
  have hw7 : Below w.heap.size w w7 := hw5.trans (hb57.mono hw5.size)
  have HC7 := Lib.hid hC
  clear hC
  try (go_wp2_with fail)
  refine hK.out _ _ (by first | exact s0 | exact s5 | exact s6 | exact s7 | exact s8) (fun hHeld => ?_)
  clear hK K
  try simp (maxSteps := 2000000) only [List.getElem_toArray, List.getElem_cons_succ, List.getElem_cons_zero, Act.put, List.setIfInBounds_toArray, List.set_cons_zero, List.set_cons_succ]
  refine wpAnyH_ready (rs := [21]) (by kernel_rfl) (by simp) ?_
  refine AllReadyH.cons rfl (fun K hK => ?_) AllReadyH.nil
  try simp (maxSteps := 2000000) only [List.getElem_toArray, List.getElem_cons_succ, List.getElem_cons_zero]
  go_simp
  go_at_call 106
  refine (hpn _).mono ?_
  clear hpn
  rintro e w8 ⟨p, o, l, go, gl, rfl, hP, hPB, hb8⟩
  have bG8 := bG7.below hb8
  have s8 : w8.cell? ⟨q, 0, none⟩ = some (.int .i64 (k : Int)) ∧ w8.cell? ⟨q, 1, none⟩ = some (.int .i64 (m : Int)) ∧ w8.cell? ⟨q, 2, none⟩ = some (.int .i64 (f : Int)) ∧ w8.cell? ⟨q, 3, none⟩ = some (.int .i64 (c : Int)) := ⟨bG8.cell 0, bG8.cell 1, bG8.cell 2, bG8.cell 3⟩
  have hw8 : Below w.heap.size w w8 := hw7.trans (hb8.mono hw7.size)
  have HP8 := Lib.hid hP
  have HPB8 := Lib.hid hPB
  clear hP hPB
  try (go_wp2_with fail)
  refine hK.out _ _ (by first | exact s0 | exact s5 | exact s6 | exact s7 | exact s8) (fun hHeld => ?_)
  clear hK K
  try simp (maxSteps := 2000000) only [List.getElem_toArray, List.getElem_cons_succ, List.getElem_cons_zero, Act.put, List.setIfInBounds_toArray, List.set_cons_zero, List.set_cons_succ]
  refine wpAnyH_take (i := 22) (v := ?_) rfl (by kernel_rfl) (by kernel_rfl) (by kernel_rfl) (fun _ _ _ h => h) (Or.inl ⟨by first | kernel_rfl | rfl, ?_⟩) (by assumption) ?_
  rotate_left
  · (intro wq hSw; (try dsimp only at hSw); (try simp (maxSteps := 2000000) only [List.getElem_toArray, List.getElem_cons_succ, List.getElem_cons_zero]); go_simp); try with_reducible rfl
  try simp (maxSteps := 2000000) only [List.getElem_toArray, List.getElem_cons_succ, List.getElem_cons_zero, Act.put, List.setIfInBounds_toArray, List.set_cons_zero, List.set_cons_succ]
  refine wpAnyH_take (i := 23) (v := ?_) rfl (by kernel_rfl) (by kernel_rfl) (by kernel_rfl) (fun _ _ _ h => h) (Or.inl ⟨by first | kernel_rfl | rfl, ?_⟩) (by assumption) ?_
  rotate_left
  · (intro wq hSw; (try dsimp only at hSw); (try simp (maxSteps := 2000000) only [List.getElem_toArray, List.getElem_cons_succ, List.getElem_cons_zero]); go_simp); try with_reducible rfl
  try simp (maxSteps := 2000000) only [List.getElem_toArray, List.getElem_cons_succ, List.getElem_cons_zero, Act.put, List.setIfInBounds_toArray, List.set_cons_zero, List.set_cons_succ]
  refine wpAnyH_take (i := 24) (v := ?_) rfl (by kernel_rfl) (by kernel_rfl) (by kernel_rfl) (fun _ _ _ h => h) (Or.inl ⟨by first | kernel_rfl | rfl, ?_⟩) (by assumption) ?_
  rotate_left
  · (intro wq hSw; (try dsimp only at hSw); (try simp (maxSteps := 2000000) only [List.getElem_toArray, List.getElem_cons_succ, List.getElem_cons_zero]); go_simp); try with_reducible rfl
  try simp (maxSteps := 2000000) only [List.getElem_toArray, List.getElem_cons_succ, List.getElem_cons_zero, Act.put, List.setIfInBounds_toArray, List.set_cons_zero, List.set_cons_succ]
  refine wpAnyH_done (by kernel_rfl) ?_ _
  have hsz0 : w.heap.size ≤ wA.drew.heap.size := hd.size
  have hsz5 : w5.heap.size ≤ w7.heap.size := hb57.size
  have hsz7 : w7.heap.size ≤ w8.heap.size := hb8.size
  have hszb : w0.heap.size ≤ w.heap.size := hbel.size
  have hsz05 : w.heap.size ≤ w5.heap.size := hw5.size
  have HFIN := Lib.hid (show MidP (PoolB p o l go gl) (fun j => j < w.heap.size) w0 w8 a cb w5.heap.size k m n (List.replicate N (DSt.new n)) from
    ⟨hbel.trans (hw8.mono hbel.size), ⟨U, fun j => w5.heap.size ≤ j ∧ j < w7.heap.size, (HA5.out.below hb57).below hb8, HC7.out.bound.below hb8,
      fun j hj => by have h1 := HU5.out j hj; omega,
      fun j hj => ⟨fun hu => by have := HA5.out.lt hu; omega, by omega⟩,
      fun j hj => ⟨fun hu => by have := HU5.out j hu; omega, fun hc => by omega, by omega⟩,
      fun j hj => by have h1 := HPB8.out j hj; exact ⟨fun hu => by have := HA5.out.lt hu; omega, fun hc => by omega, by omega, by omega⟩⟩,
      fun j hj hx => by have h1 := HPB8.out j hj; omega, by rw [List.length_replicate, HN.out], HR.out.1, HR.out.2⟩)
  have HB8 := Lib.hid hw8
  clear s0 s5 s6 s7 s8 bG bGd bG5 bG6 bG7 bG8 hHeld hb5 hb6 hkp hk57 hb57 hb8 hw5 hw6 hw7 hw8 hd hb0
  go_wp2_with fail
  go_ret3
  exact ⟨a, cb, _, p, o, l, go, gl, rfl, by rw [HN.out, Hn.out]; exact HFIN.out, HP8.out, HB8.out⟩
end Go.Proofs.YtcliejdiaohamaaGreat

set_option linter.unusedSimpArgs false
set_option linter.unusedVariables false
namespace Go.Proofs.YtcliejdiaohamaaGreat
open Go.RowKit Go.Cib
attribute [local go_sem] cell_set Later.cell Later.frozen Grw.cell Grw.frozen
def blob0 : Value := .agg #[.slice none 0 0, .int .u64 0, .int .i64 0]
section
variable {P X S : Nat → Prop} {w0 w w' : World} {a p o l go gl ep ct fs n np cb bf k m : Nat} {wo wl : List Nat} {sts : List DSt}
end
end Go.Proofs.YtcliejdiaohamaaGreat

set_option linter.unusedSimpArgs false
set_option linter.unusedVariables false
namespace Go.Proofs.YtcliejdiaohamaaGreat
open Go.RowKit Go.Cib
attribute [local go_sem] cell_set Later.cell Later.frozen Grw.cell Grw.frozen
section
variable {w : World}
theorem anone_nil : Calls Tryz.prog 155 #[.pointer none] w fun e w' => e = .returned (.bool true) ∧ w' = w := by
  go_enter Tryz.func155, Tryz.ntmps155
  go_wp2_with fail
  go_ret
  exact ⟨rfl, rfl⟩
theorem an_nil : Calls Tryz.prog 86 #[.pointer none] w fun e w' => e = .returned (.int .i64 0) ∧ w' = w := by
  go_enter Tryz.func86, Tryz.ntmps86
  go_wp2_with (go_at_call 155; refine anone_nil.mono ?_; rintro e w9 ⟨rfl, hw9⟩; rw [hw9]; clear hw9)
  go_ret
  exact ⟨rfl, rfl⟩
theorem pnone_nil : Calls Tryz.prog 113 #[.pointer none] w fun e w' => e = .returned (.bool true) ∧ w' = w := by
  go_enter Tryz.func113, Tryz.ntmps113
  go_wp2_with fail
  go_ret
  exact ⟨rfl, rfl⟩
theorem pcopy_nil : Calls Tryz.prog 108 #[.pointer none] w fun e w' => e = .returned (.pointer none) ∧ w' = w := by
  go_enter Tryz.func108, Tryz.ntmps108
  go_wp2_with (go_at_call 113; refine pnone_nil.mono ?_; rintro e w9 ⟨rfl, hw9⟩; rw [hw9]; clear hw9)
  go_ret
  exact ⟨rfl, rfl⟩
set_option maxRecDepth 100000 in
set_option maxHeartbeats 8000000 in
/-- Without drives. -/
theorem bput_na {vc vp : Value} {A : Option Addr} {n c : Nat} : Calls Tryz.prog 40 #[.pointer none, vc, vp, .slice A n c] w fun e w' => e = .returned (.tuple #[blob0, .int .i64 1]) ∧ Below w.heap.size w w' := by
  have hb0 : Below w.heap.size w (w.alloc (.cells #[.slice none 0 0, .int .u64 0, .int .i64 0] 61)) := (Below.refl _ _).alloc (Nat.le_refl _) _
  have bB := BoxAt.new w #[.slice none 0 0, .int .u64 0, .int .i64 0] 61
  obtain ⟨w1, hw1⟩ : ∃ w1, w.alloc (.cells #[.slice none 0 0, .int .u64 0, .int .i64 0] 61) = w1 := ⟨_, rfl⟩
  obtain ⟨q, hq⟩ : ∃ q, w.heap.size = q := ⟨_, rfl⟩
  have hq0 : w.heap.size ≤ q := by omega
  rw [hw1] at hb0 bB
  rw [hq] at bB
  have HB0 := Lib.hid hb0
  have HQ := Lib.hid hq0
  have k0 := bB.cell 0
  have k1 := bB.cell 1
  have k2 := bB.cell 2
  have z0 := bB.frozen 0
  have z1 := bB.frozen 1
  have z2 := bB.frozen 2
  clear hb0 hq0 bB
  unfold blob0
  go_enter Tryz.func40, Tryz.ntmps40
  go_wp2_with (go_at_call 86; refine an_nil.mono ?_; rintro e w9 ⟨rfl, hw9⟩; rw [hw9]; clear hw9)
  refine bodyPost_ret (v := .tuple #[.agg #[.slice none 0 0, .int .u64 0, .int .i64 0], .int .i64 1]) (by simp [results, Tryz.results40, go_sem, *]) rfl ?_
  exact ⟨rfl, ((HB0.out.setCell (p := ⟨q, 0, none⟩) HQ.out _).setCell (p := ⟨q, 1, none⟩) HQ.out _).setCell (p := ⟨q, 2, none⟩) HQ.out _⟩
set_option maxRecDepth 100000 in
set_option maxHeartbeats 8000000 in
theorem bget_na {vc : Value} {A : Option Addr} {n c : Nat} {gen size : Int} : Calls Tryz.prog 41 #[.pointer none, vc, .agg (blobC A n c gen size)] w fun e w' => e = .returned (.tuple #[.slice none 0 0, .int .i64 1]) ∧ Below w.heap.size w w' := by
  have HB0 := Lib.hid (show Below w.heap.size w (w.alloc (.cells (blobC A n c gen size) 61)) from (Below.refl _ _).alloc (Nat.le_refl _) _)
  unfold blobC at HB0 ⊢
  go_enter Tryz.func41, Tryz.ntmps41
  go_wp2_with (go_at_call 86; refine an_nil.mono ?_; rintro e w9 ⟨rfl, hw9⟩; rw [hw9]; clear hw9)
  go_ret2
  exact ⟨rfl, HB0.out⟩
end
section
variable {P X S : Nat → Prop} {w0 w : World} {a cb bf k m n : Nat} {sts : List DSt}
set_option maxRecDepth 100000 in
set_option maxHeartbeats 8000000 in
/-- Without a coder. -/
theorem bput_nc (h : MidP P X w0 w a cb bf k m n sts) {vp : Value} {A : Option Addr} {l c : Nat} : Calls Tryz.prog 40 #[.pointer (some ⟨a, 0, none⟩), .pointer none, vp, .slice A l c] w fun e w' => e = .returned (.tuple #[blob0, .int .i64 1]) ∧ Below w.heap.size w w' := by
  have hpos := h.pos
  have hb0 : Below w.heap.size w (w.alloc (.cells #[.slice none 0 0, .int .u64 0, .int .i64 0] 61)) := (Below.refl _ _).alloc (Nat.le_refl _) _
  have bB := BoxAt.new w #[.slice none 0 0, .int .u64 0, .int .i64 0] 61
  have hM1 := h.below' hb0
  obtain ⟨w1, hw1⟩ : ∃ w1, w.alloc (.cells #[.slice none 0 0, .int .u64 0, .int .i64 0] 61) = w1 := ⟨_, rfl⟩
  obtain ⟨q, hq⟩ : ∃ q, w.heap.size = q := ⟨_, rfl⟩
  have hq0 : w.heap.size ≤ q := by omega
  rw [hw1] at hb0 bB hM1
  rw [hq] at bB
  have han := an_p hM1
  obtain ⟨N, hN⟩ : ∃ N, k + m = N := ⟨_, rfl⟩
  rw [hN] at han
  have e0 : ((N : Int) == 0) = false := by simp; omega
  have HB0 := Lib.hid hb0
  have HQ := Lib.hid hq0
  have BB := Lib.hid bB
  clear hb0 hq0 bB h hM1 hN hpos
  unfold blob0
  go_enter Tryz.func40, Tryz.ntmps40
  go_wp2_with fail
  refine han.mono ?_
  clear han hw1
  rintro e w2 ⟨rfl, hb2⟩
  have HB2 := Lib.hid (HB0.out.trans (hb2.mono HB0.out.size))
  have bB2 := BB.out.below hb2
  have k0 := bB2.cell 0
  have k1 := bB2.cell 1
  have k2 := bB2.cell 2
  have z0 := bB2.frozen 0
  have z1 := bB2.frozen 1
  have z2 := bB2.frozen 2
  clear hb2 bB2
  go_wp2_with (go_at_call 107; refine cn_nil.mono ?_; rintro e w9 ⟨rfl, hw9⟩; rw [hw9]; clear hw9)
  refine bodyPost_ret (v := .tuple #[.agg #[.slice none 0 0, .int .u64 0, .int .i64 0], .int .i64 1]) (by simp [results, Tryz.results40, go_sem, *]) rfl ?_
  exact ⟨rfl, ((HB2.out.setCell (p := ⟨q, 0, none⟩) HQ.out _).setCell (p := ⟨q, 1, none⟩) HQ.out _).setCell (p := ⟨q, 2, none⟩) HQ.out _⟩
set_option maxRecDepth 100000 in
set_option maxHeartbeats 8000000 in
/-- Without a pool. -/
theorem bput_np (h : MidP P X w0 w a cb bf k m n sts) {A : Option Addr} {l c : Nat} : Calls Tryz.prog 40 #[.pointer (some ⟨a, 0, none⟩), .pointer (some ⟨cb, 0, none⟩), .pointer none, .slice A l c] w fun e w' => e = .returned (.tuple #[blob0, .int .i64 1]) ∧ Below w.heap.size w w' := by
  have hpos := h.pos
  have hb0 : Below w.heap.size w (w.alloc (.cells #[.slice none 0 0, .int .u64 0, .int .i64 0] 61)) := (Below.refl _ _).alloc (Nat.le_refl _) _
  have bB := BoxAt.new w #[.slice none 0 0, .int .u64 0, .int .i64 0] 61
  have hM1 := h.below' hb0
  obtain ⟨w1, hw1⟩ : ∃ w1, w.alloc (.cells #[.slice none 0 0, .int .u64 0, .int .i64 0] 61) = w1 := ⟨_, rfl⟩
  obtain ⟨q, hq⟩ : ∃ q, w.heap.size = q := ⟨_, rfl⟩
  have hq0 : w.heap.size ≤ q := by omega
  rw [hw1] at hb0 bB hM1
  rw [hq] at bB
  have han := an_p hM1
  have hcn := fun (w2 : World) (hb : Below w1.heap.size w1 w2) => cn_any (hM1.cod.below hb)
  obtain ⟨N, hN⟩ : ∃ N, k + m = N := ⟨_, rfl⟩
  rw [hN] at han hcn
  have e0 : ((N : Int) == 0) = false := by simp; omega
  have HB0 := Lib.hid hb0
  have HQ := Lib.hid hq0
  have BB := Lib.hid bB
  have HCN := Lib.hid hcn
  clear hb0 hq0 bB h hM1 hN hpos hcn
  unfold blob0
  go_enter Tryz.func40, Tryz.ntmps40
  go_wp2_with fail
  refine han.mono ?_
  clear han hw1
  rintro e w2 ⟨rfl, hb2⟩
  have hcn2 := HCN.out w2 hb2
  have HB2 := Lib.hid hb2
  clear hb2
  go_wp2_with fail
  refine hcn2.mono ?_
  clear hcn2
  rintro e w3 ⟨rfl, hb3⟩
  have HB3 := Lib.hid (HB2.out.trans (hb3.mono HB2.out.size))
  have HB4 := Lib.hid (HB0.out.trans (HB3.out.mono HB0.out.size))
  have bB2 := BB.out.below HB3.out
  have k0 := bB2.cell 0
  have k1 := bB2.cell 1
  have k2 := bB2.cell 2
  have z0 := bB2.frozen 0
  have z1 := bB2.frozen 1
  have z2 := bB2.frozen 2
  clear hb3 bB2
  go_wp2_with (go_at_call 108; refine pcopy_nil.mono ?_; rintro e w9 ⟨rfl, hw9⟩; rw [hw9]; clear hw9)
  refine bodyPost_ret (v := .tuple #[.agg #[.slice none 0 0, .int .u64 0, .int .i64 0], .int .i64 1]) (by simp [results, Tryz.results40, go_sem, *]) rfl ?_
  exact ⟨rfl, ((HB4.out.setCell (p := ⟨q, 0, none⟩) HQ.out _).setCell (p := ⟨q, 1, none⟩) HQ.out _).setCell (p := ⟨q, 2, none⟩) HQ.out _⟩
set_option maxRecDepth 100000 in
set_option maxHeartbeats 8000000 in
theorem bget_nc (h : MidP P X w0 w a cb bf k m n sts) {A : Option Addr} {l c : Nat} {gen size : Int} : Calls Tryz.prog 41 #[.pointer (some ⟨a, 0, none⟩), .pointer none, .agg (blobC A l c gen size)] w fun e w' => e = .returned (.tuple #[.slice none 0 0, .int .i64 1]) ∧ Below w.heap.size w w' := by
  have hpos := h.pos
  have hb0 : Below w.heap.size w (w.alloc (.cells (blobC A l c gen size) 61)) := (Below.refl _ _).alloc (Nat.le_refl _) _
  have hM1 := h.below' hb0
  obtain ⟨w1, hw1⟩ : ∃ w1, w.alloc (.cells (blobC A l c gen size) 61) = w1 := ⟨_, rfl⟩
  rw [hw1] at hb0 hM1
  have han := an_p hM1
  obtain ⟨N, hN⟩ : ∃ N, k + m = N := ⟨_, rfl⟩
  rw [hN] at han
  have e0 : ((N : Int) == 0) = false := by simp; omega
  have HB0 := Lib.hid hb0
  clear hb0 h hM1 hN hpos
  unfold blobC at hw1 ⊢
  go_enter Tryz.func41, Tryz.ntmps41
  go_wp2_with fail
  refine han.mono ?_
  clear han hw1
  rintro e w2 ⟨rfl, hb2⟩
  have HB2 := Lib.hid (HB0.out.trans (hb2.mono HB0.out.size))
  clear hb2
  go_wp2_with (go_at_call 107; refine cn_nil.mono ?_; rintro e w9 ⟨rfl, hw9⟩; rw [hw9]; clear hw9)
  go_ret2
  exact ⟨rfl, HB2.out⟩
end
end Go.Proofs.YtcliejdiaohamaaGreat

set_option linter.unusedSimpArgs false
set_option linter.unusedVariables false
namespace Go.Proofs.YtcliejdiaohamaaGreat
open Go.RowKit Go.Cib
attribute [local go_sem] cell_set Later.cell Later.frozen Grw.cell Grw.frozen
theorem tk_setW {n : Nat} {ws : List Nat} (h : WordsOk n ws) {i : Nat} (hi : i < n) (j : Nat) : tk (setW n ws (i : Int) true) j = (tk ws j || decide (j = i)) := by
  have hl : i / 64 < ws.length := (List.getElem?_eq_some_iff.1 (wd_at h hi)).1
  have hr : decide (0 ≤ (i : Int) ∧ (i : Int) < (n : Int)) = true := decide_eq_true ⟨Int.natCast_nonneg _, by omega⟩
  unfold setW setB
  rw [hr, Int.toNat_natCast]
  cases ht : tk ws i with
  | true =>
    rw [if_neg (by decide)]
    by_cases e : j = i
    · subst e; rw [ht]; simp
    · simp [e]
  | false =>
    rw [if_pos (by decide), tk_flip hl]
    by_cases e : j = i
    · subst e; rw [if_pos rfl, ht]; simp
    · rw [if_neg e]; simp [e]
theorem setW_ok {n : Nat} {ws : List Nat} (h : WordsOk n ws) {i : Nat} (hi : i < n) (on : Bool) : WordsOk n (setW n ws (i : Int) on) := by
  unfold setW
  split
  · rw [Int.toNat_natCast]; exact flip_ok h hi
  · exact h
theorem tk_takeW {n : Nat} : ∀ (l : List Nat) {ws : List Nat} (_ : WordsOk n ws) (_ : ∀ i ∈ l, i < n) (j : Nat), tk (takeW n ws (l.map fun i : Nat => (i : Int))) j = (tk ws j || decide (j ∈ l))
  | [], ws, h, hl, j => by simp [takeW]
  | x :: l, ws, h, hl, j => by
    have hx : x < n := hl x (by simp)
    rw [List.map_cons, takeW, tk_takeW l (setW_ok h hx true) (fun i hi => hl i (List.mem_cons_of_mem _ hi)), tk_setW h hx]
    cases tk ws j <;> by_cases e : j = x <;> simp [e]
theorem freeL_lt {ws : List Nat} {n i : Nat} (h : i ∈ freeL ws n) : i < n := List.mem_range.1 (List.mem_filter.1 h).1
theorem freeL_nd (ws : List Nat) (n : Nat) : (freeL ws n).Nodup := List.nodup_range.filter _
theorem filter_drop {L : List Nat} (hn : L.Nodup) (m : Nat) : L.filter (fun j => !decide (j ∈ L.take m)) = L.drop m := by
  have e : L = L.take m ++ L.drop m := (List.take_append_drop m L).symm
  have hd : ∀ a ∈ L.take m, ∀ b ∈ L.drop m, a ≠ b := by
    have h2 := hn
    rw [e] at h2
    exact (List.nodup_append.1 h2).2.2
  obtain ⟨T, hT⟩ : ∃ T, L.take m = T := ⟨_, rfl⟩
  obtain ⟨D, hD⟩ : ∃ D, L.drop m = D := ⟨_, rfl⟩
  rw [hT, hD] at e hd
  rw [hT, hD, e, List.filter_append, List.filter_eq_nil_iff.2 (fun a ha => by simp [ha]), List.filter_eq_self.2 (fun a ha => by
    simp only [Bool.not_eq_true', decide_eq_false_iff_not]
    exact fun h => hd a h a ha rfl)]
  rfl
theorem free_take {n : Nat} {ws : List Nat} (h : WordsOk n ws) (m : Nat) : freeL (takeW n ws ((frI ws n).take m)) n = (freeL ws n).drop m := by
  rw [← filter_drop (freeL_nd ws n) m]
  unfold frI
  rw [← List.map_take]
  have ht : ∀ i ∈ (freeL ws n).take m, i < n := fun i hi => freeL_lt (List.mem_of_mem_take hi)
  obtain ⟨T, hT⟩ : ∃ T, (freeL ws n).take m = T := ⟨_, rfl⟩
  rw [hT] at ht ⊢
  unfold freeL
  rw [List.filter_filter]
  refine List.filter_congr fun j hj => ?_
  rw [tk_takeW T h ht]
  cases tk ws j <;> simp
/-- Places that follow each other. -/
def plL (a M : Nat) : List Int := (List.range M).map fun i : Nat => ((a + i : Nat) : Int)
theorem plL_at {a M i : Nat} (h : i < M) : (plL a M).getD i 0 = ((a + i : Nat) : Int) := by
  unfold plL
  simp [List.getD_eq_getElem?_getD, h]
theorem plL_mem {a M : Nat} {x : Int} (h : x ∈ plL a M) : ∃ i, i < M ∧ x = ((a + i : Nat) : Int) := by
  unfold plL at h
  obtain ⟨i, hi, rfl⟩ := List.mem_map.1 h
  exact ⟨i, List.mem_range.1 hi, rfl⟩
theorem pl_of {wo : List Nat} {np t M fs : Nat} (h : freeL wo np = (List.range np).drop t) (hM : t + M ≤ np) : (((frI wo np).take M).map fun x => x + (fs : Int)) = plL (fs + t) M := by
  unfold frI plL
  rw [h, ← List.map_take, List.map_map]
  apply List.ext_getElem?
  intro i
  simp only [List.getElem?_map, List.getElem?_take, List.getElem?_drop, List.getElem?_range]
  by_cases hi : i < M
  · rw [if_pos hi, List.getElem?_range (by omega), List.getElem?_range hi]
    simp only [Option.map_some, Function.comp]
    congr 1
    push_cast
    omega
  · rw [if_neg hi, List.getElem?_eq_none (by rw [List.length_range]; omega)]
    rfl
theorem free_next {wo : List Nat} {np t M : Nat} (hw : WordsOk np wo) (h : freeL wo np = (List.range np).drop t) : freeL (takeW np wo ((frI wo np).take M)) np = (List.range np).drop (t + M) := by
  rw [free_take hw, h, List.drop_drop]
theorem free_new (m n : Nat) : freeL (List.replicate m 0) n = (List.range n).drop 0 := by
  unfold freeL
  rw [List.drop_zero]
  exact List.filter_eq_self.2 fun i _ => by rw [tk_new]; rfl
theorem free_cnt {wo : List Nat} {np t : Nat} (h : freeL wo np = (List.range np).drop t) : freeN wo np = np - t ∧ (freeL wo np).length = np - t := by
  have h1 := freeL_len wo np
  have h2 : (freeL wo np).length = np - t := by rw [h]; simp
  unfold freeN
  exact ⟨by omega, h2⟩
/-! ### Drives that are all alive -/
def Alv (n : Nat) (sts : List DSt) : Prop := ∀ st ∈ sts, st.dead = false ∧ st.ok n
section
variable {g : Nat → Bool} {n k N a G M0 : Nat} {xs : List Nat} {sts : List DSt}
theorem Alv.live (h : Alv n sts) {d : Nat} (hd : d < sts.length) : deadL sts d = false := by
  unfold deadL
  rw [List.getElem?_eq_getElem hd]
  exact (h _ (List.getElem_mem hd)).1
theorem Alv.new (n N : Nat) : Alv n (newS n N) := fun st hst => by
  obtain ⟨d, hd, rfl⟩ := List.mem_iff_getElem.1 hst
  rw [(newS_at (List.getElem?_eq_getElem hd)).1]
  exact ⟨rfl, DSt.ok.new n⟩
theorem Alv.count (h : Alv n sts) : cnt (aliveL sts) = sts.length := by
  have e : aliveL sts = List.replicate sts.length true := by
    unfold aliveL
    apply List.ext_getElem?
    intro d
    rw [List.getElem?_map, List.getElem?_replicate]
    by_cases hd : d < sts.length
    · rw [if_pos hd, List.getElem?_eq_getElem hd]
      simp [(h _ (List.getElem_mem hd)).1]
    · rw [if_neg hd, List.getElem?_eq_none (by omega)]; rfl
  rw [e]
  unfold cnt
  simp
theorem Alv.put (h : Alv n sts) {r : Ref} (hr : r.ok n) (hx : Byt xs) : Alv n (sts.mapIdx (putQ n k N r xs)) := fun st hst => by
  obtain ⟨d, hd⟩ := List.getElem?_of_mem hst
  obtain ⟨s1, h1, rfl⟩ := mapIdx_at hd
  obtain ⟨a1, a2⟩ := h s1 (List.mem_of_getElem? h1)
  rw [putQ_live hr hx a1]
  exact ⟨a1, a2.write (wrI_len (x := putX k N r xs d) (row44 hx k _).1) ⟨Int.natCast_nonneg _, by have := hr.p; omega⟩⟩
theorem bRef_pl {M i : Nat} (h : i < M) : bRef (plL a M) G i = ⟨3, a + i, G + i⟩ := by
  unfold bRef
  rw [plL_at h, Int.toNat_natCast]
theorem bPc_byt (hx : Byt xs) (i : Nat) : Byt (bPc k xs i) := fun x h => hx x (List.mem_of_mem_drop (List.mem_of_mem_take h))
theorem ref3_in {p z : Nat} (h : p < n) : Ref.ok ⟨3, p, z⟩ n := ⟨(by decide : 1 ≤ 3), (by decide : 3 ≤ 4), h⟩
theorem putB_alv (h : Alv n sts) (hx : Byt xs) {M : Nat} (ha : a + M ≤ n) : ∀ i, i ≤ M → Alv n (putB n k N (plL a M) G xs sts i)
  | 0, _ => h
  | i + 1, hi => by
    rw [putB, bRef_pl (by omega)]
    exact (putB_alv h hx ha i (by omega)).put (ref3_in (by omega)) (bPc_byt hx i)
theorem putB_old {r : Ref} {ys : List Nat} (h : Hds g k N r ys sts) (hx : Byt xs) {M : Nat} (ha : a + M ≤ n) (hd : r.place < a ∨ a + M ≤ r.place) : ∀ i, i ≤ M → Hds g k N r ys (putB n k N (plL a M) G xs sts i)
  | 0, _ => h
  | i + 1, hi => by
    rw [putB, bRef_pl (by omega)]
    exact (putB_old h hx ha hd i (by omega)).put (n := n) (ref3_in (by omega)) (bPc_byt hx i) (by show a + i ≠ r.place; omega)
theorem putB_new (h : Alv n sts) (hx : Byt xs) {M : Nat} (ha : a + M ≤ n) : ∀ i, i ≤ M → ∀ t, t < i → Hds (fun _ => true) k N ⟨3, a + t, G + t⟩ (bPc k xs t) (putB n k N (plL a M) G xs sts i)
  | 0, _, t, ht => absurd ht (by omega)
  | i + 1, hi, t, ht => by
    have hA := putB_alv (k := k) (N := N) (G := G) h hx ha i (by omega)
    rw [putB, bRef_pl (by omega)]
    by_cases e : t = i
    · subst e
      refine (Hds.new (n := n) (ref3_in (by omega)) (bPc_byt hx t) (fun st hst hd => by rw [(hA st hst).1] at hd; cases hd)).congr fun d hd => ?_
      rw [List.length_mapIdx] at hd
      rw [hA.live hd]; rfl
    · exact (putB_new h hx ha i (by omega) t (by omega)).put (n := n) (ref3_in (by omega)) (bPc_byt hx i) (by show a + i ≠ a + t; omega)
/-- A value lies on the drives g. -/
def HdB (g : Nat → Bool) (k N a G M : Nat) (xs : List Nat) (sts : List DSt) : Prop := ∀ t, t < M → Hds g k N ⟨3, a + t, G + t⟩ (bPc k xs t) sts
theorem HdB.put (h : HdB g k N a G M0 xs sts) {ys : List Nat} (hy : Byt ys) {b H M : Nat} (hb : b + M ≤ n) (hd : a + M0 ≤ b) : HdB g k N a G M0 xs (putB n k N (plL b M) H ys sts M) := fun t ht =>
  putB_old (h t ht) hy hb (.inl (by show a + t < b; omega)) M (Nat.le_refl _)
theorem HdB.new (h : Alv n sts) (hx : Byt xs) {M : Nat} (ha : a + M ≤ n) : HdB (fun _ => true) k N a G M xs (putB n k N (plL a M) G xs sts M) := fun t ht => putB_new h hx ha M (Nat.le_refl _) t ht
theorem HdB.fail (h : HdB g k N a G M0 xs sts) (ha : a + M0 ≤ n) (x : Int) : HdB (butB g x) k N a G M0 xs (failA n sts x) := fun t ht => (h t ht).fail (ref3_in (by omega)) x
theorem HdB.refs (h : HdB g k N a G M0 xs sts) : ∀ i, i < M0 → Hds g k N (bRef (plL a M0) G i) (bPc k xs i) sts := fun i hi => by rw [bRef_pl hi]; exact h i hi
end
end Go.Proofs.YtcliejdiaohamaaGreat

set_option linter.unusedSimpArgs false
set_option linter.unusedVariables false
namespace Go.Proofs.YtcliejdiaohamaaGreat
open Go.RowKit Go.Cib
attribute [local go_sem] cell_set Later.cell Later.frozen Grw.cell Grw.frozen
theorem wpAnyH_nar {P : Program} {md : Region.Mode} {ops : Array Oper} {Q : Exit → Act → World → Prop} {S S' : World → Prop} (hS : ∀ w, S' w → S w) : ∀ (fuel : Nat) (listed : Array Bool) (a : Act) (w : World), wpAnyH P md ops Q S' fuel listed a w → wpAnyH P md ops Q S fuel listed a w
  | 0, _, _, _, h => h
  | fuel + 1, _, _, _, h => ⟨h.1, fun i hi => wpOp_mono (fun a' w' h' => ⟨hS _ h'.1, wpAnyH_nar hS fuel _ a' w' h'.2⟩) (h.2 i hi)⟩
end Go.Proofs.YtcliejdiaohamaaGreat

set_option linter.unusedSimpArgs false
set_option linter.unusedVariables false
namespace Go.Proofs.YtcliejdiaohamaaGreat
open Go.RowKit Go.Cib
attribute [local go_sem] cell_set Later.cell Later.frozen Grw.cell Grw.frozen
section
variable {P X S : Nat → Prop} {w0 w w' : World} {a p o l go gl ep ct fs np n cb bf k m t : Nat} {wo wl : List Nat} {sts : List DSt}
/-- The pool, of which the first t places are taken. -/
def PoolT (w : World) (p o l go gl ct fs np t : Nat) : Prop := ∃ wo wl, PoolAt w p o l go gl 0 ct fs np wo wl ∧ freeL wo np = (List.range np).drop t
theorem PoolT.below (h : PoolT w p o l go gl ct fs np t) (hb : Below w.heap.size w w') : PoolT w' p o l go gl ct fs np t := by
  obtain ⟨wo, wl, h1, h2⟩ := h
  exact ⟨wo, wl, h1.below hb, h2⟩
theorem PoolT.keep {F : Nat → Prop} (h : PoolT w p o l go gl ct fs np t) (hK : Keep F w w') (hF : ∀ j, PoolB p o l go gl j → ¬ F j) : PoolT w' p o l go gl ct fs np t := by
  obtain ⟨wo, wl, h1, h2⟩ := h
  exact ⟨wo, wl, h1.keep hK hF, h2⟩
theorem PoolT.kp {X : Nat → Prop} (h : PoolT w p o l go gl ct fs np t) (hK : KpX X w w') (hX : ∀ j, PoolB p o l go gl j → X j) : PoolT w' p o l go gl ct fs np t := by
  obtain ⟨wo, wl, h1, h2⟩ := h
  exact ⟨wo, wl, h1.kp hK.1 hX, h2⟩
theorem PoolT.free (h : PoolT w p o l go gl ct fs np t) : Calls Tryz.prog 42 #[.pointer (some ⟨p, 0, none⟩)] w fun e w' => e = .returned (.int .i64 (np - t : Nat)) ∧ Below w.heap.size w w' := by
  obtain ⟨wo, wl, h1, h2⟩ := h
  have h3 := pfree_any h1
  rw [(free_cnt h2).1] at h3
  exact h3
theorem bput_at (h : MidP P X w0 w a cb bf k m n sts) (hP : PoolT w p o l go gl ct fs np t) (hPB : ∀ j, PoolB p o l go gl j → P j) {A : Option Addr} {size cx : Nat} {xs : List Nat} (R : RdL ByR 1 S w A size xs) (hSX : ∀ j, S j → X j) (hcx : size ≤ cx) (hs : size ≤ 400) (hct : ct + cntN k size ≤ 1048576) (ht : t + cntN k size ≤ np) (hnp : fs + np ≤ n) (hcl : ∀ st ∈ sts, st.cache.length < 800000) :
    Calls Tryz.prog 40 #[.pointer (some ⟨a, 0, none⟩), .pointer (some ⟨cb, 0, none⟩), .pointer (some ⟨p, 0, none⟩), .slice A size cx] w fun e w' => ∃ A c S', e = .returned (.tuple #[.agg (blobC A (cntN k size) c (ct : Int) (size : Int)), .int .i64 0]) ∧ cntN k size ≤ c ∧ RdL IntR 1 S' w' A (cntN k size) (plL (fs + t) (cntN k size)) ∧ (∀ j, S' j → w.heap.size ≤ j ∧ j < w'.heap.size) ∧
      PoolT w' p o l go gl (ct + cntN k size) fs np (t + cntN k size) ∧ MidP P (fun j => X j ∨ S' j) w0 w' a cb bf k m n (putB n k (k + m) (plL (fs + t) (cntN k size)) ct xs sts (cntN k size)) ∧ KpX X w w' := by
  obtain ⟨wo, wl, h1, h2⟩ := hP
  have hc := free_cnt h2
  refine (bput_any h h1 hPB R hSX hcx hs (by omega) hct (by omega) hnp hcl).mono ?_
  rintro e w' ⟨A', c, S', rfl, hc', hr, hS, hP', hM', hK⟩
  rw [pl_of h2 ht, Nat.zero_mul, Nat.zero_add] at hM'
  rw [pl_of h2 ht] at hr
  rw [Nat.zero_mul, Nat.zero_add]
  exact ⟨A', c, S', rfl, hc', hr, hS, ⟨_, _, hP', free_next h1.out.ok h2⟩, hM', hK⟩
theorem PoolT.new {w : World} {p o l go gl f c M : Nat} (h : PoolAt w p o l go gl 0 0 f c (List.replicate M 0) (List.replicate M 0)) : PoolT w p o l go gl 0 f c 0 := ⟨_, _, h, free_new M c⟩
end
end Go.Proofs.YtcliejdiaohamaaGreat

set_option linter.unusedSimpArgs false
set_option linter.unusedVariables false
namespace Go.Proofs.YtcliejdiaohamaaGreat
open Go.RowKit Go.Cib
attribute [local go_sem] cell_set Later.cell Later.frozen Grw.cell Grw.frozen
def RefR (_ : Nat → Prop) (_ : World) (cs : List Value) (x : Int × Int) : Prop := cs = [.int .u8 3, .int .i64 x.1, .int .u64 x.2]
theorem RefR.stable : Stable RefR := fun _ _ _ _ _ _ h _ => h
theorem RefR.one : ∀ S w cs x, RefR S w cs x → ∀ u ∈ cs, u.oneCell' = true := by
  rintro S w cs x rfl u hu
  simp only [List.mem_cons, List.not_mem_nil, or_false] at hu
  rcases hu with rfl | rfl | rfl <;> rfl
theorem sl_ref : SlTy Tryz.prog 66 41 (.agg #[.int .u8 0, .int .i64 0, .int .u64 0]) 3 24 := ⟨by kernel_rfl, by kernel_rfl, by kernel_rfl, by omega⟩
def refL (gen : Int) (ps : List Int) : List (Int × Int) := ps.mapIdx fun i x => (x, u64w (gen + (i : Int)))
theorem refL_len (gen : Int) (ps : List Int) : (refL gen ps).length = ps.length := by unfold refL; rw [List.length_mapIdx]
theorem refL_snoc {gen : Int} {ps : List Int} {i : Nat} {x : Int} (h : ps[i]? = some x) : (refL gen ps).take (i + 1) = (refL gen ps).take i ++ [(x, u64w (gen + (i : Int)))] := by
  have : (refL gen ps)[i]? = some (x, u64w (gen + (i : Int))) := by unfold refL; rw [List.getElem?_mapIdx, h]; rfl
  rw [List.take_add_one, this]; rfl
set_option maxRecDepth 100000 in
set_option maxHeartbeats 8000000 in
theorem refs_any {w : World} {S : Nat → Prop} {A : Option Addr} {n c : Nat} {gen size : Int} {ps : List Int} (R : RdL IntR 1 S w A n ps) (hn : n ≤ 1000) (hnc : n ≤ c) :
    Calls Tryz.prog 33 #[.agg (blobC A n c gen size)] w fun e w' => ∃ A' c', e = .returned (.slice A' n c') ∧ n ≤ c' ∧ RdL RefR 3 (fun j => w.heap.size ≤ j) w' A' n (refL gen ps) ∧ Below w.heap.size w w' := by
  have hb0 : Below w.heap.size w (w.alloc (.cells (blobC A n c gen size) 61)) := (Below.refl _ _).alloc (Nat.le_refl _) _
  have bB := BoxAt.new w (blobC A n c gen size) 61
  have hna := fun (w2 : World) (hb : Below w.heap.size w w2) (i : Nat) (hi : i < n) (x : Int) (hx : ps[i]? = some x) => name_any (w := w2) (c := c) (gen := gen) (size := size) (R.below IntR.stable hb) hi (by omega) hx
  have hpl := R.1
  have q2 : (n : Int) ≤ 1000 := by omega
  unfold blobC at hb0 bB hna ⊢
  have HNA := Lib.hid hna
  have HPL := Lib.hid hpl
  clear R hna hpl
  go_enter Tryz.func33, Tryz.ntmps33
  obtain ⟨w1, hw1⟩ : ∃ w1, w.alloc (.cells #[.slice A n c, .int .u64 gen, .int .i64 size] 61) = w1 := ⟨_, rfl⟩
  obtain ⟨q, hq⟩ : ∃ q, w.heap.size = q := ⟨_, rfl⟩
  rw [hw1] at hb0 bB
  rw [hq] at bB
  have k0 := bB.cell 0
  go_wp2_with fail
  have hqw : q < w1.heap.size := bB.lt
  have HB0 := Lib.hid hb0
  have BB := Lib.hid bB
  have HQ := Lib.hid hq
  clear hb0 bB hq k0 hw1
  go_loopw [3, 8] (fun vo vi wr => ∃ (i : Nat) (A2 : Option Addr) (c2 : Nat), i ≤ n ∧ vi = .int .i64 i ∧ vo = .slice A2 i c2 ∧ i ≤ c2 ∧ Hid (OwnL RefR 41 3 w1.heap.size (fun j => w1.heap.size ≤ j) wr (.slice A2 i c2) i ((refL gen ps).take i)) ∧ Hid (Below w1.heap.size w1 wr)) (fun _ vi _ => n - (intOf vi).toNat)
  case atStart => exact ⟨0, none, 0, Nat.zero_le _, rfl, rfl, Nat.le_refl _, Lib.hid (by exact OwnL.nil_), Lib.hid (Below.refl _ _)⟩
  case round =>
    obtain ⟨i, A2, c2, hi, rfl, rfl, hc2, HO, HB⟩ := hrel
    have p0 : (0 : Int) ≤ (i : Int) := Int.natCast_nonneg _
    have HBW := Lib.hid (HB0.out.trans (HB.out.mono HB0.out.size))
    by_cases hlt : i < n
    · have p1 : (i : Int) < (n : Int) := by omega
      have bBr := BB.out.below HB.out
      have k0 := bBr.cell 0
      have k1 := bBr.cell 1
      have k2 := bBr.cell 2
      have z0 := bBr.frozen 0
      obtain ⟨x, hx⟩ : ∃ x, ps[i]? = some x := ⟨_, List.getElem?_eq_getElem (by rw [HPL.out]; exact hlt)⟩
      have hna := HNA.out wr HBW.out i hlt x hx
      have HSN := Lib.hid (refL_snoc (gen := gen) hx)
      clear hx bBr
      obtain ⟨g, hg⟩ : ∃ g, u64w (gen + (i : Int)) = g := ⟨_, rfl⟩
      rw [hg] at hna HSN
      clear hg
      go_wp2_with fail
      refine hna.mono ?_
      clear hna
      rintro e w3 ⟨rfl, hb3⟩
      have HB3 := Lib.hid (HB.out.trans (hb3.mono HB.out.size))
      have HBW3 := Lib.hid (HB0.out.trans (HB3.out.mono HB0.out.size))
      have HO3 := Lib.hid (HO.out.keep RefR.stable hb3)
      have hsz3 := HB3.out.size
      clear hb3 k0 k1 k2 z0
      go_wp2_with (at_builtin; go_must (refine wpList_push1 RefR.stable RefR.one sl_ref (by rfl) (by rfl) (base := w1.heap.size) (S := fun j => w1.heap.size ≤ j) (cs := #[.int .u8 3, .int .i64 x, .int .u64 g]) (y := (x, g)) (by rfl) (by rfl) HO3.out (by rfl) (by rfl) (by unfold maxLen; omega) (by omega) hsz3 ?_); intro A8 c8 ug hc8 own9 hlt8 hb8 hat8; have HO9 := Lib.hid own9; have HB9 := Lib.hid (HB3.out.trans hb8); clear own9 hb8 hlt8 hat8)
      exact ⟨⟨i + 1, A8, c8, by omega, by go_num, rfl, hc8, Lib.hid (by rw [HSN.out]; exact HO9.out), HB9⟩, by simp [intOf]; omega⟩
    · have p1 : ¬ (i : Int) < (n : Int) := by omega
      obtain rfl : i = n := by omega
      obtain ⟨A', c', e, _, hr⟩ := HO.out.rd (S' := fun j => w.heap.size ≤ j) (fun j hj => Nat.le_trans HB0.out.size hj) (fun cs x hx => hx)
      injection e with e1 _ e2
      subst e1; subst e2
      rw [List.take_of_length_le (by rw [refL_len, HPL.out]; exact Nat.le_refl _)] at hr
      have HR := Lib.hid hr
      clear hr
      go_wp2_with fail
      go_ret
      exact ⟨A2, c2, rfl, hc2, HR.out, HBW.out⟩
end Go.Proofs.YtcliejdiaohamaaGreat

set_option linter.unusedSimpArgs false
set_option linter.unusedVariables false
namespace Go.Proofs.YtcliejdiaohamaaGreat
open Go.RowKit Go.Cib
attribute [local go_sem] cell_set Later.cell Later.frozen Grw.cell Grw.frozen
end Go.Proofs.YtcliejdiaohamaaGreat

set_option linter.unusedSimpArgs false
set_option linter.unusedVariables false
namespace Go.Proofs.YtcliejdiaohamaaGreat
open Go.RowKit Go.Cib
attribute [local go_sem] cell_set Later.cell Later.frozen Grw.cell Grw.frozen
end Go.Proofs.YtcliejdiaohamaaGreat

set_option linter.unusedSimpArgs false
set_option linter.unusedVariables false
namespace Go.Proofs.YtcliejdiaohamaaGreat
open Go.RowKit Go.Cib
attribute [local go_sem] cell_set Later.cell Later.frozen Grw.cell Grw.frozen
end Go.Proofs.YtcliejdiaohamaaGreat

set_option linter.unusedSimpArgs false
set_option linter.unusedVariables false
namespace Go.Proofs.YtcliejdiaohamaaGreat
open Go.RowKit Go.Cib
attribute [local go_sem] cell_set Later.cell Later.frozen Grw.cell Grw.frozen
def varL (v : Nat) : List Nat := if h : v < 128 then [v] else (v % 128 + 128) :: varL (v / 128)
termination_by v
decreasing_by omega
theorem or_b8 {a : Nat} (ha : a < 256) : bits .or .u8 (a : Int) 128 = ((a % 128 + 128 : Nat) : Int) := by
  have : ∀ a, a < 256 → bits .or .u8 ((a : Nat) : Int) 128 = ((a % 128 + 128 : Nat) : Int) := by decide +kernel
  exact this a ha
set_option maxRecDepth 100000 in
set_option maxHeartbeats 4000000 in
theorem putvar_any {w : World} {n c v : Nat} {A : Option Addr} {S : Nat → Prop} {xs : List Nat} (R : RdL ByR 1 S w A n xs) (hn : n ≤ 9000) (hv : v < 18446744073709551616) :
    Calls Tryz.prog 169 #[.slice A n c, .int .u64 (v : Int)] w fun e w' => ∃ A' c' m, e = .returned (.slice A' m c') ∧ OwnL ByR 5 1 w.heap.size (fun _ => True) w' (.slice A' m c') m (xs ++ varL v) ∧ m ≤ n + 10 ∧ Below w.heap.size w w' := by
  have hgr := grown_any (c := c) (room := 10) R (by omega) (by omega)
  have HV := Lib.hid hv
  clear R hv
  push_cast at hgr
  go_enter Tryz.func169, Tryz.ntmps169
  go_wp2_with fail
  refine hgr.mono ?_
  rintro e w1 ⟨g, rfl, ho, hb1⟩
  have HO := Lib.hid ho
  have HB := Lib.hid hb1
  clear hgr ho hb1
  go_wp2_with fail
  go_loopw [1, 5] (fun vi vs wr => ∃ (j u : Nat) (A : Option Addr) (c' : Nat) (pre : List Nat), vi = .int .u64 u ∧ vs = .slice A (n + j) c' ∧ Hid (u * 128 ^ j ≤ v) ∧ j ≤ 9 ∧ Hid (pre ++ varL u = varL v) ∧ Hid (OwnL ByR 5 1 w.heap.size (fun _ => True) wr (.slice A (n + j) c') (n + j) (xs ++ pre)) ∧ Hid (Below w.heap.size w wr)) (fun vi _ _ => (intOf vi).toNat)
  case atStart => exact ⟨0, v, _, _, [], rfl, rfl, Lib.hid (by simp), by omega, Lib.hid rfl, by rw [List.append_nil]; exact HO, HB⟩
  case round =>
    clear HO HB
    obtain ⟨j, u, AO, cO, pre, rfl, rfl, HU, hj, HP, HO, HB⟩ := hrel
    have p0 : (0 : Int) ≤ (u : Int) := Int.natCast_nonneg _
    by_cases hlt : u < 128
    · have p1 : ¬ (u : Int) ≥ 128 := by omega
      have hszr := HB.out.size
      have HN := Lib.hid (show xs ++ pre ++ [u] = xs ++ varL v by rw [← HP.out, varL, dif_pos hlt, List.append_assoc])
      have f1 : IntKind.u8.wrap (u : Int) = (u : Int) := by rw [IntKind.wrap_u8]; omega
      go_wp2_with (at_builtin; go_must (refine wpList_push1 ByR.stable ByR.one sl_by (by rfl) (by rfl) (base := w.heap.size) (S := fun _ => True) (cs := #[.int .u8 (u : Int)]) (y := u) (by rfl) (by rfl) HO.out (by rfl) ⟨by omega, rfl⟩ (by unfold maxLen; omega) (by omega) hszr ?_); intro A8 c8 ug hc8 own9 hlt8 hb8 hat8; rw [HN.out] at own9; have HO9 := Lib.hid own9; have HB9 := Lib.hid (HB.out.trans hb8); clear own9 hb8 hlt8 hat8)
      go_ret
      exact ⟨A8, c8, _, rfl, HO9.out, by omega, HB9.out⟩
    · have p1 : (u : Int) ≥ 128 := by omega
      have hszr := HB.out.size
      have g1 : bits .or .u8 ((u : Int) % 256) 128 = ((u % 128 + 128 : Nat) : Int) := by
        have h1 := or_b8 (a := u % 256) (Nat.mod_lt _ (by omega))
        rw [show (u % 256 % 128 + 128 : Nat) = u % 128 + 128 by omega] at h1
        push_cast at h1 ⊢
        exact h1
      have hyl : u % 128 + 128 < 256 := by omega
      obtain ⟨y, hye⟩ : ∃ y, u % 128 + 128 = y := ⟨_, rfl⟩
      have HYE := Lib.hid hye
      rw [hye] at g1 hyl
      clear hye
      go_wp2_with (at_builtin; go_must (refine wpList_push1 ByR.stable ByR.one sl_by (by rfl) (by rfl) (base := w.heap.size) (S := fun _ => True) (cs := #[.int .u8 (y : Int)]) (y := y) (by rfl) (by rfl) HO.out (by rfl) ⟨hyl, rfl⟩ (by unfold maxLen; omega) (by omega) hszr ?_); intro A8 c8 ug hc8 own9 hlt8 hb8 hat8; have HO9 := Lib.hid own9; have HB9 := Lib.hid (HB.out.trans hb8); clear own9 hb8 hlt8 hat8)
      have hu2 : u / 128 * 128 ^ (j + 1) ≤ v := by
        have h1 := HU.out
        have h2 : u / 128 * 128 ≤ u := Nat.div_mul_le_self u 128
        rw [Nat.pow_succ, Nat.mul_comm (128 ^ j) 128, ← Nat.mul_assoc]
        exact Nat.le_trans (Nat.mul_le_mul_right _ h2) h1
      have hj2 : j + 1 ≤ 9 := by
        have h1 := HU.out
        have h3 := HV.out
        rcases Nat.lt_or_ge j 9 with h | h
        · omega
        · have hj9 : j = 9 := by omega
          subst hj9
          omega
      have hp2 : (pre ++ [y]) ++ varL (u / 128) = varL v := by
        rw [← HP.out]
        conv => rhs; rw [varL, dif_neg hlt, HYE.out]
        rw [List.append_assoc]; rfl
      have HO10 := HO9.out
      rw [List.append_assoc] at HO10
      exact ⟨⟨j + 1, u / 128, A8, c8, pre ++ [y], by push_cast; rfl, rfl, Lib.hid hu2, hj2, Lib.hid hp2, Lib.hid HO10, HB9⟩, by simp [intOf]; omega⟩
end Go.Proofs.YtcliejdiaohamaaGreat

set_option linter.unusedSimpArgs false
set_option linter.unusedVariables false
namespace Go.Proofs.YtcliejdiaohamaaGreat
open Go.RowKit Go.Cib
attribute [local go_sem] cell_set Later.cell Later.frozen Grw.cell Grw.frozen
def placesL (ps : List Nat) : List Nat := (ps.map varL).flatten
theorem OwnL.rdS {E : TypeId} {base n c : Nat} {w : World} {A : Option Addr} {xs : List Nat} (h : OwnL ByR E 1 base (fun _ => True) w (.slice A n c) n xs) : RdL ByR 1 (fun _ => True) w A n xs := by
  obtain ⟨A', c', e, _, hr⟩ := h.rd (S' := fun _ => True) (fun j hj => trivial) (fun cs x hx => hx)
  injection e with e1 _ e2
  subst e1
  exact hr
theorem OwnL.rdJ {E : TypeId} {base n c B : Nat} {w : World} {A : Option Addr} {xs : List Nat} (h : OwnL ByR E 1 base (fun _ => True) w (.slice A n c) n xs) (hB : B ≤ base) : RdL ByR 1 (fun j => B ≤ j) w A n xs := by
  obtain ⟨A', c', e, _, hr⟩ := h.rd (S' := fun j => B ≤ j) (fun j hj => Nat.le_trans hB hj) (fun cs x hx => hx)
  injection e with e1 _ e2
  subst e1
  exact hr
theorem placesL_snoc {ps : List Nat} {i x : Nat} (h : ps[i]? = some x) : placesL (ps.take (i + 1)) = placesL (ps.take i) ++ varL x := by
  unfold placesL
  rw [List.take_add_one, h]
  simp
set_option maxRecDepth 100000 in
set_option maxHeartbeats 8000000 in
theorem bpb_any {w : World} {S S2 : Nat → Prop} {A A0 : Option Addr} {n0 c0 n c gen size : Nat} {xs ps : List Nat} (R0 : RdL ByR 1 S2 w A0 n0 xs) (R : RdL IntR 1 S w A n (ps.map Int.ofNat)) (hn0 : n0 ≤ 2000) (hn : n ≤ 500) (hsz : size ≤ 1000000) (hg : gen < 18446744073709551616) (hps : ∀ x ∈ ps, x < 9000000000000000000) :
    Calls Tryz.prog 103 #[.slice A0 n0 c0, .agg (blobC A n c (gen : Int) (size : Int))] w fun e w' => ∃ A' c' m, e = .returned (.slice A' m c') ∧ RdL ByR 1 (fun j => w.heap.size ≤ j) w' A' m (xs ++ varL size ++ varL gen ++ varL n ++ placesL ps) ∧ Below w.heap.size w w' := by
  have hb0 : Below w.heap.size w (w.alloc (.cells (blobC A n c (gen : Int) (size : Int)) 61)) := (Below.refl _ _).alloc (Nat.le_refl _) _
  have bB := BoxAt.new w (blobC A n c (gen : Int) (size : Int)) 61
  unfold blobC at hb0 bB ⊢
  obtain ⟨w1, hw1⟩ : ∃ w1, w.alloc (.cells #[.slice A n c, .int .u64 (gen : Int), .int .i64 (size : Int)] 61) = w1 := ⟨_, rfl⟩
  obtain ⟨q, hq⟩ : ∃ q, w.heap.size = q := ⟨_, rfl⟩
  rw [hw1] at hb0 bB
  rw [hq] at bB
  have HR0 := Lib.hid (R0.below ByR.stable hb0)
  have HR := Lib.hid R
  have HB0 := Lib.hid hb0
  have BB := Lib.hid bB
  have HQ := Lib.hid hq
  have p0 : (0 : Int) ≤ (size : Int) := Int.natCast_nonneg _
  have HPS := Lib.hid hps
  clear R0 R hb0 bB hps
  go_enter Tryz.func103, Tryz.ntmps103
  go_wp2_with (at_builtin; go_must (refine wpList_appL ByR.stable ByR.one sl_by (by rfl) (by rfl) (base := w1.heap.size) (S := fun _ => True) (n := 0) (v := .slice none 0 0) (xs := []) (by rfl) OwnL.nil_ (by rfl) HR0.out (fun _ _ h => h) (by unfold maxLen; omega) (by omega) (Nat.le_refl _) ?_); intro A3 c3 w5 hc3 hown hg3 hat; have HB5 := Lib.hid ((Below.refl w1.heap.size w1).grown hg3 (Nat.le_refl _) (fun k hk => by cases hk)); have HO5 := Lib.hid hown; have bB5 := BB.out.below HB5.out; have k0 := bB5.cell 0; have k1 := bB5.cell 1; have k2 := bB5.cell 2; clear bB5 hown hg3 hat)
  clear hw1
  have HBD := Lib.hid HB5.out.drew
  have HOD := Lib.hid (show OwnL ByR 5 1 w1.heap.size (fun _ => True) w5.drew (.slice A3 n0 c3) n0 xs from by have h1 := OwnL.keep ByR.stable (w' := w5.drew) HO5.out (Below.refl _ _).drew; rw [Nat.zero_add, List.nil_append] at h1; exact h1)
  have s0 : w5.drew.cell? ⟨q, 0, none⟩ = some (.slice A n c) ∧ w5.drew.cell? ⟨q, 1, none⟩ = some (.int .u64 (gen : Int)) ∧ w5.drew.cell? ⟨q, 2, none⟩ = some (.int .i64 (size : Int)) := ⟨k0, k1, k2⟩
  have f1 : IntKind.u64.wrap (size : Int) = (size : Int) := by rw [IntKind.wrap_u64]; omega
  have f2 : IntKind.u64.wrap (n : Int) = (n : Int) := by rw [IntKind.wrap_u64]; omega
  refine wp_region_held_drew (S := fun w' => w'.cell? ⟨q, 0, none⟩ = some (.slice A n c) ∧ w'.cell? ⟨q, 1, none⟩ = some (.int .u64 (gen : Int)) ∧ w'.cell? ⟨q, 2, none⟩ = some (.int .i64 (size : Int))) (by kernel_rfl) (by first | exact s0 | exact s6 | exact s7 | exact s8) (fun hHeld => ?_)
  refine wpAnyH_take (i := 0) (v := ?_) rfl (by kernel_rfl) (by kernel_rfl) (by kernel_rfl) (fun _ _ _ h => h) (Or.inl ⟨by first | kernel_rfl | rfl, ?_⟩) (by assumption) ?_
  rotate_left
  · (intro wq hSw; (try dsimp only at hSw); (try simp (maxSteps := 2000000) only [List.getElem_toArray, List.getElem_cons_succ, List.getElem_cons_zero]); go_simp); try with_reducible rfl
  try simp (maxSteps := 2000000) only [List.getElem_toArray, List.getElem_cons_succ, List.getElem_cons_zero, Act.put, List.setIfInBounds_toArray, List.set_cons_zero, List.set_cons_succ]
  refine wpAnyH_take (i := 1) (v := ?_) rfl (by kernel_rfl) (by kernel_rfl) (by kernel_rfl) (fun _ _ _ h => h) (Or.inl ⟨by first | kernel_rfl | rfl, ?_⟩) (by assumption) ?_
  rotate_left
  · (intro wq hSw; (try dsimp only at hSw); (try simp (maxSteps := 2000000) only [List.getElem_toArray, List.getElem_cons_succ, List.getElem_cons_zero]); go_simp); try with_reducible rfl
  try simp (maxSteps := 2000000) only [List.getElem_toArray, List.getElem_cons_succ, List.getElem_cons_zero, Act.put, List.setIfInBounds_toArray, List.set_cons_zero, List.set_cons_succ]
  refine wpAnyH_take (i := 2) (v := ?_) rfl (by kernel_rfl) (by kernel_rfl) (by kernel_rfl) (fun _ _ _ h => h) (Or.inl ⟨by first | kernel_rfl | rfl, ?_⟩) (by assumption) ?_
  rotate_left
  · (intro wq hSw; (try dsimp only at hSw); (try simp (maxSteps := 2000000) only [List.getElem_toArray, List.getElem_cons_succ, List.getElem_cons_zero]); go_simp); try with_reducible rfl
  try simp (maxSteps := 2000000) only [List.getElem_toArray, List.getElem_cons_succ, List.getElem_cons_zero, Act.put, List.setIfInBounds_toArray, List.set_cons_zero, List.set_cons_succ]
  refine wpAnyH_take (i := 3) (v := ?_) rfl (by kernel_rfl) (by kernel_rfl) (by kernel_rfl) (fun _ _ _ h => h) (Or.inl ⟨by first | kernel_rfl | rfl, ?_⟩) (by assumption) ?_
  rotate_left
  · (intro wq hSw; (try dsimp only at hSw); (try simp (maxSteps := 2000000) only [List.getElem_toArray, List.getElem_cons_succ, List.getElem_cons_zero]); go_simp); try with_reducible rfl
  try simp (maxSteps := 2000000) only [List.getElem_toArray, List.getElem_cons_succ, List.getElem_cons_zero, Act.put, List.setIfInBounds_toArray, List.set_cons_zero, List.set_cons_succ]
  refine wpAnyH_take (i := 5) (v := ?_) rfl (by kernel_rfl) (by kernel_rfl) (by kernel_rfl) (fun _ _ _ h => h) (Or.inl ⟨by first | kernel_rfl | rfl, ?_⟩) (by assumption) ?_
  rotate_left
  · (intro wq hSw; (try dsimp only at hSw); (try simp (maxSteps := 2000000) only [List.getElem_toArray, List.getElem_cons_succ, List.getElem_cons_zero]); go_simp); try with_reducible rfl
  try simp (maxSteps := 2000000) only [List.getElem_toArray, List.getElem_cons_succ, List.getElem_cons_zero, Act.put, List.setIfInBounds_toArray, List.set_cons_zero, List.set_cons_succ]
  refine wpAnyH_take (i := 6) (v := ?_) rfl (by kernel_rfl) (by kernel_rfl) (by kernel_rfl) (fun _ _ _ h => h) (Or.inl ⟨by first | kernel_rfl | rfl, ?_⟩) (by assumption) ?_
  rotate_left
  · (intro wq hSw; (try dsimp only at hSw); (try simp (maxSteps := 2000000) only [List.getElem_toArray, List.getElem_cons_succ, List.getElem_cons_zero]); go_simp); try with_reducible rfl
  try simp (maxSteps := 2000000) only [List.getElem_toArray, List.getElem_cons_succ, List.getElem_cons_zero, Act.put, List.setIfInBounds_toArray, List.set_cons_zero, List.set_cons_succ]
  refine wpAnyH_take (i := 8) (v := ?_) rfl (by kernel_rfl) (by kernel_rfl) (by kernel_rfl) (fun _ _ _ h => h) (Or.inl ⟨by first | kernel_rfl | rfl, ?_⟩) (by assumption) ?_
  rotate_left
  · (intro wq hSw; (try dsimp only at hSw); (try simp (maxSteps := 2000000) only [List.getElem_toArray, List.getElem_cons_succ, List.getElem_cons_zero]); go_simp); try with_reducible rfl
  try simp (maxSteps := 2000000) only [List.getElem_toArray, List.getElem_cons_succ, List.getElem_cons_zero, Act.put, List.setIfInBounds_toArray, List.set_cons_zero, List.set_cons_succ]
  refine wpAnyH_take (i := 9) (v := ?_) rfl (by kernel_rfl) (by kernel_rfl) (by kernel_rfl) (fun _ _ _ h => h) (Or.inl ⟨by first | kernel_rfl | rfl, ?_⟩) (by assumption) ?_
  rotate_left
  · (intro wq hSw; (try dsimp only at hSw); (try simp (maxSteps := 2000000) only [List.getElem_toArray, List.getElem_cons_succ, List.getElem_cons_zero]); go_simp); try with_reducible rfl
  try simp (maxSteps := 2000000) only [List.getElem_toArray, List.getElem_cons_succ, List.getElem_cons_zero, Act.put, List.setIfInBounds_toArray, List.set_cons_zero, List.set_cons_succ]
  refine wpAnyH_take (i := 10) (v := ?_) rfl (by kernel_rfl) (by kernel_rfl) (by kernel_rfl) (fun _ _ _ h => h) (Or.inl ⟨by first | kernel_rfl | rfl, ?_⟩) (by assumption) ?_
  rotate_left
  · (intro wq hSw; (try dsimp only at hSw); (try simp (maxSteps := 2000000) only [List.getElem_toArray, List.getElem_cons_succ, List.getElem_cons_zero]); go_simp); try with_reducible rfl
  try simp (maxSteps := 2000000) only [List.getElem_toArray, List.getElem_cons_succ, List.getElem_cons_zero, Act.put, List.setIfInBounds_toArray, List.set_cons_zero, List.set_cons_succ]
  refine wpAnyH_take (i := 11) (v := ?_) rfl (by kernel_rfl) (by kernel_rfl) (by kernel_rfl) (fun _ _ _ h => h) (Or.inl ⟨by first | kernel_rfl | rfl, ?_⟩) (by assumption) ?_
  rotate_left
  · (intro wq hSw; (try dsimp only at hSw); (try simp (maxSteps := 2000000) only [List.getElem_toArray, List.getElem_cons_succ, List.getElem_cons_zero]); go_simp); try with_reducible rfl
  try simp (maxSteps := 2000000) only [List.getElem_toArray, List.getElem_cons_succ, List.getElem_cons_zero, Act.put, List.setIfInBounds_toArray, List.set_cons_zero, List.set_cons_succ]
  refine wpAnyH_ready (rs := [4]) (by kernel_rfl) (by simp) ?_
  refine AllReadyH.cons rfl (fun K hK => ?_) AllReadyH.nil
  try simp (maxSteps := 2000000) only [List.getElem_toArray, List.getElem_cons_succ, List.getElem_cons_zero]
  go_simp
  go_at_call 169
  refine (putvar_any (v := size) (OwnL.rdS HOD.out) (by omega) (by omega)).mono ?_
  rintro e w6 ⟨A6, c6, m6, rfl, ho6, hm6, hb6⟩
  have HB6 := Lib.hid (HBD.out.trans (hb6.mono HBD.out.size))
  have HO6 := Lib.hid ho6
  have bB6 := BB.out.below HB6.out
  have s6 : w6.cell? ⟨q, 0, none⟩ = some (.slice A n c) ∧ w6.cell? ⟨q, 1, none⟩ = some (.int .u64 (gen : Int)) ∧ w6.cell? ⟨q, 2, none⟩ = some (.int .i64 (size : Int)) := ⟨bB6.cell 0, bB6.cell 1, bB6.cell 2⟩
  clear ho6 hb6 bB6
  try (go_wp2_with fail)
  refine hK.out _ _ (by first | exact s0 | exact s6 | exact s7 | exact s8) (fun hHeld => ?_)
  clear hK K
  try simp (maxSteps := 2000000) only [List.getElem_toArray, List.getElem_cons_succ, List.getElem_cons_zero, Act.put, List.setIfInBounds_toArray, List.set_cons_zero, List.set_cons_succ]
  refine wpAnyH_ready (rs := [7]) (by kernel_rfl) (by simp) ?_
  refine AllReadyH.cons rfl (fun K hK => ?_) AllReadyH.nil
  try simp (maxSteps := 2000000) only [List.getElem_toArray, List.getElem_cons_succ, List.getElem_cons_zero]
  go_simp
  go_at_call 169
  refine (putvar_any (v := gen) (OwnL.rdS HO6.out) (by omega) hg).mono ?_
  rintro e w7 ⟨A7, c7, m7, rfl, ho7, hm7, hb7⟩
  have HB7 := Lib.hid (HB6.out.trans (hb7.mono HB6.out.size))
  have HO7 := Lib.hid ho7
  have bB7 := BB.out.below HB7.out
  have s7 : w7.cell? ⟨q, 0, none⟩ = some (.slice A n c) ∧ w7.cell? ⟨q, 1, none⟩ = some (.int .u64 (gen : Int)) ∧ w7.cell? ⟨q, 2, none⟩ = some (.int .i64 (size : Int)) := ⟨bB7.cell 0, bB7.cell 1, bB7.cell 2⟩
  clear ho7 hb7 bB7
  try (go_wp2_with fail)
  refine hK.out _ _ (by first | exact s0 | exact s6 | exact s7 | exact s8) (fun hHeld => ?_)
  clear hK K
  try simp (maxSteps := 2000000) only [List.getElem_toArray, List.getElem_cons_succ, List.getElem_cons_zero, Act.put, List.setIfInBounds_toArray, List.set_cons_zero, List.set_cons_succ]
  refine wpAnyH_ready (rs := [12]) (by kernel_rfl) (by simp) ?_
  refine AllReadyH.cons rfl (fun K hK => ?_) AllReadyH.nil
  try simp (maxSteps := 2000000) only [List.getElem_toArray, List.getElem_cons_succ, List.getElem_cons_zero]
  go_simp
  go_at_call 169
  refine (putvar_any (v := n) (OwnL.rdS HO7.out) (by omega) (by omega)).mono ?_
  rintro e w8 ⟨A8, c8, m8, rfl, ho8, hm8, hb8⟩
  have HB8 := Lib.hid (HB7.out.trans (hb8.mono HB7.out.size))
  have HO8 := Lib.hid ho8
  have bB8 := BB.out.below HB8.out
  have s8 : w8.cell? ⟨q, 0, none⟩ = some (.slice A n c) ∧ w8.cell? ⟨q, 1, none⟩ = some (.int .u64 (gen : Int)) ∧ w8.cell? ⟨q, 2, none⟩ = some (.int .i64 (size : Int)) := ⟨bB8.cell 0, bB8.cell 1, bB8.cell 2⟩
  clear ho8 hb8 bB8
  try (go_wp2_with fail)
  refine hK.out _ _ (by first | exact s0 | exact s6 | exact s7 | exact s8) (fun hHeld => ?_)
  clear hK K
  try simp (maxSteps := 2000000) only [List.getElem_toArray, List.getElem_cons_succ, List.getElem_cons_zero, Act.put, List.setIfInBounds_toArray, List.set_cons_zero, List.set_cons_succ]
  refine wpAnyH_take (i := 13) (v := ?_) rfl (by kernel_rfl) (by kernel_rfl) (by kernel_rfl) (fun _ _ _ h => h) (Or.inl ⟨by first | kernel_rfl | rfl, ?_⟩) (by assumption) ?_
  rotate_left
  · (intro wq hSw; (try dsimp only at hSw); (try simp (maxSteps := 2000000) only [List.getElem_toArray, List.getElem_cons_succ, List.getElem_cons_zero]); go_simp); try with_reducible rfl
  try simp (maxSteps := 2000000) only [List.getElem_toArray, List.getElem_cons_succ, List.getElem_cons_zero, Act.put, List.setIfInBounds_toArray, List.set_cons_zero, List.set_cons_succ]
  refine wpAnyH_done (by kernel_rfl) ?_ _
  have HBW7 := Lib.hid (Nat.le_trans HB0.out.size HB7.out.size)
  clear s0 s6 s7 hHeld HOD HBD HO6 HB6 HO7 HB7
  obtain ⟨c80, c81, c82⟩ := s8
  have HM8 := Lib.hid (show m8 ≤ n0 + 30 by omega)
  have HBW := Lib.hid (HB0.out.trans (HB8.out.mono HB0.out.size))
  go_wp2_with fail
  go_loopw [6, 31] (fun vo vi wr => ∃ (i mm : Nat) (A2 : Option Addr) (c2 : Nat), i ≤ n ∧ vi = .int .i64 i ∧ vo = .slice A2 mm c2 ∧ Hid (mm ≤ n0 + 30 + 10 * i) ∧ Hid (RdL ByR 1 (fun j => w.heap.size ≤ j) wr A2 mm (xs ++ varL size ++ varL gen ++ varL n ++ placesL (ps.take i))) ∧ Hid (Below w8.heap.size w8 wr)) (fun _ vi _ => n - (intOf vi).toNat)
  case atStart => exact ⟨0, m8, A8, c8, Nat.zero_le _, rfl, rfl, Lib.hid (by have := HM8.out; omega), Lib.hid (by rw [List.take_zero, show placesL [] = [] from rfl, List.append_nil]; exact OwnL.rdJ HO8.out (by have := HBW7.out; exact this)), Lib.hid (Below.refl _ _)⟩
  case round =>
    obtain ⟨i, mm, A2, c2, hi, rfl, rfl, HM, HO, HB⟩ := hrel
    have p0 : (0 : Int) ≤ (i : Int) := Int.natCast_nonneg _
    have HW := Lib.hid (HBW.out.trans (HB.out.mono HBW.out.size))
    by_cases hlt : i < n
    · have p1 : (i : Int) < (n : Int) := by omega
      obtain ⟨ba, oa, rfl, _, hba⟩ := HR.out.addr hlt
      obtain ⟨x0, hx0, v1⟩ := int_at1 HR.out hlt
      rw [List.getElem?_map, Option.map_eq_some_iff] at hx0
      obtain ⟨x, hx, rfl⟩ := hx0
      have v2 := (HW.out.cell (p := ⟨ba, oa + i, none⟩) hba).trans v1
      have hxs := HPS.out x (List.mem_of_getElem? hx)
      have HSN := Lib.hid (placesL_snoc hx)
      have f3 : IntKind.u64.wrap (x : Int) = (x : Int) := by rw [IntKind.wrap_u64]; omega
      have p3 : (0 : Int) ≤ (x : Int) := Int.natCast_nonneg _
      have hpv := putvar_any (c := c2) (v := x) HO.out (by have := HM.out; omega) (by omega)
      have hsz := HW.out.size
      clear v1 hx hxs
      rw [show Int.ofNat x = (x : Int) from rfl] at v2
      go_wp2_with fail
      refine hpv.mono ?_
      clear hpv
      rintro e w9 ⟨A9, c9, m9, rfl, ho9, hm9, hb9⟩
      have HR9 := Lib.hid (OwnL.rdJ ho9 hsz)
      have HB9 := Lib.hid (HB.out.trans (hb9.mono HB.out.size))
      clear ho9 hb9
      go_wp2_with fail
      exact ⟨⟨i + 1, m9, A9, c9, by omega, by go_num, rfl, Lib.hid (by have := HM.out; omega), Lib.hid (by rw [HSN.out, ← List.append_assoc]; exact HR9.out), HB9⟩, by simp [intOf]; omega⟩
    · have p1 : ¬ (i : Int) < (n : Int) := by omega
      obtain rfl : i = n := by omega
      have HF := Lib.hid (show RdL ByR 1 (fun j => w.heap.size ≤ j) wr A2 mm (xs ++ varL size ++ varL gen ++ varL i ++ placesL ps) from by
        have h1 := HO.out
        rwa [List.take_of_length_le (by have := HR.out.1; rw [List.length_map] at this; omega)] at h1)
      go_wp2_with fail
      go_ret
      have h1 := HF.out
      have h2 := HW.out
      rw [HQ.out] at h1 h2
      simp only [List.append_assoc] at h1
      exact ⟨A2, c2, mm, rfl, h1, h2⟩
end Go.Proofs.YtcliejdiaohamaaGreat
