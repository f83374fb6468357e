/-
  SuperTorn, walked.
  A geometry among the arguments; bounds of whole numbers.
  A base and a blob among the arguments.
  A head among the arguments.
-/
import Derived.Test.YtcliejdiaohamaaGreatUt15
import Derived.Test.YtcliejdiaohamaaGreatUt3
import Derived.Test.YtcliejdiaohamaaGreatUt2
import Derived.Test.YtcliejdiaohamaaGreatUt4
import Derived.Test.YtcliejdiaohamaaGreatUt7
import Derived.Test.YtcliejdiaohamaaGreatUt13
set_option linter.unusedSimpArgs false
set_option linter.unusedVariables false
namespace Go.Proofs.YtcliejdiaohamaaGreat
open Go.RowKit Go.Cib
attribute [local go_sem] cell_set Later.cell Later.frozen Grw.cell Grw.frozen
theorem fit_nat {p ct sz : Int} {g : Nat} (hg : Hid (g < 2 ^ 64)) (h : fitB p ct sz = true) : ∃ hd : Hdr, hd.ok ∧ p = (hd.p : Int) ∧ g = hd.g ∧ ct = (hd.ct : Int) ∧ sz = (hd.sz : Int) := by
  have h := of_decide_eq_true h
  exact ⟨⟨p.toNat, g, ct.toNat, sz.toNat⟩, ⟨by show p.toNat < 65536; omega, hg, by show ct.toNat < 65536; omega, Lib.hid (by show sz.toNat < 4294967296; omega)⟩, by show p = ((p.toNat : Nat) : Int); omega, rfl, by show ct = ((ct.toNat : Nat) : Int); omega, by show sz = ((sz.toNat : Nat) : Int); omega⟩
set_option maxRecDepth 100000 in
set_option maxHeartbeats 64000000 in
theorem storn_any {w : World} {k m s slot : Int} {Eo En go gn : Nat} {po co so pn cn sn : Int} {A4 A5 : Option Addr} {n4 c4 n5 c5 : Nat} {keep : List Bool} {gone : List Int} (hgo : Hid (go < 2 ^ 64)) (hgn : Hid (gn < 2 ^ 64)) (R4 : Hid (RdL BoolR 1 (fun _ => True) w A4 n4 keep)) (R5 : Hid (RdL IntR 1 (fun _ => True) w A5 n5 gone)) :
    Calls Tryz.prog 4 #[.agg #[.int .i64 k, .int .i64 m, .int .i64 s], .int .i64 slot, .agg #[.int .u64 (Eo : Int), .int .i64 po, .int .u64 (go : Int), .int .i64 co, .int .i64 so], .agg #[.int .u64 (En : Int), .int .i64 pn, .int .u64 (gn : Int), .int .i64 cn, .int .i64 sn], .slice A4 n4 c4, .slice A5 n5 c5] w fun e w' => e = .returned (.bool true) ∧ Below w.heap.size w w' := by
  have hsm := fun w => small_any (w := w) k m s
  have b0 : Below w.heap.size w (w.alloc (.cells #[.int .i64 k, .int .i64 m, .int .i64 s] 31)) := (Below.refl _ _).alloc (Nat.le_refl _) _
  have B0 := BoxAt.new w #[.int .i64 k, .int .i64 m, .int .i64 s] 31
  obtain ⟨w1, hw1⟩ : ∃ w1, w.alloc (.cells #[.int .i64 k, .int .i64 m, .int .i64 s] 31) = w1 := ⟨_, rfl⟩
  obtain ⟨q6, hq6⟩ : ∃ q6, w.heap.size = q6 := ⟨_, rfl⟩
  rw [hw1] at b0 B0
  rw [hq6] at B0
  have b1 := b0.alloc b0.size (.cells #[.int .u64 (Eo : Int), .int .i64 po, .int .u64 (go : Int), .int .i64 co, .int .i64 so] 26)
  have B1 := BoxAt.new w1 #[.int .u64 (Eo : Int), .int .i64 po, .int .u64 (go : Int), .int .i64 co, .int .i64 so] 26
  replace B0 := B0.alloc (.cells #[.int .u64 (Eo : Int), .int .i64 po, .int .u64 (go : Int), .int .i64 co, .int .i64 so] 26)
  obtain ⟨w2, hw2⟩ : ∃ w2, w1.alloc (.cells #[.int .u64 (Eo : Int), .int .i64 po, .int .u64 (go : Int), .int .i64 co, .int .i64 so] 26) = w2 := ⟨_, rfl⟩
  obtain ⟨q8, hq8⟩ : ∃ q8, w1.heap.size = q8 := ⟨_, rfl⟩
  rw [hw2] at b1 B1 B0
  rw [hq8] at B1
  have b2 := b1.alloc b1.size (.cells #[.int .u64 (En : Int), .int .i64 pn, .int .u64 (gn : Int), .int .i64 cn, .int .i64 sn] 26)
  have B2 := BoxAt.new w2 #[.int .u64 (En : Int), .int .i64 pn, .int .u64 (gn : Int), .int .i64 cn, .int .i64 sn] 26
  replace B0 := B0.alloc (.cells #[.int .u64 (En : Int), .int .i64 pn, .int .u64 (gn : Int), .int .i64 cn, .int .i64 sn] 26)
  replace B1 := B1.alloc (.cells #[.int .u64 (En : Int), .int .i64 pn, .int .u64 (gn : Int), .int .i64 cn, .int .i64 sn] 26)
  obtain ⟨w3, hw3⟩ : ∃ w3, w2.alloc (.cells #[.int .u64 (En : Int), .int .i64 pn, .int .u64 (gn : Int), .int .i64 cn, .int .i64 sn] 26) = w3 := ⟨_, rfl⟩
  obtain ⟨q9, hq9⟩ : ∃ q9, w2.heap.size = q9 := ⟨_, rfl⟩
  rw [hw3] at b2 B2 B1 B0
  rw [hq9] at B2
  have HB3 := Lib.hid b2
  have HBX : Hid (∀ w', Below w3.heap.size w3 w' → (w'.cell? ⟨q6, 0, none⟩ = some (.int .i64 k) ∧ w'.cell? ⟨q6, 1, none⟩ = some (.int .i64 m) ∧ w'.cell? ⟨q6, 2, none⟩ = some (.int .i64 s)) ∧ (w'.cell? ⟨q8, 0, none⟩ = some (.int .u64 (Eo : Int)) ∧ w'.cell? ⟨q8, 1, none⟩ = some (.int .i64 po) ∧ w'.cell? ⟨q8, 2, none⟩ = some (.int .u64 (go : Int)) ∧ w'.cell? ⟨q8, 3, none⟩ = some (.int .i64 co) ∧ w'.cell? ⟨q8, 4, none⟩ = some (.int .i64 so)) ∧ (w'.cell? ⟨q9, 0, none⟩ = some (.int .u64 (En : Int)) ∧ w'.cell? ⟨q9, 1, none⟩ = some (.int .i64 pn) ∧ w'.cell? ⟨q9, 2, none⟩ = some (.int .u64 (gn : Int)) ∧ w'.cell? ⟨q9, 3, none⟩ = some (.int .i64 cn) ∧ w'.cell? ⟨q9, 4, none⟩ = some (.int .i64 sn))) := Lib.hid fun w' hb =>
    ⟨⟨(B0.below hb).cell 0, (B0.below hb).cell 1, (B0.below hb).cell 2⟩, ⟨(B1.below hb).cell 0, (B1.below hb).cell 1, (B1.below hb).cell 2, (B1.below hb).cell 3, (B1.below hb).cell 4⟩, ⟨(B2.below hb).cell 0, (B2.below hb).cell 1, (B2.below hb).cell 2, (B2.below hb).cell 3, (B2.below hb).cell 4⟩⟩
  have cc := HBX.out w3 (Below.refl _ _)
  clear b0 b1 b2 B0 B1 B2
  unfold geoC at hsm
  have p5 : (0 : Int) ≤ (n5 : Int) := Int.natCast_nonneg _
  have pE : (0 : Int) ≤ (Eo : Int) := Int.natCast_nonneg _
  have pF : (0 : Int) ≤ (En : Int) := Int.natCast_nonneg _
  go_enter Tryz.func4, Tryz.ntmps4
  go_wp2_with fail
  cases hs : smallB k m s with
  | false =>
    rw [hs] at hsm
    refine (hsm _).mono ?_
    clear hsm hw1 hw2 hw3 hq6 hq8 hq9
    rintro e w4 ⟨rfl, hb4⟩
    have HB4 := Lib.hid (HB3.out.trans (hb4.mono HB3.out.size))
    clear cc
    go_wp2_with fail
    refine heads_any.mono ?_
    rintro e wz ⟨rfl, hbz⟩
    go_wp2_with fail
    go_ret
    exact ⟨rfl, HB4.out.trans (hbz.mono HB4.out.size)⟩
  | true =>
  rw [hs] at hsm
  refine (hsm _).mono ?_
  clear hsm hw1 hw2 hw3 hq6 hq8 hq9
  rintro e w4 ⟨rfl, hb4⟩
  have HB4 := Lib.hid (HB3.out.trans (hb4.mono HB3.out.size))
  have cc4 := HBX.out w4 hb4
  have H34 := Lib.hid hb4
  obtain ⟨k, m, s, rfl, rfl, rfl, k1, m1, km, s1, s8⟩ := small_nat hs
  clear hb4 cc hs
  have q0 : (0 : Int) ≤ (k : Int) := Int.natCast_nonneg _
  have q1 : (0 : Int) ≤ (m : Int) := Int.natCast_nonneg _
  have q2 : (k : Int) + (m : Int) ≤ 10 := by omega
  by_cases g0 : (s : Int) < 2
  · go_wp2_with fail
    refine heads_any.mono ?_
    rintro e wz ⟨rfl, hbz⟩
    go_wp2_with fail
    go_ret
    exact ⟨rfl, HB4.out.trans (hbz.mono HB4.out.size)⟩
  by_cases g1 : slot < 0
  · go_wp2_with fail
    refine heads_any.mono ?_
    rintro e wz ⟨rfl, hbz⟩
    go_wp2_with fail
    go_ret
    exact ⟨rfl, HB4.out.trans (hbz.mono HB4.out.size)⟩
  by_cases g2 : slot > 1
  · go_wp2_with fail
    refine heads_any.mono ?_
    rintro e wz ⟨rfl, hbz⟩
    go_wp2_with fail
    go_ret
    exact ⟨rfl, HB4.out.trans (hbz.mono HB4.out.size)⟩
  by_cases g3 : 1099511627776 ≤ En
  · have g3n : decide (1099511627776 ≤ En) = true := decide_eq_true g3
    have g3i : decide ((En : Int) ≥ 1099511627776) = true := decide_eq_true (by omega)
    clear g3
    go_wp2_with fail
    refine heads_any.mono ?_
    rintro e wz ⟨rfl, hbz⟩
    go_wp2_with fail
    go_ret
    exact ⟨rfl, HB4.out.trans (hbz.mono HB4.out.size)⟩
  have g3n : decide (1099511627776 ≤ En) = false := decide_eq_false g3
  have g3i : decide ((En : Int) ≥ 1099511627776) = false := decide_eq_false (by omega)
  have G3 := Lib.hid g3
  clear g3
  by_cases g4 : En ≤ Eo
  · have g4i : decide ((Eo : Int) ≥ (En : Int)) = true := decide_eq_true (by omega)
    have g4n : decide (En ≤ Eo) = true := decide_eq_true g4
    go_wp2_with fail
    refine heads_any.mono ?_
    rintro e wz ⟨rfl, hbz⟩
    go_wp2_with fail
    go_ret
    exact ⟨rfl, HB4.out.trans (hbz.mono HB4.out.size)⟩
  have g4i : decide ((Eo : Int) ≥ (En : Int)) = false := decide_eq_false (by omega)
  have g4n : decide (En ≤ Eo) = false := decide_eq_false g4
  have G4 := Lib.hid g4
  go_wp2_with fail
  refine hfits_any.mono ?_
  rintro e w5 ⟨rfl, hb5⟩
  have HB5 := Lib.hid (HB4.out.trans (hb5.mono HB4.out.size))
  have H35 := Lib.hid (H34.out.trans (hb5.mono H34.out.size))
  have cc5 := HBX.out w5 H35.out
  clear hb5 cc4 HB4 H34
  cases hf1 : fitB po co so with
  | false =>
    go_wp2_with fail
    refine heads_any.mono ?_
    rintro e wz ⟨rfl, hbz⟩
    go_wp2_with fail
    go_ret
    exact ⟨rfl, HB5.out.trans (hbz.mono HB5.out.size)⟩
  | true =>
  go_wp2_with fail
  refine hfits_any.mono ?_
  rintro e w6 ⟨rfl, hb6⟩
  have HB6 := Lib.hid (HB5.out.trans (hb6.mono HB5.out.size))
  have H36 := Lib.hid (H35.out.trans (hb6.mono H35.out.size))
  have cc6 := HBX.out w6 H36.out
  clear hb6 cc5 HB5 H35
  cases hf2 : fitB pn cn sn with
  | false =>
    go_wp2_with fail
    refine heads_any.mono ?_
    rintro e wz ⟨rfl, hbz⟩
    go_wp2_with fail
    go_ret
    exact ⟨rfl, HB6.out.trans (hbz.mono HB6.out.size)⟩
  | true =>
  by_cases g5 : (n5 : Int) > (m : Int)
  · have g5n : decide (m < n5) = true := decide_eq_true (by omega)
    have g5m : m < n5 := by omega
    go_wp2_with fail
    refine heads_any.mono ?_
    rintro e wz ⟨rfl, hbz⟩
    go_wp2_with fail
    go_ret
    exact ⟨rfl, HB6.out.trans (hbz.mono HB6.out.size)⟩
  have g5n : decide (m < n5) = false := decide_eq_false (by omega)
  have g5m : ¬ m < n5 := by omega
  have hmd := made_law (w0 := w6) (w := w6) (k := k) (m := m) (n := s) (Below.refl _ _) k1 m1 (by omega) s1 (by omega)
  unfold geoC at hmd
  go_wp2_with fail
  refine hmd.mono ?_
  clear hmd
  rintro e w7 ⟨a, cb, bf, rfl, hM, hb7⟩
  have g3 := G3.out
  obtain ⟨ho, hok1, rfl, rfl, rfl, rfl⟩ := fit_nat hgo hf1
  obtain ⟨hn, hok2, rfl, rfl, rfl, rfl⟩ := fit_nat hgn hf2
  obtain ⟨z, rfl⟩ : ∃ z : Nat, slot = (z : Int) := ⟨slot.toNat, by omega⟩
  have hz : z < 2 := by omega
  obtain ⟨zo, hzo⟩ : ∃ zo, zo + z = 1 := ⟨1 - z, by omega⟩
  have hzo2 : zo < 2 := by omega
  have hne : z ≠ zo := by omega
  have hw1 : IntKind.i64.wrap (1 - (z : Int)) = (zo : Int) := by rw [IntKind.wrap_i64]; omega
  have hs2 : 2 ≤ s := by omega
  have hEn : En < 1099511627776 := by omega
  have hlt : Eo < En := by omega
  have hEo : Eo < 1099511627776 := by omega
  have hgl : n5 ≤ m := by omega
  have HC : Hid (∀ w', Below w6.heap.size w6 w' → (w'.cell? ⟨q6, 0, none⟩ = some (.int .i64 (k : Int)) ∧ w'.cell? ⟨q6, 1, none⟩ = some (.int .i64 (m : Int)) ∧ w'.cell? ⟨q6, 2, none⟩ = some (.int .i64 (s : Int))) ∧ (w'.cell? ⟨q8, 0, none⟩ = some (.int .u64 (Eo : Int)) ∧ w'.cell? ⟨q8, 1, none⟩ = some (.int .i64 (ho.p : Int)) ∧ w'.cell? ⟨q8, 2, none⟩ = some (.int .u64 (ho.g : Int)) ∧ w'.cell? ⟨q8, 3, none⟩ = some (.int .i64 (ho.ct : Int)) ∧ w'.cell? ⟨q8, 4, none⟩ = some (.int .i64 (ho.sz : Int))) ∧ (w'.cell? ⟨q9, 0, none⟩ = some (.int .u64 (En : Int)) ∧ w'.cell? ⟨q9, 1, none⟩ = some (.int .i64 (hn.p : Int)) ∧ w'.cell? ⟨q9, 2, none⟩ = some (.int .u64 (hn.g : Int)) ∧ w'.cell? ⟨q9, 3, none⟩ = some (.int .i64 (hn.ct : Int)) ∧ w'.cell? ⟨q9, 4, none⟩ = some (.int .i64 (hn.sz : Int)))) := Lib.hid fun w' hb => HBX.out w' (H36.out.trans (hb.mono H36.out.size))
  have HHF := Lib.hid (And.intro hf1 hf2)
  have HEE := Lib.hid (And.intro hlt (And.intro hEo hEn))
  have HW1 := Lib.hid hw1
  have HZ := Lib.hid (And.intro hz hzo2)
  have HGL := Lib.hid hgl
  have HNE := Lib.hid hne
  have HS2 := Lib.hid hs2
  have HS8 := Lib.hid s8
  clear hf1 hf2 HBX hgo hgn G3 G4 g4 g4n g4i g3 g3n g3i g2 g1 g0 g5 g5n g5m hlt hEo hEn hzo hne hw1 hz hzo2 hgl hs2 pE pF p5
  have HM7 := Lib.hid (SMid.x0 (show SMid w6 w7 a cb bf k m s (newS s (k + m)) from hM))
  have cc7 := HC.out w7 hb7
  have hp := hput_any (z := z) (E := Eo) (hd := ho) HM7.out (by have := HS2.out; have := HZ.out; omega) HZ.out.1 HEE.out.2.1 hok1 cache_new
  unfold hdC at hp
  have HP := Lib.hid hp
  clear hM hb7 cc6 hp
  have q3 : IntKind.i64.wrap ((k : Int) + (m : Int)) = ((k + m : Nat) : Int) := by rw [IntKind.wrap_i64]; push_cast; omega
  go_wp2_with fail
  refine HP.out.mono ?_
  clear HP cc7
  rintro e w8 ⟨rfl, hM8, _⟩
  have HM8 := Lib.hid hM8
  have cc8 := HC.out w8 hM8.bel
  have hcl8 : ∀ st ∈ (newS s (k + m)).mapIdx (putQ s k (k + m) (hRef z Eo) (hdT ho)), st.cache.length < 1000000 := fun st hst => by
    have := cache_mapIdx (c := 900000) cache_new st hst
    omega
  have hfl := flush_x HM8.out hcl8
  rw [cnt_live (hput_alive (by have := HS2.out; have := HZ.out; omega) (live_newS s (k + m))), HM8.out.len] at hfl
  have HFL := Lib.hid hfl
  clear hM8 hcl8 hfl
  go_wp2_with fail
  refine HFL.out.mono ?_
  clear HFL cc8
  rintro e w9 ⟨rfl, hM9, _⟩
  have HCal1 := Lib.hid ((Cal.new s k (k + m) HS2.out).putf (z := z) (E := Eo) (hd := ho) HZ.out.1 HS2.out HEE.out.2.1 hok1 (fun d _ => by simp))
  have HM9 := Lib.hid hM9
  have cc9 := HC.out w9 hM9.bel
  have hp := hput_any (z := zo) (E := En) (hd := hn) HM9.out (by have := HS2.out; have := HZ.out; omega) HZ.out.2 HEE.out.2.2 hok2 HCal1.out.cache
  unfold hdC at hp
  have HP := Lib.hid hp
  have g7 : (((k + m : Nat) : Int) != ((k + m : Nat) : Int)) = false := by simp
  clear hM9 hp HM8
  have hw1 := HW1.out
  go_wp2_with fail
  refine HP.out.mono ?_
  clear HP cc9 hw1 g7
  rintro e w10 ⟨rfl, hM10, _⟩
  have HM10 := Lib.hid hM10
  have HR4 := Lib.hid (R4.out.below BoolR.stable (HB6.out.trans (hM10.bel.mono HB6.out.size)))
  have hkp := hkept_any (c := c4) (N := k + m) HR4 (by omega)
  have HKP := Lib.hid hkp
  clear hM10 hkp HM9
  go_wp2_with fail
  refine HKP.out.mono ?_
  clear HKP
  rintro e w11 ⟨A11, c11, rfl, hr11, hb11⟩
  have hX11 := HM10.out.below hb11
  have hcl11 : ∀ st ∈ (((newS s (k + m)).mapIdx (putQ s k (k + m) (hRef z Eo) (hdT ho))).map flushG).mapIdx (putQ s k (k + m) (hRef zo En) (hdT hn)), st.cache.length < 1000000 := fun st hst => by
    have := cache_mapIdx (c := 900000) HCal1.out.cache st hst
    omega
  have hr12 : RdL BoolsR 1 (fun j => w10.heap.size ≤ j ∧ j < w11.heap.size) w11 A11 (k + m) (keepR (onK keep) (k + m)) := RdL.bound BoolsR.stable hr11
  have hcr := crash_x (c := c11) hX11 hcl11 hr12 (fun j hj => .inr hj)
  have HCR := Lib.hid hcr
  clear hr11 hb11 hX11 hcl11 hr12 hcr HM10 HR4
  obtain ⟨tot, htot⟩ : ∃ tot, cntP (onK keep) (k + m) = tot := ⟨_, rfl⟩
  rw [htot]
  clear htot
  go_wp2_with fail
  refine HCR.out.mono ?_
  clear HCR
  rintro e w12 ⟨rfl, hM12, _⟩
  have hM12' : SMidX (fun j => j < w6.heap.size) w6 w12 a cb bf k m s (tornS s k (k + m) z zo Eo En ho hn (keepR (onK keep) (k + m))) := hM12.sub fun j hj => .inl hj
  have hS0 : (tornS s k (k + m) z zo Eo En ho hn (keepR (onK keep) (k + m))).mapIdx (goneS s (gone.take 0)) = tornS s k (k + m) z zo Eo En ho hn (keepR (onK keep) (k + m)) := by rw [List.take_zero]; exact goneS_nil _ _
  have HM12 := Lib.hid (show SMidX (fun j => j < w6.heap.size) w6 w12 a cb bf k m s ((tornS s k (k + m) z zo Eo En ho hn (keepR (onK keep) (k + m))).mapIdx (goneS s (gone.take 0))) by rw [hS0]; exact hM12')
  have HR5 := Lib.hid (RdL.bound IntR.stable (R5.out.below IntR.stable HB6.out))
  have hgl5 := HR5.out.1
  obtain ⟨STS, hSTS⟩ : ∃ STS, tornS s k (k + m) z zo Eo En ho hn (keepR (onK keep) (k + m)) = STS := ⟨_, rfl⟩
  rw [hSTS] at HM12
  have HSTS := Lib.hid hSTS
  have p5 : (0 : Int) ≤ (n5 : Int) := Int.natCast_nonneg _
  clear hM12 hM12' hS0 hSTS
  go_wp2_with fail
  go_loopw [19] (fun vi wr => ∃ i : Nat, i ≤ n5 ∧ vi = .int .i64 i ∧ Hid (SMidX (fun j => j < w6.heap.size) w6 wr a cb bf k m s (STS.mapIdx (goneS s (gone.take i))))) (fun vi _ => n5 - (intOf vi).toNat)
  case atStart => exact ⟨0, Nat.zero_le _, rfl, HM12⟩
  case round =>
  clear HM12
  obtain ⟨i, hi, rfl, HM⟩ := hrel
  have pi : (0 : Int) ≤ (i : Int) := Int.natCast_nonneg _
  have p6 : (i : Int) ≤ 10 := by have := HGL.out; omega
  by_cases hlt : i < n5
  · have p1 : (i : Int) < (n5 : Int) := by omega
    have hr := HR5.out.below IntR.stable HM.out.bel
    obtain ⟨b5, o5, rfl, _, hb5⟩ := hr.addr hlt
    obtain ⟨x, hx, v⟩ := int_at1 hr hlt
    have hfa := fail_x HM.out x
    rw [goneS_next hx] at hfa
    have HFA := Lib.hid hfa
    clear hr hx hfa hb5 HR5
    go_wp2_with fail
    refine HFA.out.mono ?_
    clear HFA v
    rintro e w13 ⟨rfl, hM13, _⟩
    have HM13 := Lib.hid hM13
    clear hM13
    go_wp2_with fail
    exact ⟨⟨i + 1, by omega, by go_num, HM13⟩, by simp [intOf]; omega⟩
  obtain rfl : i = n5 := by omega
  have p1 : ¬ (i : Int) < (i : Int) := by omega
  have HM13 := Lib.hid (show SMidX (fun j => j < w6.heap.size) w6 wr a cb bf k m s (STS.mapIdx (goneS s gone)) by have := HM.out; rw [List.take_of_length_le (by omega)] at this; exact this)
  have HR4 := Lib.hid (RdL.bound BoolR.stable (R4.out.below BoolR.stable HB6.out))
  have hkl := HR4.out.1
  have hcal := torn_cal (n := s) (k := k) (m := m) (ks := keepR (onK keep) (k + m)) (on := onK keep) HZ.out.1 HZ.out.2 HNE.out HS2.out HEE.out.2.1 HEE.out.2.2 hok1 hok2 (fun d hd => keepR_at hd)
  rw [HSTS.out] at hcal
  have HCAL := Lib.hid hcal
  have p4 : (0 : Int) ≤ (n4 : Int) := Int.natCast_nonneg _
  clear hcal HM
  go_wp2_with fail
  clear p1
  obtain ⟨w13, hw13⟩ : ∃ w13, wr = w13 := ⟨_, rfl⟩
  rw [hw13] at HM13 ⊢
  clear hw13
  obtain ⟨P, hP⟩ : ∃ P : Nat → Bool, (fun d => leftB gone d && onK keep d) = P := ⟨_, rfl⟩
  have HP := Lib.hid hP
  have pN : ((k + m : Nat) : Int) ≤ 10 := by omega
  clear hP
  go_loopw [18, 20] (fun vl vd wr => ∃ d : Nat, d ≤ k + m ∧ vd = .int .i64 d ∧ vl = .int .i64 (cntP P d : Int) ∧ Hid (Below w13.heap.size w13 wr)) (fun _ vd _ => k + m - (intOf vd).toNat)
  case atStart => exact ⟨0, Nat.zero_le _, rfl, rfl, Lib.hid (Below.refl _ _)⟩
  case round =>
  obtain ⟨d, hd, rfl, rfl, HB⟩ := hrel
  have pd : (0 : Int) ≤ (d : Int) := Int.natCast_nonneg _
  have pd6 : (d : Int) ≤ 10 := by omega
  have hcl : cntP P d ≤ d := by unfold cntP; have := List.length_filter_le P (List.range d); rw [List.length_range] at this; exact this
  obtain ⟨ct, hct⟩ : ∃ ct, cntP P d = ct := ⟨_, rfl⟩
  have hct0 : (0 : Int) ≤ (ct : Int) := Int.natCast_nonneg _
  have hct6 : (ct : Int) ≤ 10 := by omega
  by_cases hlt2 : d < k + m
  · have p1 : (d : Int) < ((k + m : Nat) : Int) := by omega
    have hcn := cntP_next (on := P) (i := d)
    rw [hct] at hcn ⊢
    obtain ⟨st, hst⟩ : ∃ st, (STS.mapIdx (goneS s gone))[d]? = some st := ⟨_, List.getElem?_eq_getElem (by rw [HM13.out.len]; exact hlt2)⟩
    have hdead : st.dead = !leftB gone d := by
      rcases goneS_at hst with ⟨h1, rfl⟩ | ⟨h1, h2⟩
      · rw [leftB_no.2 h1]; rfl
      · rw [leftB_iff.2 h1, (HCAL.out.cl st (List.mem_of_getElem? h2)).1]; rfl
    have hdx := dead_x (HM13.out.below' HB.out) hst
    rw [hdead] at hdx
    have hPd : P d = (leftB gone d && onK keep d) := by rw [← HP.out]
    have HDX := Lib.hid hdx
    have HCN := Lib.hid hcn
    have HPD := Lib.hid hPd
    clear hst hdead hdx hcn hPd hcl hct
    cases hlf : leftB gone d with
    | false =>
      rw [hlf] at HDX HPD
      have e1 : cntP P (d + 1) = ct := by rw [HCN.out, HPD.out]; rfl
      have HE1 := Lib.hid e1
      clear e1 hlf
      go_wp2_with fail
      refine HDX.out.mono ?_
      clear HDX
      rintro e w14 ⟨rfl, hb14⟩
      have HB14 := Lib.hid (HB.out.trans (hb14.mono HB.out.size))
      clear hb14
      go_wp2_with fail
      exact ⟨⟨d + 1, by omega, by go_num, by rw [HE1.out], HB14⟩, by simp [intOf]; omega⟩
    | true =>
      rw [hlf] at HDX HPD
      by_cases hk4 : d < n4
      · have p2 : (d : Int) < (n4 : Int) := by omega
        have hr := HR4.out.below BoolR.stable (HM13.out.bel.trans (HB.out.mono HM13.out.bel.size))
        obtain ⟨kb, ko, x, rfl, hx, _⟩ := bool_at hr hk4
        have hox := onK_yes hx
        have HR4' := Lib.hid (fun (w' : World) (hb : Below w6.heap.size w6 w') => (bool_at (HR4.out.below BoolR.stable hb) hk4))
        cases x with
        | true =>
          have e1 : cntP P (d + 1) = ct + 1 := by rw [HCN.out, HPD.out, hox]; rfl
          have HE1 := Lib.hid e1
          have HV : Hid (∀ w', Below w6.heap.size w6 w' → w'.cell? ⟨kb, ko + d, none⟩ = some (.bool true)) := Lib.hid fun w' hb => by
            obtain ⟨b', o', x', e, hx', v'⟩ := HR4'.out w' hb
            rw [hx] at hx'
            cases hx'
            injection e with e
            injection e with e3 e4
            rw [e3, e4]; exact v'
          clear e1 hlf hr hx hox HR4'
          go_wp2_with fail
          refine HDX.out.mono ?_
          clear HDX
          rintro e w14 ⟨rfl, hb14⟩
          have HB14 := Lib.hid (HB.out.trans (hb14.mono HB.out.size))
          have v14 := HV.out w14 (HM13.out.bel.trans (HB14.out.mono HM13.out.bel.size))
          clear hb14
          go_wp2_with fail
          exact ⟨⟨d + 1, by omega, by go_num, by rw [HE1.out]; go_num, HB14⟩, by simp [intOf]; omega⟩
        | false =>
          have e1 : cntP P (d + 1) = ct := by rw [HCN.out, HPD.out, hox]; rfl
          have HE1 := Lib.hid e1
          have HV : Hid (∀ w', Below w6.heap.size w6 w' → w'.cell? ⟨kb, ko + d, none⟩ = some (.bool false)) := Lib.hid fun w' hb => by
            obtain ⟨b', o', x', e, hx', v'⟩ := HR4'.out w' hb
            rw [hx] at hx'
            cases hx'
            injection e with e
            injection e with e3 e4
            rw [e3, e4]; exact v'
          clear e1 hlf hr hx hox HR4'
          go_wp2_with fail
          refine HDX.out.mono ?_
          clear HDX
          rintro e w14 ⟨rfl, hb14⟩
          have HB14 := Lib.hid (HB.out.trans (hb14.mono HB.out.size))
          have v14 := HV.out w14 (HM13.out.bel.trans (HB14.out.mono HM13.out.bel.size))
          clear hb14
          go_wp2_with fail
          exact ⟨⟨d + 1, by omega, by go_num, by rw [HE1.out], HB14⟩, by simp [intOf]; omega⟩
      · have p2 : ¬ (d : Int) < (n4 : Int) := by omega
        have hox := onK_no (l := keep) (d := d) (by rw [hkl]; omega)
        have e1 : cntP P (d + 1) = ct := by rw [HCN.out, HPD.out, hox]; rfl
        have HE1 := Lib.hid e1
        clear e1 hlf hox
        go_wp2_with fail
        refine HDX.out.mono ?_
        clear HDX
        rintro e w14 ⟨rfl, hb14⟩
        have HB14 := Lib.hid (HB.out.trans (hb14.mono HB.out.size))
        clear hb14
        go_wp2_with fail
        exact ⟨⟨d + 1, by omega, by go_num, by rw [HE1.out], HB14⟩, by simp [intOf]; omega⟩
  obtain rfl : d = k + m := by omega
  have p1 : ¬ ((k + m : Nat) : Int) < ((k + m : Nat) : Int) := by omega
  have HM14 := Lib.hid (HM13.out.below' HB.out)
  have hvw := torn_vw (n := s) (k := k) (m := m) (D := gone) (ks := keepR (onK keep) (k + m)) (on := onK keep) k1 (by have := HGL.out; have := HR5.out.1; omega) HZ.out.1 HZ.out.2 HNE.out HS2.out HEE.out.2.1 HEE.out.2.2 hok1 hok2 (fun d hd => keepR_at hd)
  rw [HSTS.out, HP.out] at hvw
  obtain ⟨tv1, tv2, tv3⟩ := torn_val (k := k) (left := cntP P (k + m)) (ho := ho) (hn := hn) HZ.out.1 HZ.out.2 HNE.out HEE.out.1
  have hfd := hfind_any HM14.out hvw
  rw [tv1, tv2, tv3] at hfd
  have HFD := Lib.hid hfd
  clear hvw tv1 tv2 tv3 hfd HM13 HB hcl
  obtain ⟨lf, hlf⟩ : ∃ lf, cntP P (k + m) = lf := ⟨_, rfl⟩
  rw [hlf] at hct HFD ⊢
  have HLF := Lib.hid hlf
  have hseen := fun (hl : k ≤ lf) => hseen_any HM14.out (Lib.hid (by
    have h := torn_rd (n := s) (k := k) (m := m) (D := gone) (ks := keepR (onK keep) (k + m)) (on := onK keep) (by omega) k1 (by omega) HZ.out.1 HZ.out.2 HNE.out HS2.out HEE.out.2.1 HEE.out.2.2 hok1 hok2 (fun d hd => keepR_at hd)
    rw [HSTS.out] at h
    exact h))
  by_cases hl : k ≤ lf
  · have e1 : decide (k ≤ lf) = true := decide_eq_true hl
    have e2 : decide ((lf : Int) ≥ (k : Int)) = true := decide_eq_true (by omega)
    rw [if_pos hl, if_pos hl] at HFD
    unfold hdC at HFD
    have HL := Lib.hid hl
    clear hlf hct hseen hl
    go_wp2_with fail
    refine HFD.out.mono ?_
    clear HFD
    rintro e w15 ⟨rfl, hb15⟩
    have b16 := BoxAt.new w15 #[.int .u64 (En : Int), .int .i64 (hn.p : Int), .int .u64 (hn.g : Int), .int .i64 (hn.ct : Int), .int .i64 (hn.sz : Int)] 26
    have hb16 := hb15.alloc hb15.size (.cells #[.int .u64 (En : Int), .int .i64 (hn.p : Int), .int .u64 (hn.g : Int), .int .i64 (hn.ct : Int), .int .i64 (hn.sz : Int)] 26)
    obtain ⟨w16, hw16⟩ : ∃ w16, w15.alloc (.cells #[.int .u64 (En : Int), .int .i64 (hn.p : Int), .int .u64 (hn.g : Int), .int .i64 (hn.ct : Int), .int .i64 (hn.sz : Int)] 26) = w16 := ⟨_, rfl⟩
    obtain ⟨q21, hq21⟩ : ∃ q21, w15.heap.size = q21 := ⟨_, rfl⟩
    rw [hw16] at b16 hb16
    rw [hq21] at b16
    have HM16 := Lib.hid (HM14.out.below' hb16)
    have cc16 := HC.out w16 HM16.out.bel
    have HSF : Hid (∀ w', Below w16.heap.size w16 w' → (w'.cell? ⟨q21, 0, none⟩ = some (.int .u64 (En : Int)) ∧ w'.cell? ⟨q21, 1, none⟩ = some (.int .i64 (hn.p : Int)) ∧ w'.cell? ⟨q21, 2, none⟩ = some (.int .u64 (hn.g : Int)) ∧ w'.cell? ⟨q21, 3, none⟩ = some (.int .i64 (hn.ct : Int)) ∧ w'.cell? ⟨q21, 4, none⟩ = some (.int .i64 (hn.sz : Int))) ∧ (w'.cell? ⟨q9, 0, none⟩ = some (.int .u64 (En : Int)) ∧ w'.cell? ⟨q9, 1, none⟩ = some (.int .i64 (hn.p : Int)) ∧ w'.cell? ⟨q9, 2, none⟩ = some (.int .u64 (hn.g : Int)) ∧ w'.cell? ⟨q9, 3, none⟩ = some (.int .i64 (hn.ct : Int)) ∧ w'.cell? ⟨q9, 4, none⟩ = some (.int .i64 (hn.sz : Int)))) := Lib.hid fun w' hb =>
      ⟨⟨(b16.below hb).cell 0, (b16.below hb).cell 1, (b16.below hb).cell 2, (b16.below hb).cell 3, (b16.below hb).cell 4⟩, (HC.out w' (HM16.out.bel.trans (hb.mono HM16.out.bel.size))).2.2⟩
    have hd16 : Below w16.heap.size w16 w16.drew := (Below.refl _ _).drew
    have hsn := hseen_any (HM16.out.below' hd16) (Lib.hid (by
      have h := torn_rd (n := s) (k := k) (m := m) (D := gone) (ks := keepR (onK keep) (k + m)) (on := onK keep) (by omega) k1 (by omega) HZ.out.1 HZ.out.2 HNE.out HS2.out HEE.out.2.1 HEE.out.2.2 hok1 hok2 (fun d hd => keepR_at hd)
      rw [HSTS.out] at h
      exact h))
    have HSN := Lib.hid hsn
    have hw1 := HW1.out
    clear hb15 hb16 b16 hsn HM14
    go_wp2_with fail
    clear hw16 hq21 cc16
    refine wp_region_held_drew (S := fun w' => (w'.cell? ⟨q21, 0, none⟩ = some (.int .u64 (En : Int)) ∧ w'.cell? ⟨q21, 1, none⟩ = some (.int .i64 (hn.p : Int)) ∧ w'.cell? ⟨q21, 2, none⟩ = some (.int .u64 (hn.g : Int)) ∧ w'.cell? ⟨q21, 3, none⟩ = some (.int .i64 (hn.ct : Int)) ∧ w'.cell? ⟨q21, 4, none⟩ = some (.int .i64 (hn.sz : Int))) ∧ (w'.cell? ⟨q9, 0, none⟩ = some (.int .u64 (En : Int)) ∧ w'.cell? ⟨q9, 1, none⟩ = some (.int .i64 (hn.p : Int)) ∧ w'.cell? ⟨q9, 2, none⟩ = some (.int .u64 (hn.g : Int)) ∧ w'.cell? ⟨q9, 3, none⟩ = some (.int .i64 (hn.ct : Int)) ∧ w'.cell? ⟨q9, 4, none⟩ = some (.int .i64 (hn.sz : Int)))) (by kernel_rfl) (by first | exact HSF.out _ hd16 | exact HSF.out _ hb17 | exact HSF.out _ hb18) (fun hHeld => ?_)
    refine wpAnyH_take2 (i := 0) (v := ?_) (some 160) rfl (by kernel_rfl) (by kernel_rfl) (by kernel_rfl) (by kernel_rfl) (fun _ _ _ h => h) (Or.inl ⟨by first | kernel_rfl | rfl, ?_⟩) (by assumption) ?_
    rotate_left
    · (intro wq hSw; (try dsimp only at hSw); (try simp (maxSteps := 2000000) only [zz1, zz2, zz3]); go_simp); try with_reducible rfl
    try simp (maxSteps := 2000000) only [zz1, zz2, zz3, Act.put, zz4, zz5, zz6]
    refine wpAnyH_take2 (i := 1) (v := ?_) (some 161) rfl (by kernel_rfl) (by kernel_rfl) (by kernel_rfl) (by kernel_rfl) (fun _ _ _ h => h) (Or.inl ⟨by first | kernel_rfl | rfl, ?_⟩) (by assumption) ?_
    rotate_left
    · (intro wq hSw; (try dsimp only at hSw); (try simp (maxSteps := 2000000) only [zz1, zz2, zz3]); go_simp); try with_reducible rfl
    try simp (maxSteps := 2000000) only [zz1, zz2, zz3, Act.put, zz4, zz5, zz6]
    refine wpAnyH_take2 (i := 2) (v := ?_) (some 162) rfl (by kernel_rfl) (by kernel_rfl) (by kernel_rfl) (by kernel_rfl) (fun _ _ _ h => h) (Or.inl ⟨by first | kernel_rfl | rfl, ?_⟩) (by assumption) ?_
    rotate_left
    · (intro wq hSw; (try dsimp only at hSw); (try simp (maxSteps := 2000000) only [zz1, zz2, zz3]); go_simp); try with_reducible rfl
    try simp (maxSteps := 2000000) only [zz1, zz2, zz3, Act.put, zz4, zz5, zz6]
    refine wpAnyH_take2 (i := 3) (v := ?_) (some 163) rfl (by kernel_rfl) (by kernel_rfl) (by kernel_rfl) (by kernel_rfl) (fun _ _ _ h => h) (Or.inl ⟨by first | kernel_rfl | rfl, ?_⟩) (by assumption) ?_
    rotate_left
    · (intro wq hSw; (try dsimp only at hSw); (try simp (maxSteps := 2000000) only [zz1, zz2, zz3]); go_simp); try with_reducible rfl
    try simp (maxSteps := 2000000) only [zz1, zz2, zz3, Act.put, zz4, zz5, zz6]
    refine wpAnyH_take2 (i := 4) (v := ?_) (some 164) rfl (by kernel_rfl) (by kernel_rfl) (by kernel_rfl) (by kernel_rfl) (fun _ _ _ h => h) (Or.inl ⟨by first | kernel_rfl | rfl, ?_⟩) (by assumption) ?_
    rotate_left
    · (intro wq hSw; (try dsimp only at hSw); (try simp (maxSteps := 2000000) only [zz1, zz2, zz3]); go_simp); try with_reducible rfl
    try simp (maxSteps := 2000000) only [zz1, zz2, zz3, Act.put, zz4, zz5, zz6]
    refine wpAnyH_take2 (i := 5) (v := ?_) (some 165) rfl (by kernel_rfl) (by kernel_rfl) (by kernel_rfl) (by kernel_rfl) (fun _ _ _ h => h) (Or.inl ⟨by first | kernel_rfl | rfl, ?_⟩) (by assumption) ?_
    rotate_left
    · (intro wq hSw; (try dsimp only at hSw); (try simp (maxSteps := 2000000) only [zz1, zz2, zz3]); go_simp); try with_reducible rfl
    try simp (maxSteps := 2000000) only [zz1, zz2, zz3, Act.put, zz4, zz5, zz6]
    refine wpAnyH_take2 (i := 6) (v := ?_) (some 166) rfl (by kernel_rfl) (by kernel_rfl) (by kernel_rfl) (by kernel_rfl) (fun _ _ _ h => h) (Or.inl ⟨by first | kernel_rfl | rfl, ?_⟩) (by assumption) ?_
    rotate_left
    · (intro wq hSw; (try dsimp only at hSw); (try simp (maxSteps := 2000000) only [zz1, zz2, zz3]); go_simp); try with_reducible rfl
    try simp (maxSteps := 2000000) only [zz1, zz2, zz3, Act.put, zz4, zz5, zz6]
    refine wpAnyH_take2 (i := 7) (v := ?_) (some 167) rfl (by kernel_rfl) (by kernel_rfl) (by kernel_rfl) (by kernel_rfl) (fun _ _ _ h => h) (Or.inl ⟨by first | kernel_rfl | rfl, ?_⟩) (by assumption) ?_
    rotate_left
    · (intro wq hSw; (try dsimp only at hSw); (try simp (maxSteps := 2000000) only [zz1, zz2, zz3]); go_simp); try with_reducible rfl
    try simp (maxSteps := 2000000) only [zz1, zz2, zz3, Act.put, zz4, zz5, zz6]
    refine wpAnyH_take2 (i := 8) (v := ?_) (some 168) rfl (by kernel_rfl) (by kernel_rfl) (by kernel_rfl) (by kernel_rfl) (fun _ _ _ h => h) (Or.inl ⟨by first | kernel_rfl | rfl, ?_⟩) (by assumption) ?_
    rotate_left
    · (intro wq hSw; (try dsimp only at hSw); (try simp (maxSteps := 2000000) only [zz1, zz2, zz3]); go_simp); try with_reducible rfl
    try simp (maxSteps := 2000000) only [zz1, zz2, zz3, Act.put, zz4, zz5, zz6]
    refine wpAnyH_take2 (i := 9) (v := ?_) (some 169) rfl (by kernel_rfl) (by kernel_rfl) (by kernel_rfl) (by kernel_rfl) (fun _ _ _ h => h) (Or.inl ⟨by first | kernel_rfl | rfl, ?_⟩) (by assumption) ?_
    rotate_left
    · (intro wq hSw; (try dsimp only at hSw); (try simp (maxSteps := 2000000) only [zz1, zz2, zz3]); go_simp); try with_reducible rfl
    try simp (maxSteps := 2000000) only [zz1, zz2, zz3, Act.put, zz4, zz5, zz6]
    refine wpAnyH_take2 (i := 10) (v := ?_) (some 170) rfl (by kernel_rfl) (by kernel_rfl) (by kernel_rfl) (by kernel_rfl) (fun _ _ _ h => h) (Or.inl ⟨by first | kernel_rfl | rfl, ?_⟩) (by assumption) ?_
    rotate_left
    · (intro wq hSw; (try dsimp only at hSw); (try simp (maxSteps := 2000000) only [zz1, zz2, zz3]); go_simp); try with_reducible rfl
    try simp (maxSteps := 2000000) only [zz1, zz2, zz3, Act.put, zz4, zz5, zz6]
    refine wpAnyH_take2 (i := 12) (v := ?_) (some 172) rfl (by kernel_rfl) (by kernel_rfl) (by kernel_rfl) (by kernel_rfl) (fun _ _ _ h => h) (Or.inl ⟨by first | kernel_rfl | rfl, ?_⟩) (by assumption) ?_
    rotate_left
    · (intro wq hSw; (try dsimp only at hSw); (try simp (maxSteps := 2000000) only [zz1, zz2, zz3]); go_simp); try with_reducible rfl
    try simp (maxSteps := 2000000) only [zz1, zz2, zz3, Act.put, zz4, zz5, zz6]
    refine wpAnyH_take2 (i := 13) (v := ?_) (some 173) rfl (by kernel_rfl) (by kernel_rfl) (by kernel_rfl) (by kernel_rfl) (fun _ _ _ h => h) (Or.inl ⟨by first | kernel_rfl | rfl, ?_⟩) (by assumption) ?_
    rotate_left
    · (intro wq hSw; (try dsimp only at hSw); (try simp (maxSteps := 2000000) only [zz1, zz2, zz3]); go_simp); try with_reducible rfl
    try simp (maxSteps := 2000000) only [zz1, zz2, zz3, Act.put, zz4, zz5, zz6]
    refine wpAnyH_ready (rs := [11]) (by kernel_rfl) (by simp) ?_
    refine AllReadyH.cons rfl (fun K hK => ?_) AllReadyH.nil
    try simp (maxSteps := 2000000) only [zz1, zz2, zz3]
    go_simp
    go_at_call 18
    refine HSN.out.mono ?_
    clear HSN
    rintro e w17 ⟨mx, hmx, rfl, hbb⟩
    have hb17 : Below w16.heap.size w16 w17 := hd16.trans (show Below w16.heap.size w16.drew w17 from hbb)
    have hmxe : mx = En := torn_seen (n := s) (k := k) (m := m) (D := gone) (ks := keepR (onK keep) (k + m)) (on := onK keep) (z := z) (zo := zo) (Eo := Eo) (ho := ho) (hn := hn) (by omega) k1 (by omega) HZ.out.1 HZ.out.2 HNE.out HS2.out HEE.out.2.1 HEE.out.2.2 HEE.out.1 hok1 hok2 (fun d hd => keepR_at hd) (by rw [HP.out, HLF.out]; exact HL.out) (by rw [HSTS.out]; exact hmx)
    subst hmxe
    clear hmx hbb
    try (go_wp2_with fail)
    refine hK.out _ _ (by first | exact HSF.out _ hd16 | exact HSF.out _ hb17 | exact HSF.out _ hb18) (fun hHeld => ?_)
    clear hK K
    try simp (maxSteps := 2000000) only [zz1, zz2, zz3, Act.put, zz4, zz5, zz6]
    refine wpAnyH_take2 (i := 14) (v := ?_) (some 174) rfl (by kernel_rfl) (by kernel_rfl) (by kernel_rfl) (by kernel_rfl) (fun _ _ _ h => h) (Or.inl ⟨by first | kernel_rfl | rfl, ?_⟩) (by assumption) ?_
    rotate_left
    · (intro wq hSw; (try dsimp only at hSw); (try simp (maxSteps := 2000000) only [zz1, zz2, zz3]); go_simp); try with_reducible rfl
    try simp (maxSteps := 2000000) only [zz1, zz2, zz3, Act.put, zz4, zz5, zz6]
    refine wpAnyH_take2 (i := 15) (v := ?_) (some 175) rfl (by kernel_rfl) (by kernel_rfl) (by kernel_rfl) (by kernel_rfl) (fun _ _ _ h => h) (Or.inl ⟨by first | kernel_rfl | rfl, ?_⟩) (by assumption) ?_
    rotate_left
    · (intro wq hSw; (try dsimp only at hSw); (try simp (maxSteps := 2000000) only [zz1, zz2, zz3]); go_simp); try with_reducible rfl
    try simp (maxSteps := 2000000) only [zz1, zz2, zz3, Act.put, zz4, zz5, zz6]
    refine wpAnyH_take2 (i := 16) (v := ?_) (some 176) rfl (by kernel_rfl) (by kernel_rfl) (by kernel_rfl) (by kernel_rfl) (fun _ _ _ h => h) (Or.inl ⟨by first | kernel_rfl | rfl, ?_⟩) (by assumption) ?_
    rotate_left
    · (intro wq hSw; (try dsimp only at hSw); (try simp (maxSteps := 2000000) only [zz1, zz2, zz3]); go_simp); try with_reducible rfl
    try simp (maxSteps := 2000000) only [zz1, zz2, zz3, Act.put, zz4, zz5, zz6]
    refine wpAnyH_ready (rs := [17]) (by kernel_rfl) (by simp) ?_
    refine AllReadyH.cons rfl (fun K hK => ?_) AllReadyH.nil
    try simp (maxSteps := 2000000) only [zz1, zz2, zz3]
    go_simp
    go_at_call 20
    refine heads_any.mono ?_
    rintro e w18 ⟨rfl, hbb⟩
    have hb18 := hb17.trans (hbb.mono hb17.size)
    have HB18 := Lib.hid (HM16.out.bel.trans (hb18.mono HM16.out.bel.size))
    clear hbb
    try (go_wp2_with fail)
    refine hK.out _ _ (by first | exact HSF.out _ hd16 | exact HSF.out _ hb17 | exact HSF.out _ hb18) (fun hHeld => ?_)
    clear hK K
    try simp (maxSteps := 2000000) only [zz1, zz2, zz3, Act.put, zz4, zz5, zz6]
    refine wpAnyH_take2 (i := 18) (v := ?_) (some 178) rfl (by kernel_rfl) (by kernel_rfl) (by kernel_rfl) (by kernel_rfl) (fun _ _ _ h => h) (Or.inl ⟨by first | kernel_rfl | rfl, ?_⟩) (by assumption) ?_
    rotate_left
    · (intro wq hSw; (try dsimp only at hSw); (try simp (maxSteps := 2000000) only [zz1, zz2, zz3]); go_simp); try with_reducible rfl
    try simp (maxSteps := 2000000) only [zz1, zz2, zz3, Act.put, zz4, zz5, zz6]
    refine wpAnyH_take2 (i := 19) (v := ?_) (some 12) rfl (by kernel_rfl) (by kernel_rfl) (by kernel_rfl) (by kernel_rfl) (fun _ _ _ h => h) (Or.inl ⟨by first | kernel_rfl | rfl, ?_⟩) (by assumption) ?_
    rotate_left
    · (intro wq hSw; (try dsimp only at hSw); (try simp (maxSteps := 2000000) only [zz1, zz2, zz3]); go_simp); try with_reducible rfl
    try simp (maxSteps := 2000000) only [zz1, zz2, zz3, Act.put, zz4, zz5, zz6]
    refine wpAnyH_done (by kernel_rfl) ?_ _
    clear hHeld
    have HB19 := Lib.hid (HB6.out.trans (HB18.out.mono HB6.out.size))
    clear hb17 hb18
    go_wp2_with fail
    go_ret
    exact ⟨rfl, HB19.out⟩
  · have e1 : decide (k ≤ lf) = false := decide_eq_false hl
    have e2 : decide ((lf : Int) ≥ (k : Int)) = false := decide_eq_false (by omega)
    rw [if_neg hl, if_neg hl] at HFD
    unfold hdC at HFD
    clear hlf hct hseen hl
    go_wp2_with fail
    refine HFD.out.mono ?_
    clear HFD
    rintro e w15 ⟨rfl, hb15⟩
    have b16 := BoxAt.new w15 #[.int .u64 (Eo : Int), .int .i64 (ho.p : Int), .int .u64 (ho.g : Int), .int .i64 (ho.ct : Int), .int .i64 (ho.sz : Int)] 26
    have hb16 := hb15.alloc hb15.size (.cells #[.int .u64 (Eo : Int), .int .i64 (ho.p : Int), .int .u64 (ho.g : Int), .int .i64 (ho.ct : Int), .int .i64 (ho.sz : Int)] 26)
    obtain ⟨w16, hw16⟩ : ∃ w16, w15.alloc (.cells #[.int .u64 (Eo : Int), .int .i64 (ho.p : Int), .int .u64 (ho.g : Int), .int .i64 (ho.ct : Int), .int .i64 (ho.sz : Int)] 26) = w16 := ⟨_, rfl⟩
    obtain ⟨q21, hq21⟩ : ∃ q21, w15.heap.size = q21 := ⟨_, rfl⟩
    rw [hw16] at b16 hb16
    rw [hq21] at b16
    have HM16 := Lib.hid (HM14.out.below' hb16)
    have cc16 := HC.out w16 HM16.out.bel
    have x0 := b16.cell 0
    have x1 := b16.cell 1
    have x2 := b16.cell 2
    have x3 := b16.cell 3
    have x4 := b16.cell 4
    have HB16 := Lib.hid (HB6.out.trans (HM16.out.bel.mono HB6.out.size))
    clear hb15 hb16 b16 HM14
    go_wp2_with fail
    refine heads_any.mono ?_
    rintro e wz ⟨rfl, hbz⟩
    go_wp2_with fail
    go_ret
    exact ⟨rfl, HB16.out.trans (hbz.mono HB16.out.size)⟩
end Go.Proofs.YtcliejdiaohamaaGreat

set_option linter.unusedSimpArgs false
set_option linter.unusedVariables false
namespace Go.Proofs.YtcliejdiaohamaaGreat
open Go.RowKit Go.Cib
attribute [local go_sem] cell_set Later.cell Later.frozen Grw.cell Grw.frozen
open Go.ChangeShapes Go.WideShapes Go.ChangeAt Go.Deep
theorem u64_bounds {z : Int} (h : (Lit.int .u64 z).wf = true) : 0 ≤ z ∧ z < 18446744073709551616 := by
  simp [Lit.wf, IntKind.min, IntKind.max, IntKind.bits, IntKind.signed] at h
  omega
set_option maxRecDepth 100000 in
theorem open_geo {H : Type} {enc : TypeId × Value → H} {w : World} {base b0 : Nat} {spare : Nat → Bool} {held : Bool} {r : Reach} {v : Value} {d : DataW H} {ps : List MemPlace}
    (hval : Value.okWide Tryz.prog w r b0 31 v) (h : DataW.Trod enc Tryz.prog w base spare held 31 v d ps) : ∃ k m s : Int, v = .agg #[.int .i64 k, .int .i64 m, .int .i64 s] := by
  obtain ⟨cs, rfl, hsz⟩ := okWide_struct Tryz.underlying31 hval
  obtain ⟨fuel, hx⟩ := h
  have h5 : cs.size = 3 := hsz.trans (by kernel_rfl)
  have hl : (Value.agg cs).cells.toList.length = 3 := by simpa [Value.cells] using h5
  obtain ⟨xs, n, _, _, hlen, hxl, hf⟩ := DataW.trod_struct Tryz.underlying31 hx
  have e0 : (Value.agg cs).cells.toList = cs.toList := rfl
  rw [e0] at hf hl
  match hc : cs.toList, hl with
  | [c0, c1, c2], _ =>
    rw [hc] at hf
    have f0 := hf 0 _ rfl
    have f1 := hf 1 _ rfl
    have f2 := hf 2 _ rfl
    have k1 : Tryz.prog.cellsOf 3 = 1 := by kernel_rfl
    have hx3 : xs.length = 3 := hxl
    simp only [List.getElem_toArray, List.getElem_cons_zero, List.getElem_cons_succ, k1, List.drop_zero, List.drop_succ_cons, List.take_succ_cons, List.take_zero] at f0 f1 f2
    rw [List.getElem?_eq_getElem (by omega)] at f0 f1 f2
    obtain ⟨s, e1, _, _⟩ := DataW.trod_int Tryz.underlying3 f0
    obtain ⟨t, e2, _, _⟩ := DataW.trod_int Tryz.underlying3 f1
    obtain ⟨u, e3, _, _⟩ := DataW.trod_int Tryz.underlying3 f2
    simp only [List.cons.injEq, and_true] at e1 e2 e3
    subst e1; subst e2; subst e3
    refine ⟨s, t, u, ?_⟩
    rw [show cs = cs.toList.toArray by simp, hc]
end Go.Proofs.YtcliejdiaohamaaGreat

set_option linter.unusedSimpArgs false
set_option linter.unusedVariables false
namespace Go.Proofs.YtcliejdiaohamaaGreat
open Go.RowKit Go.Cib
attribute [local go_sem] cell_set Later.cell Later.frozen Grw.cell Grw.frozen
open Go.ChangeShapes Go.WideShapes Go.ChangeAt Go.Deep
end Go.Proofs.YtcliejdiaohamaaGreat

set_option linter.unusedSimpArgs false
set_option linter.unusedVariables false
namespace Go.Proofs.YtcliejdiaohamaaGreat
open Go.RowKit Go.Cib
attribute [local go_sem] cell_set Later.cell Later.frozen Grw.cell Grw.frozen
open Go.ChangeShapes Go.WideShapes Go.ChangeAt Go.Deep
set_option maxRecDepth 100000 in
theorem open_super {H : Type} {enc : TypeId × Value → H} {w : World} {base b0 : Nat} {spare : Nat → Bool} {held : Bool} {r : Reach} {v : Value} {d : DataW H} {ps : List MemPlace}
    (hval : Value.okWide Tryz.prog w r b0 26 v) (h : DataW.Trod enc Tryz.prog w base spare held 26 v d ps) : ∃ (E : Nat) (p : Int) (g : Nat) (c s : Int), v = .agg #[.int .u64 (E : Int), .int .i64 p, .int .u64 (g : Int), .int .i64 c, .int .i64 s] ∧ Hid (E < 2 ^ 64) ∧ Hid (g < 2 ^ 64) := by
  obtain ⟨cs, rfl, hsz⟩ := okWide_struct Tryz.underlying26 hval
  obtain ⟨fuel, hx⟩ := h
  have h5 : cs.size = 5 := hsz.trans (by kernel_rfl)
  have hl : (Value.agg cs).cells.toList.length = 5 := by simpa [Value.cells] using h5
  obtain ⟨xs, n, _, _, hlen, hxl, hf⟩ := DataW.trod_struct Tryz.underlying26 hx
  have e0 : (Value.agg cs).cells.toList = cs.toList := rfl
  rw [e0] at hf hl
  match hc : cs.toList, hl with
  | [c0, c1, c2, c3, c4], _ =>
    rw [hc] at hf
    have f0 := hf 0 _ rfl
    have f1 := hf 1 _ rfl
    have k2 : Tryz.prog.cellsOf 22 = 1 := by kernel_rfl
    have k1 : Tryz.prog.cellsOf 3 = 1 := by kernel_rfl
    have k4 : Tryz.prog.cellsOf 24 = 4 := by kernel_rfl
    have hx3 : xs.length = 2 := hxl
    simp only [List.getElem_toArray, List.getElem_cons_zero, List.getElem_cons_succ, k1, k2, k4, List.drop_zero, List.drop_succ_cons, List.take_succ_cons, List.take_zero] at f0 f1
    rw [List.getElem?_eq_getElem (by omega)] at f0 f1
    obtain ⟨s, e1, _, hs⟩ := DataW.trod_int Tryz.underlying22 f0
    obtain ⟨ys, n2, _, _, hlen2, hyl, hg⟩ := DataW.trod_struct Tryz.underlying24 f1
    have g0 := hg 0 _ rfl
    have g1 := hg 1 _ rfl
    have g2 := hg 2 _ rfl
    have g3 := hg 3 _ rfl
    have hy3 : ys.length = 4 := hyl
    simp only [List.getElem_toArray, List.getElem_cons_zero, List.getElem_cons_succ, k1, k2, List.drop_zero, List.drop_succ_cons, List.take_succ_cons, List.take_zero] at g0 g1 g2 g3
    rw [List.getElem?_eq_getElem (by omega)] at g0 g1 g2 g3
    obtain ⟨p, e2, _, _⟩ := DataW.trod_int Tryz.underlying3 g0
    obtain ⟨t, e3, _, ht⟩ := DataW.trod_int Tryz.underlying22 g1
    obtain ⟨u, e4, _, _⟩ := DataW.trod_int Tryz.underlying3 g2
    obtain ⟨x, e5, _, _⟩ := DataW.trod_int Tryz.underlying3 g3
    have hsb := u64_bounds hs
    have htb := u64_bounds ht
    simp only [List.cons.injEq, and_true] at e1 e2 e3 e4 e5
    subst e1; subst e2; subst e3; subst e4; subst e5
    refine ⟨s.toNat, p, t.toNat, u, x, ?_, Lib.hid (by omega), Lib.hid (by omega)⟩
    rw [Int.toNat_of_nonneg htb.1, Int.toNat_of_nonneg hsb.1, show cs = cs.toList.toArray by simp, hc]
end Go.Proofs.YtcliejdiaohamaaGreat
