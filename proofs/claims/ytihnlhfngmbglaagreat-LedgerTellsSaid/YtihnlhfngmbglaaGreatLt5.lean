/-
  Plan: by which shards and factors a shard comes of others.
  Any k rows of the code tell the data: plain.
  The coder's parity.
  Data and parity.
  All rows: data, and parity behind.
  Bytes as text; the page's own numbers.
  Rows that are the same, told so.
  What must come at any rate.
  Too few rows: plain.
  Rows of which some are taken away.
  Rows put together.
  Bytes appended to a row of zeros with room: the row filled.
  A text cut into rows.
  The inverse is one from both sides; what k rows of a code give back: plain.
  What k rows of a code give back: plain.
  What is left of a code's rows gives all of them back: plain.
  The rows of a text: plain.
  CRC-32C: plain: it goes over sums, and a change of four bytes behind each other is seen.
  Drives and coders together.
  CRC-32C as it is computed.
  Numbers put as bytes.
  Numbers put as bytes, behind others.
  Numbers read out of bytes.
  A shard in memory; its numbers as they lie.
  A shard put as a sector.
-/
import Derived.Test.YtihnlhfngmbglaaGreatLt4
import Derived.Lib.SlBytesConst
import Derived.Laws.BytesArg
import Derived.Test.YtihnlhfngmbglaaGreatLt1
import Derived.Test.YtihnlhfngmbglaaGreatLt3
set_option linter.unusedSimpArgs false
set_option linter.unusedVariables false
namespace Go.Proofs.YtihnlhfngmbglaaGreat
open Go.RowKit Go.Cib
attribute [local go_sem] cell_set Later.cell Later.frozen Grw.cell Grw.frozen
section

def badP (k m : Nat) (xs : List Int) (want : Int) : Prop := want < 0 ∨ want ≥ ((k + m : Nat) : Int) ∨ ¬ numOk (k + m) xs
instance (k m : Nat) (xs : List Int) (want : Int) : Decidable (badP k m xs want) := inferInstanceAs (Decidable (_ ∨ _))
end
section

end
section

def evB (ss : Rws) : Bool := ss.all fun r => decide (r.length = (ra ss 0).length)
set_option maxRecDepth 100000 in
set_option maxHeartbeats 4000000 in
theorem even_any {w : World} {A : Option Addr} {N c : Nat} {S : Nat → Prop} {ss : Rws} (R : RdL RowR 1 S w A N ss) (hN : N ≤ 1000) :
    Calls Tryz.prog 176 #[.slice A N c] w fun e w' => e = .returned (.bool (evB ss)) ∧ w' = w := by
  have HR := Lib.hid R
  have hl := R.1
  have q0 : (N : Int) ≤ 1000 := by omega
  clear R
  go_enter Tryz.func176, Tryz.ntmps176
  go_wp2_with fail
  go_loopw [7] (fun vi wr => ∃ i : Nat, i ≤ N ∧ vi = .int .i64 i ∧ wr = w ∧ Hid (∀ j, j < i → (ra ss j).length = (ra ss 0).length)) (fun vi _ => N - (intOf vi).toNat)
  case atStart => exact ⟨0, Nat.zero_le _, rfl, rfl, Lib.hid fun j hj => absurd hj (Nat.not_lt_zero _)⟩
  case round =>
    obtain ⟨i, hi, rfl, hwr, HX⟩ := hrel
    rw [hwr]
    clear hwr
    have p0 : (0 : Int) ≤ (i : Int) := Int.natCast_nonneg _
    by_cases hlt : i < N
    · have p1 : (i : Int) < (N : Int) := by omega
      have p2 : (0 : Int) < (N : Int) := by omega
      obtain ⟨b, o, rfl, _, hb⟩ := HR.out.addr hlt
      obtain ⟨A1, m1, c1, v1, _, r1⟩ := row_at HR.out hlt
      obtain ⟨A0, m0, c0, v0, _, r0⟩ := row_at HR.out (k := 0) (by omega)
      rw [Nat.add_zero] at v0
      have e1 := r1.1
      have e0 := r0.1
      clear r1 r0
      by_cases h : m1 = m0
      · have e2 : ((m1 : Int) != (m0 : Int)) = false := by rw [h]; simp
        have HX2 : Hid (∀ j, j < i + 1 → (ra ss j).length = (ra ss 0).length) := Lib.hid fun j hj => by
          by_cases hji : j = i
          · rw [hji, e1, e0, h]
          · exact HX.out j (by omega)
        clear h e1 e0
        go_wp2_with fail
        exact ⟨⟨i + 1, by omega, by go_num, trivial, HX2⟩, by simp [intOf]; omega⟩
      · have e2 : ((m1 : Int) != (m0 : Int)) = true := by simp; omega
        have hE : evB ss = false := by
          unfold evB
          rw [List.all_eq_false]
          exact ⟨ra ss i, ra_mem (by omega), by simp; omega⟩
        have HE := Lib.hid hE
        clear hE h e1 e0
        go_wp2_with fail
        go_ret
        exact ⟨by rw [HE.out]; rfl, rfl⟩
    · have p1 : ¬ (i : Int) < (N : Int) := by omega
      have hE : evB ss = true := by
        unfold evB
        rw [List.all_eq_true]
        intro r hr
        obtain ⟨j, hj, rfl⟩ := List.mem_iff_getElem.1 hr
        have := HX.out j (by omega)
        rw [ra_some (List.getElem?_eq_getElem hj)] at this
        simpa using this
      have HE := Lib.hid hE
      clear hE
      go_wp2_with fail
      go_ret
      exact ⟨by rw [HE.out]; rfl, rfl⟩
theorem right2_any {w : World} {cb b k m N c : Nat} {A : Option Addr} {S : Nat → Prop} {ss : Rws} (H : CodAt w cb b k m) (R : RdL RowR 1 S w A N ss) (hN : N ≤ 1000) :
    Calls Tryz.prog 142 #[.pointer (some ⟨cb, 0, none⟩), .slice A N c] w fun e w' => e = .returned (.bool (decide (N = k) && evB ss)) ∧ w' = w := by
  obtain ⟨A1, c1, h1, _⟩ := H.box
  have k0 := h1.cell 0
  have hE := even_any (c := c) R hN
  clear h1 H
  go_enter Tryz.func142, Tryz.ntmps142
  by_cases h : N = k
  · have e1 : ((N : Int) == (k : Int)) = true := by rw [h]; simp
    have e2 : (decide (N = k) && evB ss) = evB ss := by rw [decide_eq_true h, Bool.true_and]
    rw [e2]
    clear h e2
    go_wp2_with (go_at_call 176; refine hE.mono ?_; rintro e w9 ⟨rfl, hw9⟩; rw [hw9]; clear hw9)
    go_ret
    exact ⟨rfl, rfl⟩
  · have e1 : ((N : Int) == (k : Int)) = false := by simp; omega
    have e2 : (decide (N = k) && evB ss) = false := by rw [decide_eq_false h, Bool.false_and]
    rw [e2]
    clear h e2 hE
    go_wp2_with fail
    go_ret
    exact ⟨rfl, rfl⟩
theorem of_any {w : World} {A : Option Addr} {n c j : Nat} {S : Nat → Prop} {l : List Nat} (R : RdL ByR 1 S w A n l) (hj : j < n) :
    Calls Tryz.prog 179 #[.slice A n c, .int .i64 (j : Int)] w fun e w' => e = .returned (.int .u8 (gt l j : Int)) ∧ w' = w := by
  obtain ⟨b, o, rfl, _, _⟩ := R.addr hj
  obtain ⟨v1, _⟩ := by_at R hj
  have q1 : (j : Int) < (n : Int) := by omega
  have q2 : (0 : Int) ≤ (j : Int) := Int.natCast_nonneg _
  clear R
  go_enter Tryz.func179, Tryz.ntmps179
  go_wp2_with fail
  go_ret
  exact ⟨rfl, rfl⟩
set_option maxRecDepth 100000 in
set_option maxHeartbeats 4000000 in
theorem sum_any {w : World} {cb b k m n cs cl : Nat} {As Al : Option Addr} {S1 S2 : Nat → Prop} {ss : Rws} {l : List Nat} (H : CodAt w cb b k m) (R1 : RdL RowR 1 S1 w As k ss) (R2 : RdL ByR 1 S2 w Al k l)
    (hev : ∀ r ∈ ss, r.length = n) (hn : n ≤ 1000000) :
    Calls Tryz.prog 178 #[.pointer (some ⟨cb, 0, none⟩), .slice As k cs, .func (.func 179) #[.slice Al k cl] #[]] w fun e w' => ∃ A' c', e = .returned (.slice A' n c') ∧ n ≤ c' ∧ RdL ByR 1 (fun j => w.heap.size ≤ j) w' A' n (combF l ss (List.replicate n 0)) ∧ Below w.heap.size w w' := by
  have HC := Lib.hid H
  have H1 := Lib.hid R1
  have H2 := Lib.hid R2
  have hk1 := H.k1
  have hkm := H.km
  have hsl := R1.1
  have hll := R2.1
  have q0 : (k : Int) ≤ 255 := by omega
  have q1 : (0 : Int) < (k : Int) := by omega
  have hrow : ∀ u, u < k → ∃ bb o, As = some ⟨bb, o, none⟩ ∧ bb < w.heap.size ∧ ∃ A c, w.cell? ⟨bb, o + u, none⟩ = some (.slice A n c) ∧ n ≤ c ∧ RdL ByR 1 S1 w A n (ra ss u) := fun u hu => by
    obtain ⟨bb, o, rfl, _, hb⟩ := R1.addr hu
    obtain ⟨A, mm, c, v, hc, hr⟩ := row_at R1 hu
    have hmm : mm = n := by rw [← hr.1]; exact hev _ (ra_mem (by omega))
    subst hmm
    exact ⟨bb, o, rfl, hb, A, c, v, hc, hr⟩
  have HROW := Lib.hid hrow
  obtain ⟨bs, os, rfl, hbs, Ar, cr, v0, hcr, hr0⟩ := hrow 0 (by omega)
  rw [Nat.add_zero] at v0
  have q4 : (n : Int) ≤ 1000000 := by omega
  have q5 : (0 : Int) ≤ (n : Int) := Int.natCast_nonneg _
  have hmk := makeBy n (by omega) w
  have hz := RowIn.made w n 5
  have hbz : Below w.heap.size w (w.alloc (.cells (Array.replicate n (.int .u8 0)) 5)) := (Below.refl _ _).alloc (Nat.le_refl _) _
  have hzr := hz.rd (S := fun j => w.heap.size ≤ j) (Nat.le_refl _)
  rw [List.length_replicate] at hzr
  obtain ⟨wA, hwA⟩ : ∃ wA, w.alloc (.cells (Array.replicate n (.int .u8 0)) 5) = wA := ⟨_, rfl⟩
  rw [hwA] at hmk hbz hzr
  have HZ := Lib.hid hzr
  have HBZ := Lib.hid hbz
  clear H R1 R2 hrow hz hbz hzr hwA hr0
  go_enter Tryz.func178, Tryz.ntmps178
  go_wp2_with fail
  clear hmk
  go_loopw [7, 17] (fun vs vi wr => ∃ (i : Nat) (A : Option Addr) (c : Nat), i ≤ k ∧ vi = .int .i64 i ∧ vs = .slice A n c ∧ n ≤ c ∧ Hid (RdL ByR 1 (fun j => w.heap.size ≤ j) wr A n (combF (l.take i) (ss.take i) (List.replicate n 0))) ∧ Hid (Below w.heap.size w wr)) (fun _ vi _ => k - (intOf vi).toNat)
  case atStart => exact ⟨0, _, n, Nat.zero_le _, rfl, rfl, Nat.le_refl _, by rw [List.take_zero, List.take_zero]; exact HZ, HBZ⟩
  case round =>
    clear HZ HBZ v0
    obtain ⟨i, A, c, hi, rfl, rfl, hc, HR, HB⟩ := hrel
    have p0 : (0 : Int) ≤ (i : Int) := Int.natCast_nonneg _
    by_cases hlt : i < k
    · have p1 : (i : Int) < (k : Int) := by omega
      obtain ⟨b2, o2, e2, _, A1, c1, v1, hc1, hr1⟩ := HROW.out i hlt
      injection e2 with e2
      injection e2 with e2 e3
      subst e2; subst e3
      have hbd : Below w.heap.size w wr.drew := HB.out.drew
      have v1' := (HB.out.cell (p := ⟨bs, os + i, none⟩) hbs).trans v1
      have hC := HC.out.below hbd
      obtain ⟨A9, c9, hbx, _⟩ := hC.box
      have s1 : wr.drew.cell? ⟨cb, 2, none⟩ = some (.pointer (some ⟨b, 0, none⟩)) := hbx.cell 2
      have hcl := hbx.lt
      have x1 : gt l i < 256 := gt_lt (by_byt H2.out) i
      have hof := of_any (w := wr.drew) (c := cl) (H2.out.below ByR.stable hbd) hlt
      have hfo := fold_any (w := wr.drew) (cp := c1) (cp2 := c) hC.fld x1 (hr1.below ByR.stable hbd) hn hc1 (HR.out.below ByR.stable (Below.refl _ _).drew) hn
      rw [← combF_take (by omega) (by omega)] at hfo
      clear hr1 hC hbx v1
      go_wp2_with fail
      refine wp_region_held_drew (S := fun w' => w'.cell? ⟨cb, 2, none⟩ = some (.pointer (some ⟨b, 0, none⟩))) (by kernel_rfl) (by first | exact s1 | exact s2) (fun hHeld => ?_)
      refine tkH 0 rfl ?_
      refine tkH 1 rfl ?_
      refine tkH 2 rfl ?_
      refine tkH 3 rfl ?_
      refine tkH 4 rfl ?_
      refine tkH 5 rfl ?_
      refine tkH 7 rfl ?_
      refine tkH 8 rfl ?_
      refine rdH 6 rfl fun K hK => ?_
      try simp (maxSteps := 2000000) only [zz1, zz2, zz3]
      go_simp
      go_at_call 179
      refine hof.mono ?_
      rintro e w9 ⟨rfl, hw9⟩
      rw [hw9]
      clear hw9 hof
      try (go_wp2_with fail)
      refine hK.out _ _ (by first | exact s1 | exact s2) (fun hHeld => ?_)
      clear hK K
      try simp (maxSteps := 2000000) only [zz1, zz2, zz3, Act.put, zz4, zz5, zz6]
      refine rdH 9 rfl fun K hK => ?_
      try simp (maxSteps := 2000000) only [zz1, zz2, zz3]
      go_simp
      go_at_call 210
      refine hfo.mono ?_
      rintro e w6 ⟨AN, cN, rfl, hcN, hrs, hb6⟩
      have hs9 := HB.out.size
      have s2 : w6.cell? ⟨cb, 2, none⟩ = some (.pointer (some ⟨b, 0, none⟩)) := (hb6.cell (p := ⟨cb, 2, none⟩) hcl).trans s1
      have HRS := Lib.hid (hrs.weaken ByR.stable (S' := fun j => w.heap.size ≤ j) (fun j hj => Nat.le_trans hs9 hj))
      have HB6 := Lib.hid (hbd.trans (hb6.mono hs9))
      clear hrs hb6 hfo
      try (go_wp2_with fail)
      refine hK.out _ _ (by first | exact s1 | exact s2) (fun hHeld => ?_)
      clear hK K
      try simp (maxSteps := 2000000) only [zz1, zz2, zz3, Act.put, zz4, zz5, zz6]
      refine tkH 10 rfl ?_
      refine wpAnyH_done (by kernel_rfl) ?_ _
      clear s1 s2 hHeld v1'
      go_wp2_with fail
      exact ⟨⟨i + 1, AN, cN, by omega, by go_num, rfl, hcN, HRS, HB6⟩, by simp [intOf]; omega⟩
    · have p1 : ¬ (i : Int) < (k : Int) := by omega
      obtain rfl : i = k := by omega
      rw [List.take_of_length_le (by omega), List.take_of_length_le (by omega)] at HR
      go_wp2_with fail
      go_ret
      exact ⟨A, c, rfl, hc, HR.out, HB.out⟩
end
section

def encU (k : Nat) (ss : Rws) (n i : Nat) : Rws := (List.range i).map fun j => combF (rowF k (k + j)) ss (List.replicate n 0)
theorem encU_next (k : Nat) (ss : Rws) (n i : Nat) : encU k ss n (i + 1) = encU k ss n i ++ [combF (rowF k (k + i)) ss (List.replicate n 0)] := by unfold encU; rw [List.range_succ, List.map_append]; rfl
def lenF0 (ss : Rws) : Nat := (ra ss 0).length
def goodB (k N : Nat) (ss : Rws) : Bool := decide (N = k) && evB ss
def EncE (w : World) (k m N : Nat) (ss : Rws) (e : Ending) (w' : World) : Prop := Below w.heap.size w w' ∧
  ((goodB k N ss = false ∧ e = .returned (.tuple #[.slice none 0 0, .int .i64 2])) ∨
   (goodB k N ss = true ∧ ∃ A c, e = .returned (.tuple #[.slice A m c, .int .i64 0]) ∧ RdL RowR 1 (fun j => w.heap.size ≤ j) w' A m (encU k ss (lenF0 ss) m)))
theorem evB_all {ss : Rws} (h : evB ss = true) : ∀ r ∈ ss, r.length = (ra ss 0).length := fun r hr => by
  unfold evB at h
  rw [List.all_eq_true] at h
  simpa using h r hr
set_option maxRecDepth 100000 in
set_option maxHeartbeats 8000000 in
theorem encode_any {w : World} {cb b k m N cs : Nat} {As : Option Addr} {S : Nat → Prop} {ss : Rws} (H : CodAt w cb b k m) (R : RdL RowR 1 S w As N ss) (hN : N ≤ 1000) (hlen : (ra ss 0).length ≤ 1000000) :
    Calls Tryz.prog 144 #[.pointer (some ⟨cb, 0, none⟩), .slice As N cs] w fun e w' => EncE w k m N ss e w' := by
  have HC := Lib.hid H
  have HR := Lib.hid R
  have hk1 := H.k1
  have hm1 := H.m1
  have hkm := H.km
  have hNo := none_any H
  have hRi := right2_any (c := cs) H R hN
  have q0 : (0 : Int) ≤ (m : Int) := Int.natCast_nonneg _
  have q1 : (m : Int) ≤ 255 := by omega
  have q2 : (k : Int) ≤ 255 := by omega
  have q3 : (0 : Int) ≤ (k : Int) := Int.natCast_nonneg _
  obtain ⟨A0, c0, hbx, _⟩ := H.box
  have k0 := hbx.cell 0
  have k1 := hbx.cell 1
  have hcl := hbx.lt
  clear H R hbx
  go_enter Tryz.func144, Tryz.ntmps144
  go_wp2_with (go_at_call 121; refine hNo.mono ?_; rintro e w9 ⟨rfl, hw9⟩; rw [hw9]; clear hw9 hNo)
  obtain ⟨B, hB⟩ : ∃ B, B = (decide (N = k) && evB ss) := ⟨_, rfl⟩
  rw [← hB] at hRi
  refine hRi.mono ?_
  rintro e w9 ⟨rfl, hw9⟩
  rw [hw9]
  clear hw9 hRi
  have HB := Lib.hid hB
  cases B with
  | false =>
    clear hB
    go_wp2_with fail
    go_ret2
    exact ⟨Below.refl _ _, .inl ⟨HB.out.symm, rfl⟩⟩
  | true =>
    have hNk : N = k ∧ evB ss = true := by
      have h := hB.symm
      rw [Bool.and_eq_true] at h
      exact ⟨by simpa using h.1, h.2⟩
    obtain ⟨hNk, hev⟩ := hNk
    subst hNk
    have hall := evB_all hev
    have HALL := Lib.hid hall
    have HGO : Hid (goodB N N ss = true) := Lib.hid (by unfold goodB; rw [decide_eq_true rfl, hev]; rfl)
    clear hB hev hall HB
    go_wp2_with (at_make; refine wpList_make0 RowR (fun j => w.heap.size ≤ j) sl_rows rfl rfl (base := w.heap.size) rfl rfl m (by omega) (by omega) (by unfold maxLen; omega) (by (first | (with_reducible exact Nat.le_refl _) | omega | (simp only [World.size_alloc, World.size_setCell, World.size_drew] <;> omega))) ?_; intro y hys hown; have c1 := (y.cell (o := 1) hcl).trans k1; have HO := Lib.hid hown; have HY := Lib.hid (show Below w.heap.size w y.to from y.ok); clear hown hys)
    go_loopw [6, 28] (fun vs vi wr => ∃ (i : Nat) (A : Option Addr) (c : Nat), i ≤ m ∧ vi = .int .i64 i ∧ vs = .slice A i c ∧ i ≤ c ∧ Hid (OwnL RowR 68 1 w.heap.size (fun j => w.heap.size ≤ j) wr (.slice A i c) i (encU N ss (lenF0 ss) i)) ∧ Hid (Below w.heap.size w wr)) (fun _ vi _ => m - (intOf vi).toNat)
    case atStart => exact ⟨0, _, _, Nat.zero_le _, rfl, rfl, Nat.zero_le _, HO, HY⟩
    case round =>
      clear HO HY c1
      obtain ⟨i, A, c, hi, rfl, rfl, hc, HO, HY⟩ := hrel
      have p0 : (0 : Int) ≤ (i : Int) := Int.natCast_nonneg _
      by_cases hlt : i < m
      · have p1 : (i : Int) < (m : Int) := by omega
        have c0' := (HY.out.cell (p := ⟨cb, 0, none⟩) hcl).trans k0
        have hrow := crow_any (HC.out.below HY.out) (i := N + i) (by omega)
        rw [Int.natCast_add] at hrow
        have hnx := encU_next N ss (lenF0 ss) i
        have HNX := Lib.hid hnx
        have hsz := HY.out.size
        clear hnx
        go_wp2_with fail
        refine hrow.mono ?_
        rintro e w2 ⟨g, rfl, hr2, hb2⟩
        have hb02 := HY.out.trans (hb2.mono hsz)
        have hsum := sum_any (cs := cs) (cl := N) (HC.out.below hb02) (HR.out.below RowR.stable hb02) hr2 HALL.out hlen
        have HO2 := Lib.hid (HO.out.keep RowR.stable hb2)
        have hs2 := hb2.size
        have HB02 := Lib.hid hb02
        clear hrow hr2 hb2 hb02
        go_wp2_with fail
        refine hsum.mono ?_
        rintro e w3 ⟨A3, c3, rfl, hc3, hr3, hb3⟩
        have HB3 := Lib.hid (HB02.out.trans (hb3.mono HB02.out.size))
        have HO3 := Lib.hid (HO2.out.keep RowR.stable hb3)
        have hy3 : RowR (Go.Cib.Rest (fun j => w.heap.size ≤ j) (.slice A i c)) w3 [.slice A3 (lenF0 ss) c3] (combF (rowF N (N + i)) ss (List.replicate (lenF0 ss) 0)) := ⟨A3, _, c3, rfl, hc3, hr3.weaken ByR.stable fun j hj => ⟨by have h9 : w2.heap.size ≤ j := hj; show _ ≤ j; omega, fun e => by have h9 : w2.heap.size ≤ j := hj; have := (HO2.out.lt _ e.symm).2; omega⟩⟩
        have hs3 := HB3.out.size
        clear hsum hr3 hb3
        go_wp2_with (at_builtin; go_must (refine wpList_push1 RowR.stable RowR.one sl_rows (by rfl) (by rfl) (base := w.heap.size) (S := fun j => w.heap.size ≤ j) (cs := #[.slice A3 (lenF0 ss) c3]) (y := combF (rowF N (N + i)) ss (List.replicate (lenF0 ss) 0)) (by rfl) (by rfl) HO3.out (by rfl) hy3 (by unfold maxLen; omega) (by omega) hs3 ?_); intro A8 c8 ug hc8 own9 hlt8 hb8 hat8; rw [← HNX.out] at own9; have HO9 := Lib.hid own9; have HB9 := Lib.hid (HB3.out.trans hb8); clear own9 hb8 hlt8 hat8)
        exact ⟨⟨i + 1, A8, c8, by omega, by go_num, rfl, hc8, HO9, HB9⟩, by simp [intOf]; omega⟩
      · have p1 : ¬ (i : Int) < (m : Int) := by omega
        obtain rfl : i = m := by omega
        go_wp2_with fail
        go_ret2
        obtain ⟨A', c', e, _, hr⟩ := HO.out.rd (S' := fun j => w.heap.size ≤ j) (fun _ hk => hk) (fun cs x hx => RowR.stable _ _ _ _ _ _ hx fun b hb _ => ⟨hb.1, rfl⟩)
        injection e with e1 _ e2
        subst e1; subst e2
        exact ⟨HY.out, .inr ⟨HGO.out, A, c, rfl, hr⟩⟩
end
section

def CalE (w : World) (k m N : Nat) (ss : Rws) (e : Ending) (w' : World) : Prop := Below w.heap.size w w' ∧
  ((goodB k N ss = false ∧ e = .returned (.tuple #[.slice none 0 0, .int .i64 2])) ∨
   (goodB k N ss = true ∧ ∃ A c, e = .returned (.tuple #[.slice A (k + m) c, .int .i64 0]) ∧ k + m ≤ c ∧ RdL RowR 1 (fun j => w.heap.size ≤ j) w' A (k + m) (ss ++ encU k ss (lenF0 ss) m)))
set_option maxRecDepth 100000 in
set_option maxHeartbeats 8000000 in
theorem call2_any {w : World} {cb b k m N cs : Nat} {As : Option Addr} {S : Nat → Prop} {ss : Rws} (H : CodAt w cb b k m) (R : RdL RowR 1 S w As N ss) (hN : N ≤ 1000) (hlen : ∀ i, (ra ss i).length ≤ 1000000) :
    Calls Tryz.prog 95 #[.pointer (some ⟨cb, 0, none⟩), .slice As N cs] w fun e w' => CalE w k m N ss e w' := by
  have HC := Lib.hid H
  have HR := Lib.hid R
  have hsl := R.1
  have hk1 := H.k1
  have hkm := H.km
  have hen := encode_any (cs := cs) H R hN (hlen 0)
  have q0 : (N : Int) ≤ 1000 := by omega
  clear H R
  go_enter Tryz.func95, Tryz.ntmps95
  go_wp2_with fail
  refine hen.mono ?_
  rintro e w1 ⟨hb1, ⟨hB, rfl⟩ | ⟨hB, Ap, cp, rfl, hrp⟩⟩
  · have HB := Lib.hid hB
    clear hB hen
    go_wp2_with fail
    go_ret2
    exact ⟨hb1, .inl ⟨HB.out, rfl⟩⟩
  · have HB := Lib.hid hB
    have hNk : N = k := by
      unfold goodB at hB
      rw [Bool.and_eq_true] at hB
      simpa using hB.1
    subst hNk
    have hal := all_any (HC.out.below hb1)
    have HP := Lib.hid hrp
    have HB1 := Lib.hid hb1
    have q1 : ((N + m : Nat) : Int) ≤ 255 := by omega
    have q2 : (0 : Int) ≤ ((N + m : Nat) : Int) := Int.natCast_nonneg _
    clear hB hen hrp
    go_wp2_with fail
    refine hal.mono ?_
    rintro e w2 ⟨rfl, hb2⟩
    have hb02 := HB1.out.trans (hb2.mono HB1.out.size)
    have hs1 := HB1.out.size
    have hs2 := hb2.size
    have hrp2 : RdL RowR 1 (fun j => w.heap.size ≤ j ∧ j < w2.heap.size) w2 Ap m (encU N ss (lenF0 ss) m) := RdL.stable RowR.stable HP.out fun b hS hlt => ⟨⟨hS, by omega⟩, hb2.block b hlt⟩
    have HP2 := Lib.hid hrp2
    have HB02 := Lib.hid hb02
    clear hal hb2 hrp2 hb02
    go_wp2_with (at_make; refine wpList_make0 RowR (fun j => w.heap.size ≤ j) sl_rows rfl rfl (base := w2.heap.size) rfl rfl (N + m) (by omega) (by omega) (by unfold maxLen; omega) (by (first | (with_reducible exact Nat.le_refl _) | omega | (simp only [World.size_alloc, World.size_setCell, World.size_drew] <;> omega))) ?_; intro y hys hown; have HO := Lib.hid hown; have HY := Lib.hid (show Below w2.heap.size w2 y.to from y.ok); clear hown hys)
    go_loopw [8, 27] (fun vs vi wr => ∃ (i : Nat) (A : Option Addr) (c : Nat), i ≤ N ∧ vi = .int .i64 i ∧ vs = .slice A i c ∧ i ≤ c ∧ Hid (OwnL RowR 68 1 w2.heap.size (fun j => w.heap.size ≤ j) wr (.slice A i c) i (ss.take i)) ∧ Hid (Below w2.heap.size w2 wr)) (fun _ vi _ => N - (intOf vi).toNat)
    case atStart => exact ⟨0, _, _, Nat.zero_le _, rfl, rfl, Nat.zero_le _, by rw [List.take_zero]; exact HO, HY⟩
    case round =>
      clear HO HY
      obtain ⟨i, A, c, hi, rfl, rfl, hc, HO, HY⟩ := hrel
      have p0 : (0 : Int) ≤ (i : Int) := Int.natCast_nonneg _
      by_cases hlt : i < N
      · have p1 : (i : Int) < (N : Int) := by omega
        have hb0r : Below w.heap.size w wr := HB02.out.trans (HY.out.mono HB02.out.size)
        obtain ⟨bb, o, rfl, _, hbb⟩ := HR.out.addr hlt
        obtain ⟨A1, m1, c1, v1, hmc1, r1⟩ := row_at HR.out hlt
        have v1' := (hb0r.cell (p := ⟨bb, o + i, none⟩) hbb).trans v1
        have r1' := r1.below ByR.stable hb0r
        have hm1l : m1 ≤ 1000000 := by have := hlen i; rw [r1.1] at this; exact this
        have hnx : ss.take (i + 1) = ss.take i ++ [ra ss i] := by rw [List.take_add_one, ra_of_lt (by omega)]; rfl
        have HNX := Lib.hid hnx
        have HR1 := Lib.hid r1'
        have hszr := hb0r.size
        have hs2r := HY.out.size
        clear hnx r1 r1' v1
        go_wp2_with (first
          | (at_builtin; refine wpList_appL ByR.stable ByR.one sl_by rfl (by exact rfl) (base := wr.heap.size) (S := fun _ => True) (n := 0) (v := .slice none 0 0) (xs := []) (by exact rfl) OwnL.nil_ (by exact rfl) HR1.out (fun _ _ h => h) (by unfold maxLen; omega) (by omega) (Nat.le_refl _) ?_; intro A3 c3 w3 hc3 hown3 hg3 hat; simp only [Nat.zero_add, List.nil_append] at hc3 hown3 ⊢; have hb3 : Below wr.heap.size wr w3 := ⟨hg3.os, hg3.tape, hg3.output, hg3.size, fun k hk => hg3.block k hk (by intro h; cases h)⟩; have hv3 := (RowV.of_own hown3).rd (S := Go.Cib.Rest (fun j => w.heap.size ≤ j) (.slice A i c)) (fun j hj => ⟨(by show _ ≤ j; omega), fun e => (by have := (HO.out.lt _ e.symm).2; omega)⟩); have HV3 := Lib.hid hv3; have HO3 := Lib.hid (HO.out.keep RowR.stable hb3); have HB3 := Lib.hid (HY.out.trans (hb3.mono HY.out.size)); have hs3 := HB3.out.size; clear hv3 hb3 hown3 hg3 hat)
          | (at_builtin; go_must (refine wpList_push1 RowR.stable RowR.one sl_rows (by rfl) (by rfl) (base := w2.heap.size) (S := fun j => w.heap.size ≤ j) (cs := #[.slice A3 m1 c3]) (y := ra ss i) (by rfl) (by rfl) HO3.out (by rfl) ⟨A3, m1, c3, rfl, hc3, HV3.out⟩ (by unfold maxLen; omega) (by omega) hs3 ?_); intro A8 c8 ug hc8 own9 hlt8 hb8 hat8; rw [← HNX.out] at own9; have HO9 := Lib.hid own9; have HB9 := Lib.hid (HB3.out.trans hb8); clear own9 hb8 hlt8 hat8))
        exact ⟨⟨i + 1, A8, c8, by omega, by go_num, rfl, hc8, HO9, HB9⟩, by simp [intOf]; omega⟩
      · have p1 : ¬ (i : Int) < (N : Int) := by omega
        obtain rfl : i = N := by omega
        rw [List.take_of_length_le (by omega)] at HO
        have hs2r := HY.out.size
        have hrest : ∀ cs y, RowR (fun j => w.heap.size ≤ j ∧ j < w2.heap.size) wr cs y → RowR (Go.Cib.Rest (fun j => w.heap.size ≤ j) (.slice A i c)) wr cs y := fun cs y h => RowR.stable _ _ _ _ _ _ h fun b hb _ => ⟨⟨hb.1, fun e => by have := (HO.out.lt _ e.symm).1; omega⟩, rfl⟩
        have hp3 := HP2.out.below RowR.stable HY.out
        have HRE := Lib.hid hrest
        have HP3 := Lib.hid hp3
        clear hrest hp3
        go_wp2_with (at_builtin; go_must (refine wpList_appL RowR.stable RowR.one sl_rows rfl (by exact rfl) (base := w2.heap.size) (S := fun j => w.heap.size ≤ j) (by exact rfl) HO.out (by exact rfl) HP3.out HRE.out (by unfold maxLen; omega) (by omega) hs2r ?_); intro A3 c3 w3 hc3 hown3 hg3 hat; have HO3 := Lib.hid hown3; have HB3 := Lib.hid (show Below w2.heap.size w2 w3 from HY.out.trans ⟨hg3.os, hg3.tape, hg3.output, (by have := hg3.size; omega), fun k hk => hg3.block k (Nat.lt_of_lt_of_le hk hs2r) (fun e => by have := (HO.out.lt _ e.symm).1; omega)⟩); clear hown3 hg3 hat)
        go_ret2
        obtain ⟨A', c', e, _, hr⟩ := HO3.out.rd (S' := fun j => w.heap.size ≤ j) (fun j hj => by omega) (fun cs x hx => RowR.stable _ _ _ _ _ _ hx fun b hb _ => ⟨hb.1, rfl⟩)
        injection e with e1 _ e2
        subst e1; subst e2
        exact ⟨HB02.out.trans (HB3.out.mono HB02.out.size), .inr ⟨HB.out, A3, c3, rfl, hc3, hr⟩⟩
end
section

def textB (xs : List Nat) : ByteArray := strOfNums (xs.map fun x : Nat => (x : Int))
theorem by_u8 {S : Nat → Prop} {w : World} {A : Option Addr} {n : Nat} {xs : List Nat} (h : RdL ByR 1 S w A n xs) : RdL U8R 1 S w A n (xs.map fun x : Nat => (x : Int)) := by
  refine ⟨by rw [List.length_map]; exact h.1, fun hn => ?_⟩
  obtain ⟨b, o, hA, hS, hlt, hc⟩ := h.2 hn
  refine ⟨b, o, hA, hS, hlt, fun i x hx => ?_⟩
  rw [List.getElem?_map] at hx
  cases hl : xs[i]? with
  | none => rw [hl] at hx; cases hx
  | some y =>
    rw [hl] at hx
    injection hx with hx
    obtain ⟨cs, h1, ⟨_, h2⟩, h3⟩ := hc i y hl
    exact ⟨cs, h1, by rw [h2, ← hx]; rfl, h3⟩
theorem text_run {S : Nat → Prop} {w : World} {A : Option Addr} {n c : Nat} {xs : List Nat} (h0 : RdL ByR 1 S w A n xs) : (convert 68 9 (.slice A n c)).run Tryz.prog w = .ok (.string (textB xs)) w := by
  have h := by_u8 h0
  unfold textB
  generalize (xs.map fun x : Nat => (x : Int)) = bs at h ⊢
  by_cases hn : 0 < n
  · obtain ⟨b, o, rfl, _, _⟩ := h.addr hn
    refine run_convert_bytes_arg w _ 5 (by kernel_rfl) (by kernel_rfl) b o n c _ h.1 (fun i hi => ?_) _ (by kernel_rfl)
    obtain ⟨hl, cs, h1, h2, h3⟩ := h.at hi
    have := h3 0 _ (by rw [h2]; rfl)
    simp only [Nat.mul_one, Nat.add_zero] at this
    rw [this]
    simp [List.getD, hl]
  · obtain rfl : n = 0 := by omega
    have hb := List.length_eq_zero_iff.1 h.1
    rw [hb, run_convert_bytes_string w _ _ 5 _ _ _ (by kernel_rfl) (by kernel_rfl) (by kernel_rfl)]
    cases A with
    | none => simp [Conv.bytesToString]; rfl
    | some a => simp [Conv.bytesToString, loadCells, loadCellsFrom]; rfl
end
section

end
section

end
section

theorem cnt_put (p q : Nat → Bool) (a : Nat) : ∀ N, a < N → (∀ j, j ≠ a → q j = p j) → p a = false → q a = true → ((List.range N).filter q).length = ((List.range N).filter p).length + 1 := by
  intro N
  induction N with
  | zero => intro h; omega
  | succ N ih =>
    intro h he h0 h1
    rw [List.range_succ, List.filter_append, List.filter_append, List.length_append, List.length_append]
    by_cases haN : a = N
    · subst haN
      have : (List.range a).filter q = (List.range a).filter p := List.filter_congr fun j hj => he j (by have := List.mem_range.1 hj; omega)
      rw [this]
      simp [h0, h1]
    · rw [ih (by omega) he h0 h1]
      have : [N].filter q = [N].filter p := List.filter_congr fun j hj => he j (by have := List.mem_singleton.1 hj; omega)
      rw [this]; omega
structure FewI (row : List Nat) (N i c : Nat) (rows : Rws) : Prop where
  len : rows.length = N
  one : ∀ j, ra rows j = [] ∨ ra rows j = row
  cnt : c = (thU rows N).length
  le : c ≤ i
theorem ra_put {rows : Rws} {a : Nat} {row : List Nat} (h : a < rows.length) (j : Nat) : ra (rows.set a row) j = if j = a then row else ra rows j := by
  by_cases hj : j < rows.length
  · exact ra_set _ _ _ hj
  · rw [if_neg (by omega)]
    unfold ra
    rw [List.getD_eq_getElem?_getD, List.getD_eq_getElem?_getD, List.getElem?_eq_none (by simp; omega), List.getElem?_eq_none (by omega)]
theorem FewI.zero (row : List Nat) (N : Nat) : FewI row N 0 0 (List.replicate N []) where
  len := by simp
  one j := by
    left
    unfold ra
    rw [List.getD_eq_getElem?_getD, List.getElem?_replicate]
    split <;> rfl
  cnt := by
    unfold thU
    rw [List.filter_eq_nil_iff.2]
    · rfl
    · intro j hj
      have : lenF (List.replicate N []) j = 0 := by
        unfold lenF ra
        rw [List.getD_eq_getElem?_getD, List.getElem?_replicate]
        split <;> rfl
      simp [this]
  le := Nat.le_refl _
section
variable {row : List Nat} {N i cnt a : Nat} {rows : Rws}
theorem FewI.put (h : FewI row N i cnt rows) (ha : a < N) (hr : 0 < row.length) (he : (ra rows a).length = 0) : FewI row N (i + 1) (cnt + 1) (rows.set a row) := by
  have hal : a < rows.length := by rw [h.len]; exact ha
  refine ⟨by rw [List.length_set, h.len], fun j => ?_, ?_, by have := h.le; omega⟩
  · rw [ra_put hal]; split
    · exact .inr rfl
    · exact h.one j
  · rw [h.cnt]
    unfold thU
    rw [cnt_put (fun j => decide (0 < lenF rows j)) (fun j => decide (0 < lenF (rows.set a row) j)) a N ha]
    · intro j hj
      unfold lenF
      rw [ra_put hal, if_neg hj]
    · unfold lenF; simp [he]
    · unfold lenF
      rw [ra_put hal, if_pos rfl]; simp [hr]
theorem FewI.lenF (h : FewI row N i cnt rows) (j : Nat) : lenF rows j = 0 ∨ lenF rows j = row.length := by
  unfold Go.Proofs.YtihnlhfngmbglaaGreat.lenF
  rcases h.one j with h | h
  · rw [h]; exact .inl rfl
  · rw [h]; exact .inr rfl
theorem FewI.bad {k m : Nat} (h : FewI row (k + m) i cnt rows) : thBad k m (k + m) rows = false := by
  unfold thBad
  rw [Bool.or_eq_false_iff]
  refine ⟨by simp, List.any_eq_false.2 fun u hu => ?_⟩
  have hu2 := (thU_mem hu).2
  have hg : gt (thU rows (k + m)) 0 ∈ thU rows (k + m) := gt_mem (List.length_pos_of_mem hu)
  have hg2 := (thU_mem hg).2
  unfold oddB
  rcases h.lenF u with e | e
  · omega
  · rcases h.lenF (gt (thU rows (k + m)) 0) with e2 | e2
    · omega
    · simp [e, e2]
end
end
section

end
section
attribute [local go_sem ↓] run_min_b

end
section

def fillL (width : Nat) (xs : List Nat) : List Nat := xs ++ List.replicate (width - xs.length) 0
def valsL (xs : List Nat) : List Value := xs.map fun x : Nat => Value.int .u8 (x : Int)
theorem valsL_one (xs : List Nat) : ∀ u ∈ valsL xs, u.oneCell' = true := fun u hu => by
  obtain ⟨x, _, rfl⟩ := List.mem_map.1 hu; rfl
theorem valsL_cell {S : Nat → Prop} {w : World} {a : Addr} {m : Nat} {xs : List Nat} (R : RdL ByR 1 S w (some a) m xs) : ∀ j u, (valsL xs)[j]? = some u → w.cell? (a.add j) = some u := fun j u hu => by
  unfold valsL at hu
  rw [List.getElem?_map] at hu
  cases hx : xs[j]? with
  | none => rw [hx] at hu; cases hu
  | some x =>
    rw [hx] at hu
    injection hu with hu
    have hj : j < m := by rw [← R.1]; exact (List.getElem?_eq_some_iff.1 hx).1
    obtain ⟨b, o, ha, _, _⟩ := R.addr hj
    injection ha with ha
    subst ha
    have h1 := (by_at R hj).1
    have h2 := gt_of_lt (l := xs) (i := j) (by rw [R.1]; exact hj)
    rw [hx] at h2
    injection h2 with h2
    rw [← hu, h2, Addr.add_lit]
    exact h1
theorem fill_run {S : Nat → Prop} {w : World} {g width m c : Nat} {A : Option Addr} {xs : List Nat} {ty : TypeId}
    (hg : w.heap[g]? = some (.cells (Array.replicate width (.int .u8 0)) 5 (0, 0))) (R : RdL ByR 1 S w A m xs) (hm : m ≤ width) :
    ∃ w', (Builtin.append_ #[68, 68] ty #[.slice (some ⟨g, 0, none⟩) 0 width, .slice A m c]).run Tryz.prog w = .ok (.slice (some ⟨g, 0, none⟩) m width) w' ∧
      w' = w.setRow g (valsL (fillL width xs)).toArray := by
  obtain ⟨i, hi, hz, hsz, hby⟩ := info_parts sl_by.info
  have hxl := R.1
  have he : valsL (fillL width xs) = valsL xs ++ List.replicate (width - m) (Value.int .u8 0) := by
    unfold valsL fillL
    rw [List.map_append, hxl, List.map_replicate]; rfl
  cases A with
  | none =>
    have hm0 : m = 0 := by
      rcases Nat.eq_zero_or_pos m with h | h
      · exact h
      · obtain ⟨b, o, hA, _⟩ := R.addr h; cases hA
    subst hm0
    have hx0 : xs = [] := List.length_eq_zero_iff.1 hxl
    subst hx0
    refine ⟨w, ?_, ?_⟩
    · simp [Builtin.append_, run_underlying sl_by.und, sizeOf, typeInfo, hi, Builtin.lenOf, Builtin.firstCells, storeCells]
    · rw [he]
      show w = w.setRow g (List.replicate (width - 0) (Value.int .u8 0)).toArray
      rw [Nat.sub_zero, List.toArray_replicate]
      exact (setRow_self w g _ _ _ hg).symm
  | some a =>
    have h := run_append_room (P := Tryz.prog) w 68 ty 5 i sl_by.und hi g 0 width _ hg a m c (valsL xs) (by unfold valsL; rw [List.length_map, hxl, hsz, Nat.mul_one]) (valsL_cell R) (valsL_one xs) (by omega) (by unfold valsL; rw [List.length_map, hxl, Array.size_replicate]; omega)
    rw [Nat.zero_add] at h
    refine ⟨_, h, ?_⟩
    have hvl : (valsL xs).length = m := by unfold valsL; rw [List.length_map, hxl]
    rw [he, hvl, Nat.zero_mul, List.take_zero, List.nil_append, Nat.zero_add, Array.toList_replicate, List.drop_replicate]
end
section
open Go.Lib
attribute [local go_sem ↓] run_min_b

def splF (width : Nat) (xs : List Nat) (k i : Nat) : Rws := ((List.range i).map fun j => fillL width ((xs.drop (j * width)).take width)) ++ List.replicate (k - i) []
theorem splF_next {width : Nat} {xs : List Nat} {k i : Nat} (h : i < k) : (splF width xs k i).set i (fillL width ((xs.drop (i * width)).take width)) = splF width xs k (i + 1) := by
  unfold splF
  rw [List.set_append_right _ _ (by simp), List.range_succ, List.map_append, List.append_assoc]
  congr 1
  obtain ⟨d, hd⟩ : ∃ d, k - i = d + 1 := ⟨k - i - 1, by omega⟩
  rw [hd, show k - (i + 1) = d by omega, List.replicate_succ]
  simp
theorem make0 (k : Nat) (hk : k ≤ 1000000) (w : World) : (Instr.makeSlice 68 (.int .i64 0) (.int .i64 (k : Int))).run Tryz.prog w = .ok (.slice (some ⟨w.heap.size, 0, none⟩) 0 k) (w.alloc (.cells (Array.replicate k (.int .u8 0)) 5)) := by
  obtain ⟨i, hi, hz, hs, hb⟩ := info_parts sl_by.info
  have h := run_make (P := Tryz.prog) w 68 5 i (.int .u8 0) (by kernel_rfl) hi hz .i64 .i64 0 k (by omega) (by omega) (by rw [hb]; omega) (by omega)
  simp only [Int.toNat_natCast, hs, Nat.mul_one] at h
  rw [h, show (Value.int .u8 0).cells = #[.int .u8 0] from rfl, madeCells_r]
  rfl
set_option maxRecDepth 100000 in
set_option maxHeartbeats 8000000 in
theorem split_any {w : World} {cb b k m n c width : Nat} {A : Option Addr} {S : Nat → Prop} {xs : List Nat} (H : CodAt w cb b k m) (R : RdL ByR 1 S w A n xs) (hc : n ≤ c) (h1 : 1 ≤ width) (h2 : width ≤ 65536) (hn : n ≤ k * width) :
    Calls Tryz.prog 94 #[.pointer (some ⟨cb, 0, none⟩), .slice A n c, .int .i64 (width : Int)] w fun e w' => ∃ g, e = .returned (.tuple #[.slice (some ⟨g, 0, none⟩) k k, .int .i64 0]) ∧ RdL RowR 1 (fun j => w.heap.size ≤ j) w' (some ⟨g, 0, none⟩) k (splF width xs k k) ∧ Below w.heap.size w w' := by
  have HR := Lib.hid R
  have hxl := R.1
  have hk1 := H.k1
  have hkm := H.km
  have hNo := none_any H
  obtain ⟨A0, c0, hbx, _⟩ := H.box
  have hcl := hbx.lt
  have u1 := hbx.cell 0
  obtain ⟨P, hP⟩ : ∃ P, k * width = P := ⟨_, rfl⟩
  have hPle : P ≤ 255 * 65536 := by rw [← hP]; exact Nat.mul_le_mul (by omega) h2
  rw [hP] at hn
  have hP2 : (k : Int) * (width : Int) = (P : Int) := by rw [← hP]; push_cast; rfl
  have q1 : (P : Int) ≤ 16711680 := by omega
  have q2 : ¬ (P : Int) < (n : Int) := by omega
  have q2b : decide (P < n) = false := decide_eq_false (by omega)
  have q3 : (0 : Int) ≤ (n : Int) := Int.natCast_nonneg _
  have q4 : ¬ (width : Int) < 1 := by omega
  have q5 : ¬ (width : Int) > 65536 := by omega
  have q6 : (k : Int) ≤ 255 := by omega
  have q7 : IntKind.i64.wrap (P : Int) = (P : Int) := by rw [IntKind.wrap_i64]; omega
  have HP := Lib.hid hP
  have hmk := makeRows k (by omega) w
  have ho := OutAt.made w k 68
  have hbz : Below w.heap.size w (w.alloc (.cells (Array.replicate k (.slice none 0 0)) 68)) := (Below.refl _ _).alloc (Nat.le_refl _) _
  obtain ⟨w3, hw3⟩ : ∃ w3, w.alloc (.cells (Array.replicate k (.slice none 0 0)) 68) = w3 := ⟨_, rfl⟩
  rw [hw3] at hmk ho hbz
  obtain ⟨go, hgo⟩ : ∃ go, w.heap.size = go := ⟨_, rfl⟩
  rw [hgo] at hmk ho
  have hs0 : splF width xs k 0 = List.replicate k [] := by unfold splF; simp
  rw [← hs0] at ho
  have HO := Lib.hid ho
  have HB := Lib.hid hbz
  have HGO := Lib.hid hgo
  clear H R hbx hP ho hbz hw3 hs0 hgo
  go_enter Tryz.func94, Tryz.ntmps94
  go_wp2_with (go_at_call 121; refine hNo.mono ?_; rintro e w9 ⟨rfl, hw9⟩; rw [hw9]; clear hw9 hNo)
  clear hmk u1 hP2 q7
  have HX0 : Hid (RdL ByR 1 (fun _ => True) w A n (xs.drop (0 * width))) := Lib.hid (by rw [Nat.zero_mul, List.drop_zero]; exact HR.out.weaken ByR.stable (fun _ _ => trivial))
  go_loopw [1, 40] (fun vb vi wr => ∃ (i nb cc : Nat) (Ab : Option Addr), i ≤ k ∧ vi = .int .i64 i ∧ vb = .slice Ab nb cc ∧ nb ≤ cc ∧ nb ≤ n ∧ Hid (RdL ByR 1 (fun _ => True) w Ab nb (xs.drop (i * width))) ∧ Hid (OutAt wr go go k (splF width xs k i)) ∧ Hid (Below w.heap.size w wr)) (fun _ vi _ => k - (intOf vi).toNat)
  case atStart => exact ⟨0, n, c, A, Nat.zero_le _, rfl, rfl, hc, Nat.le_refl _, HX0, HO, HB⟩
  case round =>
    clear HX0 HO HB
    obtain ⟨i, nb, cc, Ab, hi, rfl, rfl, hcc, hnb, HX, HO, HB⟩ := hrel
    have p0 : (0 : Int) ≤ (i : Int) := Int.natCast_nonneg _
    by_cases hlt : i < k
    · have p1 : (i : Int) < (k : Int) := by omega
      obtain ⟨q, hq⟩ : ∃ q, min nb width = q := ⟨_, rfl⟩
      have hq2 : min (nb : Int) (width : Int) = (q : Int) := by omega
      have hqn : q ≤ nb := by omega
      have hqw : q ≤ width := by omega
      have hp1 := fun w => piece_pre sl_by (A := Ab) (N := nb) (c := cc) (k := q) (by omega) w
      have hp2 := fun w => piece_suf sl_by (A := Ab) (N := nb) (c := cc) (k := q) (by omega) w
      have hm0 := make0 width (by omega) wr.drew
      obtain ⟨w4, hw4⟩ : ∃ w4, wr.drew.alloc (.cells (Array.replicate width (.int .u8 0)) 5) = w4 := ⟨_, rfl⟩
      have hg4 : w4.heap[wr.heap.size]? = some (.cells (Array.replicate width (.int .u8 0)) 5 (0, 0)) := by rw [← hw4]; show (wr.heap.push _)[wr.heap.size]? = _; exact Array.getElem?_push_size
      have hb4 : Below wr.heap.size wr w4 := by rw [← hw4]; exact (Below.refl _ _).drew.alloc (Nat.le_refl _) _
      have hrx : RdL ByR 1 (fun _ => True) w4 Ab q ((xs.drop (i * width)).take q) := RdL.take (HX.out.below ByR.stable (HB.out.trans (hb4.mono HB.out.size))) hqn
      obtain ⟨w5, hw5⟩ : ∃ w5, w5 = w4.setRow wr.heap.size (valsL (fillL width ((xs.drop (i * width)).take q))).toArray := ⟨_, rfl⟩
      have hfr : ∀ ty, (Builtin.append_ #[68, 68] ty #[.slice (some ⟨wr.heap.size, 0, none⟩) 0 width, .slice Ab q cc]).run Tryz.prog w4 = .ok (.slice (some ⟨wr.heap.size, 0, none⟩) q width) w5 := fun ty => by
        obtain ⟨w', h, e⟩ := fill_run (c := cc) (ty := ty) hg4 hrx hqw
        rw [h, e, hw5]
      have hb5 : Below wr.heap.size wr w5 := by rw [hw5]; exact hb4.trans ⟨rfl, rfl, rfl, by simp [World.setRow], fun k hk => setRow_other _ _ _ _ (by omega)⟩
      have hlw : (fillL width ((xs.drop (i * width)).take q)).length = width := by unfold fillL; rw [List.length_append, List.length_replicate, hrx.1]; omega
      have hbyt : Byt (fillL width ((xs.drop (i * width)).take q)) := fun x hx => by
        unfold fillL at hx
        rcases List.mem_append.1 hx with hx | hx
        · exact by_byt hrx x hx
        · rw [(List.mem_replicate.1 hx).2]; omega
      have hri : RowIn w5 wr.heap.size (valsL (fillL width ((xs.drop (i * width)).take q))).toArray (fillL width ((xs.drop (i * width)).take q)) := by
        refine ⟨⟨5, by rw [hw5]; exact setRow_heap w4 _ _ _ _ _ hg4⟩, by simp [valsL], fun j hj => ?_, hbyt⟩
        rw [List.getElem?_toArray]
        unfold valsL
        rw [List.getElem?_map, gt_of_lt hj]; rfl
      have hrd5 := hri.rd (S := fun j => go ≤ j ∧ j ≠ go) (by have := HO.out.lt; have := HGO.out; have := HB.out.size; omega)
      rw [hlw] at hrd5
      have ho5 := HO.out.below hb5
      obtain ⟨⟨v5, hv5⟩, f5⟩ := ho5.cellx hlt
      have hst := ho5.set (i := i) (c := width) hlt (Nat.le_refl _) hrd5
      have hqx : (xs.drop (i * width)).take q = (xs.drop (i * width)).take width := by
        have hl := HX.out.1
        by_cases h : nb ≤ width
        · rw [List.take_of_length_le (by omega), List.take_of_length_le (by omega)]
        · rw [show q = width by omega]
      rw [hqx, splF_next hlt] at hst
      have hxn : RdL ByR 1 (fun _ => True) w (if cc = q then Ab else Ab.map (fun x : Addr => x.add (q * 1))) (nb - q) (xs.drop ((i + 1) * width)) := by
        have h := piece_rd HX.out hcc hqn
        rw [List.drop_drop] at h
        have e : xs.drop (i * width + q) = xs.drop ((i + 1) * width) := by
          have hl := HX.out.1
          rw [List.length_drop] at hl
          rw [Nat.succ_mul]
          by_cases h : nb ≤ width
          · rw [List.drop_of_length_le (by omega), List.drop_of_length_le (by omega)]
          · rw [show q = width by omega]
        rw [e] at h; exact h
      obtain ⟨AN, hAN⟩ : ∃ AN, (if cc = q then Ab else Ab.map (fun x : Addr => x.add (q * 1))) = AN := ⟨_, rfl⟩
      rw [hAN] at hxn
      simp only [hAN] at hp2
      clear hAN
      have HST := Lib.hid hst
      have HXN := Lib.hid hxn
      have hgw : w.heap.size ≤ go := by have := HGO.out; omega
      have HB5 := Lib.hid (((HB.out.trans (hb5.mono HB.out.size))).setCell (p := ⟨go, i, none⟩) hgw (.slice (some ⟨wr.heap.size, 0, none⟩) width width))
      have hp3 := fun w => piece_pre sl_by (A := some ⟨wr.heap.size, 0, none⟩) (N := q) (c := width) (k := width) (Nat.le_refl _) w
      rw [hw4] at hm0
      have hmd : wr.drew.heap.size = wr.heap.size := rfl
      rw [hmd] at hm0
      clear hst hxn hqx hrd5 ho5 hri hbyt hlw hb4 hb5 hrx hw5 hg4 hw4 hq hmd
      go_wp2_with fail
      refine wp_region_L (S := fun _ => True) [11] (by kernel_rfl) (trivial) (fun hHeld => ?_)
      refine tkL 0 rfl ?_
      refine tkL 1 rfl ?_
      refine tkL 2 rfl ?_
      refine tkL 4 rfl ?_
      refine tkL 5 rfl ?_
      refine tkL 6 rfl ?_
      refine tkL 8 rfl ?_
      refine rdL 3 rfl fun K hK => ?_
      try simp (maxSteps := 2000000) only [zz1, zz2, zz3]
      go_simp
      refine hK.out _ _ (trivial) (fun hHeld => ?_)
      clear hK K
      try simp (maxSteps := 2000000) only [zz1, zz2, zz3, Act.put, zz4, zz5, zz6]
      refine rdL 7 rfl fun K hK => ?_
      refine step_law (by rfl) (wpList_append_run _ (by rfl) _ _ _ _ (by rfl) _ _ (by rfl) (by rfl) _ _ (hfr _) ?_)
      refine And.intro rfl ?_
      refine hK.out _ _ (trivial) (fun hHeld => ?_)
      clear hK K
      try simp (maxSteps := 2000000) only [zz1, zz2, zz3, Act.put, zz4, zz5, zz6]
      refine tkL 9 rfl ?_
      refine tkL 10 rfl ?_
      refine lsL 11 rfl fun K hK => ?_
      try simp (maxSteps := 2000000) only [zz1, zz2, zz3]
      go_simp
      refine hK.out _ _ ?_
      clear hK K
      try simp (maxSteps := 2000000) only [zz1, zz2, zz3, Act.put, zz4, zz5, zz6]
      refine wpAnyL_done (by kernel_rfl) ?_ _
      clear hHeld
      go_wp2_with fail
      exact ⟨⟨i + 1, nb - q, cc - q, AN, by omega, by go_num, rfl, by omega, by omega, HXN, HST, HB5⟩, by simp [intOf]; omega⟩
    · have p1 : ¬ (i : Int) < (k : Int) := by omega
      obtain rfl : i = k := by omega
      go_wp2_with fail
      go_ret2
      exact ⟨go, rfl, HO.out.rd.weaken RowR.stable (fun j hj => by have := HGO.out; omega), HB.out⟩
end
section

def dl (i j : Nat) : Nat := if i = j then 1 else 0
theorem sum_dl {f : Nat → Nat} {n l : Nat} (hl : l < n) (hf : f l < 256) : sumx (fun t => gm (dl l t) (f t)) n = f l := by
  rw [sumx_one hl fun i _ hne => by unfold dl; rw [if_neg (fun e => hne e.symm), zero_gm]]
  unfold dl
  rw [if_pos rfl, gm_comm, gm_one2 hf]
section
variable {V : Rws} {n : Nat}
end
end
section

theorem combF_gt {n p : Nat} : ∀ (cs : List Nat) (rs : Rws) (z : List Nat), cs.length = rs.length → z.length = n → (∀ r ∈ rs, r.length = n) →
    gt (combF cs rs z) p = gt z p ^^^ sumx (fun j => gm (gt cs j) (gt (ra rs j) p)) cs.length := by
  intro cs
  induction cs with
  | nil => intro rs z _ _ _; cases rs <;> simp [combF, sumx]
  | cons c cs ih =>
    intro rs z hl hz hr
    cases rs with
    | nil => simp at hl
    | cons r rs =>
      have hrl := hr r (List.mem_cons_self ..)
      rw [show combF (c :: cs) (r :: rs) z = combF cs rs (fd c r z) from rfl, ih rs (fd c r z) (by simpa using hl) (by rw [fd_len, hz]) (fun x hx => hr x (List.mem_cons_of_mem _ hx)), fd_gt c r z p (by omega)]
      rw [List.length_cons, Nat.add_comm cs.length 1, sumx_add]
      rw [← Nat.xor_assoc]
      congr 1
      · congr 1
        show _ = 0 ^^^ gm (gt (c :: cs) 0) (gt (ra (r :: rs) 0) p)
        rw [Nat.zero_xor]; rfl
      · exact sumx_cong fun j _ => by rw [Nat.add_comm 1 j]; rfl
theorem gt_zeros (n p : Nat) : gt (List.replicate n 0) p = 0 := by
  unfold gt
  rw [List.getD_eq_getElem?_getD, List.getElem?_replicate]
  split <;> rfl
/-- The row number i that a coder makes of data. -/
def codeRow (k n : Nat) (D : Rws) (i : Nat) : List Nat := combF (rowF k i) D (List.replicate n 0)
theorem rowF_at {k i l : Nat} (h : l < k) : gt (rowF k i) l = fac k i l := range_gt h
section
variable {k n : Nat} {D : Rws}
theorem codeRow_ok (hD : Shp k n D) (i : Nat) : (codeRow k n D i).length = n ∧ Byt (codeRow k n D i) := combF_ok _ _ _ (by simp) (byt_zeros n)
theorem codeRow_gt (hD : Shp k n D) (i p : Nat) : gt (codeRow k n D i) p = sumx (fun l => gm (fac k i l) (gt (ra D l) p)) k := by
  unfold codeRow
  rw [combF_gt (n := n) (rowF k i) D _ (by rw [rowF_len, hD.1]) (by simp) (fun r hr => (hD.2 r hr).1), gt_zeros, Nat.zero_xor, rowF_len]
  exact sumx_cong fun l hl => by rw [rowF_at hl]
theorem ra_byt (hD : Shp k n D) (t p : Nat) : gt (ra D t) p < 256 := by
  by_cases h : t < k
  · exact gt_lt (hD.row h).2 _
  · rw [show ra D t = [] by unfold ra; rw [List.getD_eq_getElem?_getD, List.getElem?_eq_none (by rw [hD.1]; omega)]; rfl, gt_ge (by exact Nat.zero_le _)]; omega
/-- The code is systematic. -/
theorem codeRow_data (hD : Shp k n D) {i : Nat} (hi : i < k) : codeRow k n D i = ra D i := by
  refine gt_ext (by rw [(codeRow_ok hD i).1, (hD.row hi).1]) fun p _ => ?_
  rw [codeRow_gt hD]
  rw [sumx_cong (g := fun l => gm (dl i l) (gt (ra D l) p)) fun l hl => by unfold fac; rw [if_pos hi]; rfl]
  exact sum_dl hi (ra_byt hD i p)
end
end
section

/-- All rows of a code. -/
def allR (k n : Nat) (D : Rws) (N : Nat) : Rws := (List.range N).map (codeRow k n D)
theorem allR_len (k n : Nat) (D : Rws) (N : Nat) : (allR k n D N).length = N := by unfold allR; simp
theorem allR_ra {k n : Nat} {D : Rws} {N j : Nat} (hj : j < N) : ra (allR k n D N) j = codeRow k n D j := ra_some (by unfold allR; rw [List.getElem?_map, List.getElem?_range hj]; rfl)
section
variable {k m n : Nat} {D : Rws} {gone : List Int}
theorem allR_data (hD : Shp k n D) : allR k n D k = D := ra_ext (by rw [allR_len, hD.1]) fun i hi => by
  rw [allR_len] at hi
  rw [allR_ra hi, codeRow_data hD hi]
theorem allR_enc (hD : Shp k n D) : D ++ encU k D n m = allR k n D (k + m) := by
  unfold allR
  rw [List.range_add, List.map_append, List.map_map]
  congr 1
  exact (allR_data hD).symm
end
end
section

theorem fillL_len {width : Nat} {xs : List Nat} (h : xs.length ≤ width) : (fillL width xs).length = width := by
  unfold fillL; rw [List.length_append, List.length_replicate]; omega
theorem splF_end (width : Nat) (xs : List Nat) (k : Nat) : splF width xs k k = (List.range k).map fun j => fillL width ((xs.drop (j * width)).take width) := by
  unfold splF; simp
theorem splF_shp {width : Nat} {xs : List Nat} (hx : Byt xs) (k : Nat) : Shp k width (splF width xs k k) := by
  rw [splF_end]
  refine ⟨by simp, fun r hr => ?_⟩
  obtain ⟨j, _, rfl⟩ := List.mem_map.1 hr
  refine ⟨fillL_len (by rw [List.length_take]; omega), fun x hx2 => ?_⟩
  unfold fillL at hx2
  rcases List.mem_append.1 hx2 with h | h
  · exact hx x (List.mem_of_mem_drop (List.mem_of_mem_take h))
  · rw [(List.mem_replicate.1 h).2]; omega
end
section

def cpoly : Nat := 2197175160
/-- What one bit makes of a register. -/
def cst (c : Nat) : Nat := if c % 2 = 1 then c / 2 ^^^ cpoly else c / 2
def cstn : Nat → Nat → Nat
  | 0, c => c
  | n + 1, c => cstn n (cst c)
/-- What a byte makes of it. -/
def ceat (c b : Nat) : Nat := cstn 8 (c ^^^ b)
def cthr : Nat → List Nat → Nat
  | c, [] => c
  | c, b :: bs => cthr (ceat c b) bs
theorem xor_par (a b : Nat) : (a ^^^ b) % 2 = (a % 2 + b % 2) % 2 := by
  have := @Nat.xor_mod_two_eq_one a b
  have h1 : (a ^^^ b) % 2 < 2 := Nat.mod_lt _ (by omega)
  by_cases h : (a ^^^ b) % 2 = 1
  · have h2 := this.1 h
    omega
  · have h2 : ¬ ¬ (a % 2 = 1 ↔ b % 2 = 1) := fun h3 => h (this.2 h3)
    omega
theorem xor_half (a b : Nat) : (a ^^^ b) / 2 = a / 2 ^^^ b / 2 := by
  exact Nat.xor_div_two
theorem xor_nought {a b : Nat} (h : a ^^^ b = 0) : a = b := by
  have h2 : (a ^^^ b) ^^^ b = 0 ^^^ b := by rw [h]
  rw [Nat.xor_assoc, Nat.xor_self, Nat.xor_zero, Nat.zero_xor] at h2
  exact h2
theorem cst_xor (a b : Nat) : cst (a ^^^ b) = cst a ^^^ cst b := by
  have hp := xor_par a b
  unfold cst
  rw [xor_half]
  by_cases h1 : a % 2 = 1
  · by_cases h2 : b % 2 = 1
    · rw [if_neg (by omega), if_pos h1, if_pos h2]
      rw [Nat.xor_assoc, Nat.xor_comm cpoly, Nat.xor_assoc, Nat.xor_self, Nat.xor_zero]
    · rw [if_pos (by omega), if_pos h1, if_neg h2]
      rw [Nat.xor_assoc, Nat.xor_assoc, Nat.xor_comm cpoly]
  · by_cases h2 : b % 2 = 1
    · rw [if_pos (by omega), if_neg h1, if_pos h2, Nat.xor_assoc]
    · rw [if_neg (by omega), if_neg h1, if_neg h2]
theorem cstn_xor : ∀ n a b, cstn n (a ^^^ b) = cstn n a ^^^ cstn n b
  | 0, _, _ => rfl
  | n + 1, a, b => by
    show cstn n (cst (a ^^^ b)) = _
    rw [cst_xor, cstn_xor n]; rfl
theorem cst_zero : cst 0 = 0 := rfl
theorem cstn_zero : ∀ n, cstn n 0 = 0
  | 0 => rfl
  | n + 1 => by show cstn n (cst 0) = 0; rw [cst_zero, cstn_zero n]
theorem cst_lt {c : Nat} (h : c < 4294967296) : cst c < 4294967296 := by
  unfold cst
  split
  · exact Nat.xor_lt_two_pow (n := 32) (by omega) (by unfold cpoly; omega)
  · omega
theorem cstn_lt {c : Nat} (h : c < 4294967296) : ∀ n, cstn n c < 4294967296 := by
  intro n
  induction n generalizing c with
  | zero => exact h
  | succ n ih => exact ih (cst_lt h)
theorem cst_inj {c : Nat} (h : c < 4294967296) (h0 : cst c = 0) : c = 0 := by
  unfold cst at h0
  split at h0
  · have := xor_nought h0
    unfold cpoly at this
    omega
  · omega
theorem cstn_inj : ∀ n {c : Nat}, c < 4294967296 → cstn n c = 0 → c = 0
  | 0, _, _, h => h
  | n + 1, _, h, h0 => cst_inj h (cstn_inj n (cst_lt h) h0)
theorem cst_even (a : Nat) : cst (2 * a) = a := by unfold cst; rw [if_neg (by omega)]; omega
theorem cstn_shift : ∀ n a, cstn n (2 ^ n * a) = a
  | 0, a => by rw [Nat.pow_zero, Nat.one_mul]; rfl
  | n + 1, a => by
    show cstn n (cst (2 ^ (n + 1) * a)) = a
    rw [show 2 ^ (n + 1) * a = 2 * (2 ^ n * a) by rw [Nat.pow_succ]; rw [Nat.mul_comm (2 ^ n) 2, Nat.mul_assoc], cst_even, cstn_shift n]
theorem cstn_add : ∀ m n c, cstn (n + m) c = cstn m (cstn n c)
  | m, 0, c => by rw [Nat.zero_add]; rfl
  | m, n + 1, c => by rw [Nat.succ_add]; exact cstn_add m n (cst c)
theorem ceat_xor (a b c d : Nat) : ceat (a ^^^ b) (c ^^^ d) = ceat a c ^^^ ceat b d := by
  unfold ceat
  rw [← cstn_xor]
  congr 1
  rw [Nat.xor_assoc, Nat.xor_assoc]
  congr 1
  rw [← Nat.xor_assoc, Nat.xor_comm b c, Nat.xor_assoc]
theorem ceat_lt {c b : Nat} (h : c < 4294967296) (hb : b < 256) : ceat c b < 4294967296 := cstn_lt (Nat.xor_lt_two_pow (n := 32) h (by omega)) 8
theorem cthr_lt : ∀ (l : List Nat) {c : Nat}, c < 4294967296 → (∀ x ∈ l, x < 256) → cthr c l < 4294967296
  | [], _, h, _ => h
  | b :: bs, _, h, hl => cthr_lt bs (ceat_lt h (hl b (List.mem_cons_self ..))) fun x hx => hl x (List.mem_cons_of_mem _ hx)
theorem cthr_append : ∀ (l m : List Nat) (c : Nat), cthr c (l ++ m) = cthr (cthr c l) m
  | [], _, _ => rfl
  | b :: bs, m, c => cthr_append bs m (ceat c b)
/-- Two texts of one length, summed byte by byte. -/
def xorL : List Nat → List Nat → List Nat
  | a :: al, b :: bs => (a ^^^ b) :: xorL al bs
  | _, _ => []
theorem cthr_xor : ∀ (l m : List Nat) (c d : Nat), l.length = m.length → cthr (c ^^^ d) (xorL l m) = cthr c l ^^^ cthr d m
  | [], [], _, _, _ => rfl
  | [], _ :: _, _, _, h => by simp at h
  | _ :: _, [], _, _, h => by simp at h
  | a :: al, b :: bs, c, d, h => by
    show cthr (ceat (c ^^^ d) (a ^^^ b)) (xorL al bs) = _
    rw [ceat_xor, cthr_xor al bs _ _ (by simpa using h)]; rfl
theorem cthr_zeros : ∀ (n c : Nat), cthr c (List.replicate n 0) = cstn (8 * n) c
  | 0, _ => rfl
  | n + 1, c => by
    rw [List.replicate_succ, show 8 * (n + 1) = 8 + 8 * n by omega, cstn_add (8 * n) 8 c, ← cthr_zeros n]
    show cthr (ceat c 0) _ = _
    unfold ceat
    rw [Nat.xor_zero]
/-- Four bytes. -/
def le4 (n : Nat) : List Nat := [n % 256, n / 256 % 256, n / 65536 % 256, n / 16777216 % 256]
def un4 : List Nat → Nat
  | [a, b, c, d] => a + 256 * (b + 256 * (c + 256 * d))
  | _ => 0
theorem un4_eq (a b c d : Nat) : un4 [a, b, c, d] = a + 256 * (b + 256 * (c + 256 * d)) := rfl
theorem un_le4 {n : Nat} (h : n < 4294967296) : un4 (le4 n) = n := by unfold le4; rw [un4_eq]; omega
theorem le_un4 {a b c d : Nat} (h1 : a < 256) (h2 : b < 256) (h3 : c < 256) (h4 : d < 256) : le4 (un4 [a, b, c, d]) = [a, b, c, d] := by
  unfold le4
  rw [un4_eq]
  simp only [List.cons.injEq, and_true]
  omega
theorem xor_high {a : Nat} (h : a < 256) (b : Nat) : a ^^^ 256 * b = a + 256 * b := by
  have h1 : (a ^^^ 256 * b) / 2 ^ 8 = b := by
    rw [Nat.xor_div_two_pow, show a / 2 ^ 8 = 0 by omega, show 256 * b / 2 ^ 8 = b by omega, Nat.zero_xor]
  have h2 : (a ^^^ 256 * b) % 2 ^ 8 = a := by
    rw [Nat.xor_mod_two_pow, show a % 2 ^ 8 = a by omega, show 256 * b % 2 ^ 8 = 0 by omega, Nat.xor_zero]
  omega
theorem ceat_word (c b w : Nat) : ceat c b ^^^ w = cstn 8 (c ^^^ (b ^^^ 256 * w)) := by
  unfold ceat
  have h := cstn_shift 8 w
  have e : c ^^^ (b ^^^ 256 * w) = (c ^^^ b) ^^^ 2 ^ 8 * w := (Nat.xor_assoc ..).symm
  rw [e, cstn_xor 8 (c ^^^ b), h]
theorem thr4 {a b c d : Nat} (h1 : a < 256) (h2 : b < 256) (h3 : c < 256) (h4 : d < 256) (r : Nat) : cthr r [a, b, c, d] = cstn 32 (r ^^^ un4 [a, b, c, d]) := by
  show cstn 8 (ceat (ceat (ceat r a) b) c ^^^ d) = _
  rw [ceat_word, ceat_word, ceat_word, xor_high h3, xor_high h2, xor_high h1]
  rw [← cstn_add 8 8, ← cstn_add 16 8, ← cstn_add 24 8]
  rfl
/-- The sum of a text. -/
def csum (l : List Nat) : Nat := cthr 4294967295 l ^^^ 4294967295
theorem csum_lt {l : List Nat} (h : ∀ x ∈ l, x < 256) : csum l < 4294967296 := Nat.xor_lt_two_pow (n := 32) (cthr_lt l (by omega) h) (by omega)
/-- Sixty bytes, and their sum. -/
def okSum (l : List Nat) : Prop := le4 (csum (l.take 60)) = l.drop 60
instance (l : List Nat) : Decidable (okSum l) := inferInstanceAs (Decidable (_ = _))
theorem okSum_iff {l : List Nat} (hl : l.length = 64) (hb : ∀ x ∈ l, x < 256) : okSum l ↔ cthr 4294967295 l = cstn 32 4294967295 := by
  have hd : (l.drop 60).length = 4 := by rw [List.length_drop, hl]
  have hbd : ∀ x ∈ l.drop 60, x < 256 := fun x hx => hb x (List.mem_of_mem_drop hx)
  have hbt : ∀ x ∈ l.take 60, x < 256 := fun x hx => hb x (List.mem_of_mem_take hx)
  have e : cthr 4294967295 l = cthr (cthr 4294967295 (l.take 60)) (l.drop 60) := by rw [← cthr_append, List.take_append_drop]
  obtain ⟨a, b, c, d, hs⟩ : ∃ a b c d, l.drop 60 = [a, b, c, d] := by
    match h : l.drop 60, hd with
    | [a, b, c, d], _ => exact ⟨a, b, c, d, rfl⟩
  rw [hs] at hbd
  have h1 := hbd a (by simp)
  have h2 := hbd b (by simp)
  have h3 := hbd c (by simp)
  have h4 := hbd d (by simp)
  have hw : un4 [a, b, c, d] < 4294967296 := by rw [un4_eq]; omega
  have hr := cthr_lt (l.take 60) (c := 4294967295) (by omega) hbt
  rw [e, hs, thr4 h1 h2 h3 h4]
  unfold okSum
  rw [hs]
  constructor
  · intro h
    have h9 := un_le4 (csum_lt hbt)
    rw [h] at h9
    rw [h9]
    unfold csum
    rw [← Nat.xor_assoc, Nat.xor_self, Nat.zero_xor]
  · intro h
    have h8 : cstn 32 (cthr 4294967295 (l.take 60) ^^^ un4 [a, b, c, d] ^^^ 4294967295) = 0 := by rw [cstn_xor, h, Nat.xor_self]
    have h9 := xor_nought (cstn_inj 32 (Nat.xor_lt_two_pow (n := 32) (Nat.xor_lt_two_pow (n := 32) hr hw) (by omega)) h8)
    have h10 : csum (l.take 60) = un4 [a, b, c, d] := by
      unfold csum
      have h11 : cthr 4294967295 (l.take 60) ^^^ (cthr 4294967295 (l.take 60) ^^^ un4 [a, b, c, d]) = un4 [a, b, c, d] := by rw [← Nat.xor_assoc, Nat.xor_self, Nat.zero_xor]
      rw [h9] at h11
      exact h11
    rw [h10, le_un4 h1 h2 h3 h4]
/-- A change of four bytes. -/
def rotD (off mask : Nat) : List Nat := List.replicate off 0 ++ (le4 mask ++ List.replicate (60 - off) 0)
theorem xorL_len : ∀ (l m : List Nat), l.length = m.length → (xorL l m).length = l.length
  | [], [], _ => rfl
  | [], _ :: _, h => by simp at h
  | _ :: _, [], h => by simp at h
  | a :: al, b :: bs, h => by show (xorL al bs).length + 1 = _; rw [xorL_len al bs (by simpa using h)]; rfl
theorem xorL_byt : ∀ (l m : List Nat), (∀ x ∈ l, x < 256) → (∀ x ∈ m, x < 256) → ∀ x ∈ xorL l m, x < 256
  | [], _, _, _, x, h => by simp [xorL] at h
  | _ :: _, [], _, _, x, h => by simp [xorL] at h
  | a :: al, b :: bs, h1, h2, x, h => by
    rcases List.mem_cons.1 h with rfl | h
    · exact Nat.xor_lt_two_pow (n := 8) (h1 a (List.mem_cons_self ..)) (h2 b (List.mem_cons_self ..))
    · exact xorL_byt al bs (fun y hy => h1 y (List.mem_cons_of_mem _ hy)) (fun y hy => h2 y (List.mem_cons_of_mem _ hy)) x h
theorem rotD_len {off mask : Nat} (h : off ≤ 60) : (rotD off mask).length = 64 := by unfold rotD le4; simp; omega
theorem rotD_byt (off mask : Nat) : ∀ x ∈ rotD off mask, x < 256 := by
  intro x hx
  unfold rotD le4 at hx
  simp only [List.mem_append, List.mem_replicate, List.mem_cons, List.not_mem_nil, or_false] at hx
  omega
/-- It is seen. -/
theorem rot_seen {l : List Nat} {off mask : Nat} (hl : l.length = 64) (hb : ∀ x ∈ l, x < 256) (ho : off ≤ 60) (hm0 : mask ≠ 0) (hm : mask < 4294967296) (h : okSum l) : ¬ okSum (xorL l (rotD off mask)) := by
  have hdl := rotD_len (mask := mask) ho
  rw [okSum_iff (by rw [xorL_len _ _ (by rw [hl, hdl]), hl]) (xorL_byt _ _ hb (rotD_byt off mask))]
  rw [okSum_iff hl hb] at h
  have e : cthr 4294967295 (xorL l (rotD off mask)) = cthr 4294967295 l ^^^ cthr 0 (rotD off mask) := by
    have := cthr_xor l (rotD off mask) 4294967295 0 (by rw [hl, hdl])
    exact this
  have e3 : cthr 0 (le4 mask) = cstn 32 mask := by
    have h5 := thr4 (a := mask % 256) (b := mask / 256 % 256) (c := mask / 65536 % 256) (d := mask / 16777216 % 256) (Nat.mod_lt _ (by omega)) (Nat.mod_lt _ (by omega)) (Nat.mod_lt _ (by omega)) (Nat.mod_lt _ (by omega)) 0
    have h6 : un4 [mask % 256, mask / 256 % 256, mask / 65536 % 256, mask / 16777216 % 256] = mask := un_le4 hm
    rw [h6, Nat.zero_xor] at h5
    exact h5
  have e2 : cthr 0 (rotD off mask) = cstn (8 * (60 - off)) (cstn 32 mask) := by
    unfold rotD
    rw [cthr_append, cthr_append, cthr_zeros (60 - off), cthr_zeros off, cstn_zero, e3]
  rw [e, e2, h]
  have hm1 := cstn_lt hm 32
  have hm2 := fun h0 => hm0 (cstn_inj 32 hm h0)
  generalize cstn 32 4294967295 = K
  generalize cstn 32 mask = L at hm1 hm2 ⊢
  intro h2
  have h3 : cstn (8 * (60 - off)) L = 0 := by
    have : K ^^^ (K ^^^ cstn (8 * (60 - off)) L) = K ^^^ K := by rw [h2]
    rwa [← Nat.xor_assoc, Nat.xor_self, Nat.zero_xor] at this
  exact hm2 (cstn_inj _ hm1 h3)
end
section
end
section
theorem xor_bits32 {a c : Nat} (ha : a < 4294967296) (hc : c < 4294967296) : bits .xor .u32 (a : Int) (c : Int) = ((a ^^^ c : Nat) : Int) := by
  unfold bits
  have h := Nat.xor_lt_two_pow (n := 32) ha hc
  have e : (BitVec.ofInt 32 (a : Int) ^^^ BitVec.ofInt 32 (c : Int)).toNat = a ^^^ c := by
    rw [BitVec.toNat_xor, BitVec.ofInt_natCast, BitVec.ofInt_natCast, BitVec.toNat_ofNat, BitVec.toNat_ofNat, show a % 2 ^ 32 = a by omega, show c % 2 ^ 32 = c by omega]
  show IntKind.u32.wrap ((BitVec.ofInt 32 (a : Int) ^^^ BitVec.ofInt 32 (c : Int)).toNat : Int) = _
  rw [e, IntKind.wrap_u32]
  omega
theorem and_bits32 {a c : Nat} (ha : a < 4294967296) (hc : c < 4294967296) : bits .and .u32 (a : Int) (c : Int) = ((a &&& c : Nat) : Int) := by
  unfold bits
  have h := Nat.and_lt_two_pow (n := 32) a hc
  have e : (BitVec.ofInt 32 (a : Int) &&& BitVec.ofInt 32 (c : Int)).toNat = a &&& c := by
    rw [BitVec.toNat_and, BitVec.ofInt_natCast, BitVec.ofInt_natCast, BitVec.toNat_ofNat, BitVec.toNat_ofNat, show a % 2 ^ 32 = a by omega, show c % 2 ^ 32 = c by omega]
  show IntKind.u32.wrap ((BitVec.ofInt 32 (a : Int) &&& BitVec.ofInt 32 (c : Int)).toNat : Int) = _
  rw [e, IntKind.wrap_u32]
  omega
theorem step_bits {c : Nat} (hc : c < 4294967296) : bits .xor .u32 ((c : Int) / 2) (bits .and .u32 2197175160 (-bits .and .u32 (c : Int) 1 % 4294967296)) = (cst c : Int) := by
  have h1 := and_bits32 (c := 1) hc (by omega)
  rw [Nat.and_one_is_mod] at h1
  have h2 : bits .and .u32 (c : Int) 1 = ((c % 2 : Nat) : Int) := h1
  rw [h2]
  unfold cst
  by_cases h : c % 2 = 1
  · rw [if_pos h, h]
    have h3 : bits .and .u32 2197175160 (-((1 : Nat) : Int) % 4294967296) = ((cpoly : Nat) : Int) := by decide +kernel
    rw [h3, show (c : Int) / 2 = ((c / 2 : Nat) : Int) by omega, xor_bits32 (by omega) (by unfold cpoly; omega)]
  · rw [if_neg h, show c % 2 = 0 by omega]
    have h3 : bits .and .u32 2197175160 (-((0 : Nat) : Int) % 4294967296) = ((0 : Nat) : Int) := by decide +kernel
    rw [h3, show (c : Int) / 2 = ((c / 2 : Nat) : Int) by omega, xor_bits32 (by omega) (by omega), Nat.xor_zero]
set_option maxRecDepth 100000 in
set_option maxHeartbeats 4000000 in
theorem step_any {w : World} {c : Nat} (hc : c < 4294967296) :
    Calls Tryz.prog 266 #[.int .u32 (c : Int)] w fun e w' => e = .returned (.int .u32 (cst c : Int)) ∧ w' = w := by
  have h1 := step_bits hc
  have q0 : (0 : Int) ≤ (c : Int) := Int.natCast_nonneg _
  have q1 : (c : Int) < 4294967296 := by omega
  go_enter Tryz.func266, Tryz.ntmps266
  go_wp2_with fail
  go_ret
  exact ⟨rfl, rfl⟩
theorem cstn_next : ∀ (i c : Nat), cstn (i + 1) c = cst (cstn i c) := fun i c => cstn_add 1 i c
set_option maxRecDepth 100000 in
set_option maxHeartbeats 4000000 in
theorem eat_any {w : World} {c b : Nat} (hc : c < 4294967296) (hb : b < 256) :
    Calls Tryz.prog 259 #[.int .u32 (c : Int), .int .u8 (b : Int)] w fun e w' => e = .returned (.int .u32 (ceat c b : Int)) ∧ w' = w := by
  have h1 := xor_bits32 hc (show b < 4294967296 by omega)
  have q0 : (0 : Int) ≤ (c : Int) := Int.natCast_nonneg _
  have q1 : (c : Int) < 4294967296 := by omega
  have q2 : (0 : Int) ≤ (b : Int) := Int.natCast_nonneg _
  have q3 : (b : Int) < 256 := by omega
  have hx := Nat.xor_lt_two_pow (n := 32) hc (show b < 2 ^ 32 by omega)
  obtain ⟨x, hxe⟩ : ∃ x, c ^^^ b = x := ⟨_, rfl⟩
  have HE := Lib.hid (show ceat c b = cstn 8 x by unfold ceat; rw [hxe])
  rw [hxe] at h1 hx
  clear hxe
  go_enter Tryz.func259, Tryz.ntmps259
  go_wp2_with fail
  go_loopw [0, 9] (fun vc vi wr => ∃ i : Nat, i ≤ 8 ∧ vi = .int .i64 i ∧ vc = .int .u32 (cstn i x) ∧ wr = w) (fun _ vi _ => 8 - (intOf vi).toNat)
  case atStart => exact ⟨0, by omega, rfl, rfl, rfl⟩
  case round =>
    obtain ⟨i, hi, rfl, rfl, hwr⟩ := hrel
    rw [hwr]
    clear hwr
    have p0 : (0 : Int) ≤ (i : Int) := Int.natCast_nonneg _
    by_cases hlt : i < 8
    · have p1 : (i : Int) < 8 := by omega
      have hs := step_any (w := w) (c := cstn i x) (cstn_lt hx i)
      have HN := Lib.hid (cstn_next i x)
      go_wp2_with fail
      refine hs.mono ?_
      rintro e w5 ⟨rfl, hw5⟩
      rw [hw5]
      clear hw5 hs
      go_wp2_with fail
      exact ⟨⟨i + 1, by omega, by go_num, by rw [HN.out], trivial⟩, by simp [intOf]; omega⟩
    · obtain rfl : i = 8 := by omega
      go_wp2_with fail
      go_ret
      exact ⟨by rw [HE.out]; rfl, rfl⟩
theorem cthr_take {l : List Nat} {i : Nat} (h : i < l.length) (c : Nat) : cthr c (l.take (i + 1)) = ceat (cthr c (l.take i)) (gt l i) := by
  rw [take_gt h, cthr_append]; rfl
set_option maxRecDepth 100000 in
set_option maxHeartbeats 4000000 in
theorem through_any {w : World} {c n cp : Nat} {A : Option Addr} {S : Nat → Prop} {xs : List Nat} (hc : c < 4294967296) (R : RdL ByR 1 S w A n xs) (hn : n ≤ 1000000) :
    Calls Tryz.prog 247 #[.int .u32 (c : Int), .slice A n cp] w fun e w' => e = .returned (.int .u32 (cthr c xs : Int)) ∧ w' = w := by
  have HR := Lib.hid R
  have hl := R.1
  have HB := Lib.hid (by_byt R)
  have q0 : (n : Int) ≤ 1000000 := by omega
  clear R
  go_enter Tryz.func247, Tryz.ntmps247
  go_wp2_with fail
  go_loopw [0, 9] (fun vc vi wr => ∃ i : Nat, i ≤ n ∧ vi = .int .i64 i ∧ vc = .int .u32 (cthr c (xs.take i)) ∧ wr = w) (fun _ vi _ => n - (intOf vi).toNat)
  case atStart => exact ⟨0, Nat.zero_le _, rfl, rfl, rfl⟩
  case round =>
    obtain ⟨i, hi, rfl, rfl, hwr⟩ := hrel
    rw [hwr]
    clear hwr
    have p0 : (0 : Int) ≤ (i : Int) := Int.natCast_nonneg _
    by_cases hlt : i < n
    · have p1 : (i : Int) < (n : Int) := by omega
      obtain ⟨ba, oa, rfl, _, hba⟩ := HR.out.addr hlt
      obtain ⟨v1, x1⟩ := by_at HR.out hlt
      have hq := cthr_lt (xs.take i) hc (fun x hx => HB.out x (List.mem_of_mem_take hx))
      have hs := eat_any (w := w) hq x1
      have HN := Lib.hid (cthr_take (c := c) (l := xs) (i := i) (by omega))
      go_wp2_with fail
      refine hs.mono ?_
      rintro e w5 ⟨rfl, hw5⟩
      rw [hw5]
      clear hw5 hs
      go_wp2_with fail
      exact ⟨⟨i + 1, by omega, by go_num, by rw [HN.out], trivial⟩, by simp [intOf]; omega⟩
    · have p1 : ¬ (i : Int) < (n : Int) := by omega
      obtain rfl : i = n := by omega
      have HT := Lib.hid (List.take_of_length_le (l := xs) (i := i) (by omega))
      go_wp2_with fail
      go_ret
      exact ⟨congrArg (fun l => Ending.returned (.int .u32 (cthr c l : Int))) HT.out, rfl⟩
theorem bits_not0 : bits .xor .u32 4294967295 0 = 4294967295 := by decide +kernel
theorem not_top : (if IntKind.u32.signed = true then -1 else IntKind.u32.max) = (4294967295 : Int) := by decide +kernel
set_option maxRecDepth 100000 in
set_option maxHeartbeats 4000000 in
theorem more_any {w : World} {n cp M : Nat} {A : Option Addr} {S : Nat → Prop} {xs : List Nat} (hM : M < 4294967296) (hMi : (M : Int) = 4294967295) (R : RdL ByR 1 S w A n xs) (hn : n ≤ 1000000) :
    Calls Tryz.prog 233 #[.int .u32 0, .slice A n cp] w fun e w' => e = .returned (.int .u32 ((cthr M xs ^^^ M : Nat) : Int)) ∧ w' = w := by
  have ht := through_any (cp := cp) hM R hn
  have hq := cthr_lt xs hM (by_byt R)
  have hx := xor_bits32 hM hq
  rw [hMi] at ht hx
  have h0 := bits_not0
  have h1 := not_top
  obtain ⟨y, hy⟩ : ∃ y, cthr M xs = y := ⟨_, rfl⟩
  rw [hy] at ht hx hq
  have HY := Lib.hid hy
  have q0 : (0 : Int) ≤ (y : Int) := Int.natCast_nonneg _
  have q1 : (y : Int) < 4294967296 := by omega
  clear hM hMi R hy hq
  go_enter Tryz.func233, Tryz.ntmps233
  go_wp2_with fail
  refine ht.mono ?_
  rintro e w5 ⟨rfl, hw5⟩
  rw [hw5]
  clear hw5 ht
  go_wp2_with fail
  go_ret
  exact ⟨by rw [HY.out, Nat.xor_comm]; rfl, rfl⟩
set_option maxRecDepth 100000 in
set_option maxHeartbeats 4000000 in
theorem csum_any {w : World} {n cp : Nat} {A : Option Addr} {S : Nat → Prop} {xs : List Nat} (R : RdL ByR 1 S w A n xs) (hn : n ≤ 1000000) :
    Calls Tryz.prog 202 #[.slice A n cp] w fun e w' => e = .returned (.int .u32 (csum xs : Int)) ∧ w' = w := by
  have ht := more_any (cp := cp) (M := 4294967295) (by omega) rfl R hn
  change Calls Tryz.prog 233 #[.int .u32 0, .slice A n cp] w (fun e w' => e = .returned (.int .u32 (csum xs : Int)) ∧ w' = w) at ht
  obtain ⟨y, hy⟩ : ∃ y, csum xs = y := ⟨_, rfl⟩
  rw [hy] at ht ⊢
  go_enter Tryz.func202, Tryz.ntmps202
  go_wp2_with fail
  refine ht.mono ?_
  rintro e w5 ⟨rfl, hw5⟩
  rw [hw5]
  clear hw5 ht
  go_wp2_with fail
  go_ret
  exact ⟨rfl, rfl⟩
end
section
theorem flat1 {α β : Type} (f : α → β) : ∀ xs : List α, (xs.map fun x => [f x]).flatten = xs.map f
  | [] => rfl
  | x :: xs => by rw [List.map_cons, List.flatten_cons, flat1 f xs]; rfl
theorem OwnL.byNew {w : World} {xs : List Nat} {n cap : Nat} (hl : xs.length = n) (hb : Byt xs) (hc : n ≤ cap) (hm : cap ≤ maxLen) {cur : Array Value} (hsz : cur.size = cap) (hcur : cur.toList.take n = xs.map fun x : Nat => Value.int .u8 (x : Int)) :
    OwnL ByR 5 1 w.heap.size (fun _ => True) (w.alloc (.cells cur 5)) (.slice (some ⟨w.heap.size, 0, none⟩) n cap) n xs := by
  refine ⟨xs.map fun x : Nat => [Value.int .u8 (x : Int)], ⟨?_, .inr ⟨_, cap, cur, rfl, Nat.le_refl _, heap_alloc_new w _, hc, hm, by omega, ?_⟩⟩, hl, by rw [List.length_map, hl], fun cs hcs => ?_, fun i cs x hcs hx => ?_⟩
  · rw [flat1, List.length_map, hl, Nat.mul_one]
  · rw [Nat.mul_one, hcur, flat1]
  · obtain ⟨x, _, rfl⟩ := List.mem_map.1 hcs
    rfl
  · rw [List.getElem?_map, hx] at hcs
    injection hcs with hcs
    subst hcs
    exact ⟨hb x (List.mem_of_getElem? hx), rfl⟩
theorem OwnL.bySet {w : World} {E : TypeId} {base g n cap : Nat} {xs : List Nat} (h : OwnL ByR E 1 base (fun _ => True) w (.slice (some ⟨g, 0, none⟩) n cap) n xs) {i x : Nat} (hx : x < 256) :
    OwnL ByR E 1 base (fun _ => True) (w.setCell ⟨g, i, none⟩ (.int .u8 (x : Int))) (.slice (some ⟨g, 0, none⟩) n cap) n (xs.set i x) := by
  obtain ⟨css, h1, h2, h3, h4, h5⟩ := h
  have hcs : css = xs.map fun x : Nat => [Value.int .u8 (x : Int)] := by
    refine List.ext_getElem (by rw [List.length_map]; omega) fun j h6 h7 => ?_
    rw [List.getElem_map]
    exact (h5 j css[j] xs[j] (List.getElem?_eq_getElem _) (List.getElem?_eq_getElem _)).2
  have hb : Byt xs := fun y hy => by
    obtain ⟨j, hj, rfl⟩ := List.mem_iff_getElem.1 hy
    exact (h5 j css[j] xs[j] (List.getElem?_eq_getElem _) (List.getElem?_eq_getElem _)).1
  rw [hcs, flat1] at h1
  refine ⟨(xs.set i x).map fun x : Nat => [Value.int .u8 (x : Int)], ?_, by rw [List.length_set, h2], by rw [List.length_map, List.length_set, h2], fun cs hcs => ?_, fun j cs y hcs hy => ?_⟩
  · rw [flat1, List.map_set]
    exact (h1.stored i _).1
  · obtain ⟨x, _, rfl⟩ := List.mem_map.1 hcs
    rfl
  · rw [List.getElem?_map, hy] at hcs
    injection hcs with hcs
    subst hcs
    refine ⟨?_, rfl⟩
    rcases List.mem_or_eq_of_mem_set (List.mem_of_getElem? hy) with h8 | h8
    · exact hb y h8
    · rw [h8]; exact hx
theorem OwnL.byCell {w : World} {E : TypeId} {base g n cap : Nat} {xs : List Nat} (h : OwnL ByR E 1 base (fun _ => True) w (.slice (some ⟨g, 0, none⟩) n cap) n xs) {i : Nat} (hi : i < n) :
    (∃ v, w.cell? ⟨g, i, none⟩ = some v) ∧ w.frozen? ⟨g, i, none⟩ = false := by
  obtain ⟨css, h1, h2, h3, h4, h5⟩ := h
  have ht := ownsRow_there h1 (o := i) (k := 1) (by omega) 0 (by omega)
  rw [Nat.add_zero] at ht
  obtain ⟨ha, hb⟩ := ht
  refine ⟨Option.isSome_iff_exists.1 ha, ?_⟩
  simpa using hb
def zfF (xs : List Nat) (n i : Nat) : List Nat := xs.take i ++ List.replicate (n - i) 0
theorem zfF_next {xs : List Nat} {n i : Nat} (hl : xs.length = n) (hi : i < n) : (zfF xs n i).set i (gt xs i) = zfF xs n (i + 1) := by
  unfold zfF
  rw [List.set_append_right _ _ (by rw [List.length_take]; omega), take_gt (by omega), List.append_assoc]
  congr 1
  rw [List.length_take, show i - min i xs.length = 0 by omega]
  obtain ⟨d, hd⟩ : ∃ d, n - i = d + 1 := ⟨n - i - 1, by omega⟩
  rw [hd, show n - (i + 1) = d by omega, List.replicate_succ]
  rfl
theorem makeCap (n c : Nat) (h : n ≤ c) (hc : c ≤ 1000000) (w : World) : (Instr.makeSlice 68 (.int .i64 (n : Int)) (.int .i64 ((n : Int) + ((c - n : Nat) : Int)))).run Tryz.prog w = .ok (.slice (some ⟨w.heap.size, 0, none⟩) n c) (w.alloc (.cells (Array.replicate c (.int .u8 0)) 5)) := by
  obtain ⟨i, hi, hz, hs, hb⟩ := info_parts byInfo
  rw [show (n : Int) + ((c - n : Nat) : Int) = (c : Int) by omega]
  have h := run_make (P := Tryz.prog) w 68 5 i (.int .u8 0) (by kernel_rfl) hi hz .i64 .i64 n c (by omega) (by omega) (by rw [hb]; omega) (by omega)
  simp only [Int.toNat_natCast, hs, Nat.mul_one] at h
  rw [h, show (Value.int .u8 0).cells = #[.int .u8 0] from rfl, madeCells_r]
set_option maxRecDepth 100000 in
set_option maxHeartbeats 4000000 in
theorem grown_any {w : World} {n c room : Nat} {A : Option Addr} {S : Nat → Prop} {xs : List Nat} (R : RdL ByR 1 S w A n xs) (hn : n ≤ 10000) (hr : room ≤ 10000) :
    Calls Tryz.prog 240 #[.slice A n c, .int .i64 (room : Int)] w fun e w' => ∃ g, e = .returned (.slice (some ⟨g, 0, none⟩) n (n + room)) ∧ OwnL ByR 5 1 w.heap.size (fun _ => True) w' (.slice (some ⟨g, 0, none⟩) n (n + room)) n xs ∧ Below w.heap.size w w' := by
  have HR := Lib.hid R
  have HX := Lib.hid R.1
  have HBY := Lib.hid (by_byt R)
  clear R
  have q0 : (n : Int) ≤ 10000 := by omega
  have q1 : (room : Int) ≤ 10000 := by omega
  have q2 : (0 : Int) ≤ (room : Int) := Int.natCast_nonneg _
  have hmk := makeCap n (n + room) (by omega) (by omega) w
  rw [show n + room - n = room by omega] at hmk
  have ho := OwnL.byNew (w := w) (xs := zfF xs n 0) (n := n) (cap := n + room) (cur := Array.replicate (n + room) (.int .u8 0)) (by unfold zfF; simp) (by unfold zfF; rw [List.take_zero, List.nil_append]; exact byt_zeros _) (by omega) (by unfold maxLen; omega) (by simp) (by unfold zfF; simp [List.take_replicate])
  have hbz : Below w.heap.size w (w.alloc (.cells (Array.replicate (n + room) (.int .u8 0)) 5)) := (Below.refl _ _).alloc (Nat.le_refl _) _
  obtain ⟨wA, hwA⟩ : ∃ wA, w.alloc (.cells (Array.replicate (n + room) (.int .u8 0)) 5) = wA := ⟨_, rfl⟩
  rw [hwA] at hmk ho hbz
  have HO := Lib.hid ho
  have HBZ := Lib.hid hbz
  obtain ⟨g, hg⟩ : ∃ g, w.heap.size = g := ⟨_, rfl⟩
  rw [hg] at hmk HO
  have HG := Lib.hid (show w.heap.size ≤ g by omega)
  have HGE := Lib.hid hg
  clear ho hbz hwA hg
  go_enter Tryz.func240, Tryz.ntmps240
  go_wp2_with fail
  clear hmk
  go_loopw [17] (fun vi wr => ∃ i : Nat, i ≤ n ∧ vi = .int .i64 i ∧ Hid (OwnL ByR 5 1 g (fun _ => True) wr (.slice (some ⟨g, 0, none⟩) n (n + room)) n (zfF xs n i)) ∧ Hid (Below w.heap.size w wr)) (fun vi _ => n - (intOf vi).toNat)
  case atStart => exact ⟨0, Nat.zero_le _, rfl, HO, HBZ⟩
  case round =>
    clear HO HBZ
    obtain ⟨i, hi, rfl, HO, HB⟩ := hrel
    have p0 : (0 : Int) ≤ (i : Int) := Int.natCast_nonneg _
    by_cases hlt : i < n
    · have p1 : (i : Int) < (n : Int) := by omega
      obtain ⟨ba, oa, rfl, _, hba⟩ := HR.out.addr hlt
      obtain ⟨v1, x1⟩ := by_at HR.out hlt
      replace v1 := (HB.out.cell (p := ⟨ba, oa + i, none⟩) hba).trans v1
      obtain ⟨⟨u, hu⟩, f1⟩ := OwnL.byCell HO.out hlt
      have hs := OwnL.bySet (i := i) HO.out x1
      rw [zfF_next HX.out hlt] at hs
      have HS := Lib.hid hs
      have HB2 := Lib.hid (HB.out.setCell (p := ⟨g, i, none⟩) HG.out (.int .u8 (gt xs i : Int)))
      clear hs hlt
      go_wp2_with fail
      exact ⟨⟨i + 1, by omega, by go_num, HS, HB2⟩, by simp [intOf]; omega⟩
    · have p1 : ¬ (i : Int) < (n : Int) := by omega
      obtain rfl : i = n := by omega
      go_wp2_with fail
      go_ret
      have e : zfF xs i i = xs := by unfold zfF; rw [Nat.sub_self, List.take_of_length_le (by rw [HX.out]; exact Nat.le_refl _)]; simp
      refine ⟨g, rfl, ?_, HB.out⟩
      have h9 := HO.out
      rw [e] at h9
      rw [HGE.out]
      exact h9
end
section
def leN (k v : Nat) : List Nat := (List.range k).map fun i => v / 2 ^ (8 * i) % 256
theorem leN_next (k v : Nat) : leN (k + 1) v = leN k v ++ [v / 2 ^ (8 * k) % 256] := by
  unfold leN
  rw [List.range_succ, List.map_append]; rfl
theorem leN_len (k v : Nat) : (leN k v).length = k := by unfold leN; simp
theorem leN_byt (k v : Nat) : Byt (leN k v) := fun x hx => by
  obtain ⟨i, _, rfl⟩ := List.mem_map.1 hx
  exact Nat.mod_lt _ (by omega)
set_option maxRecDepth 100000 in
set_option maxHeartbeats 4000000 in
theorem nput_any {w : World} {n c k v : Nat} {A : Option Addr} {S : Nat → Prop} {xs : List Nat} (R : RdL ByR 1 S w A n xs) (hn : n ≤ 4000) (k1 : 1 ≤ k) (k8 : k ≤ 8) (hv : v < 18446744073709551616) :
    Calls Tryz.prog 214 #[.slice A n c, .int .i64 (k : Int), .int .u64 (v : Int)] w fun e w' => ∃ A' c', e = .returned (.slice A' (n + k) c') ∧ OwnL ByR 5 1 w.heap.size (fun _ => True) w' (.slice A' (n + k) c') (n + k) (xs ++ leN k v) ∧ Below w.heap.size w w' := by
  have hgr := grown_any (c := c) (room := 8) R (by omega) (by omega)
  have q0 : (k : Int) ≤ 8 := by omega
  have q1 : ¬ (k : Int) < 1 := by omega
  have q2 : ¬ (k : Int) > 8 := by omega
  have HV := Lib.hid hv
  clear R hv
  push_cast at hgr
  go_enter Tryz.func214, Tryz.ntmps214
  go_wp2_with fail
  refine hgr.mono ?_
  rintro e w1 ⟨g, rfl, ho, hb1⟩
  have HO := Lib.hid ho
  have HB := Lib.hid hb1
  clear hgr ho hb1
  go_wp2_with fail
  go_loopw [7, 19] (fun vs vi wr => ∃ (i : Nat) (A : Option Addr) (c' : Nat), i ≤ k ∧ vi = .int .i64 i ∧ vs = .slice A (n + i) c' ∧ Hid (OwnL ByR 5 1 w.heap.size (fun _ => True) wr (.slice A (n + i) c') (n + i) (xs ++ leN i v)) ∧ Hid (Below w.heap.size w wr)) (fun _ vi _ => k - (intOf vi).toNat)
  case atStart => exact ⟨0, _, _, Nat.zero_le _, rfl, rfl, by rw [show leN 0 v = [] from rfl, List.append_nil]; exact HO, HB⟩
  case round =>
    clear HO HB
    obtain ⟨i, AO, cO, hi, rfl, rfl, HO, HB⟩ := hrel
    have p0 : (0 : Int) ≤ (i : Int) := Int.natCast_nonneg _
    by_cases hlt : i < k
    · have p1 : (i : Int) < (k : Int) := by omega
      have HN := Lib.hid (show xs ++ leN (i + 1) v = xs ++ leN i v ++ [v / 2 ^ (8 * i) % 256] by rw [leN_next, List.append_assoc])
      have hszr := HB.out.size
      have hy : (v : Int) / 2 ^ (8 * i) % 256 = ((v / 2 ^ (8 * i) % 256 : Nat) : Int) := by push_cast; rfl
      have hyl : v / 2 ^ (8 * i) % 256 < 256 := Nat.mod_lt _ (by omega)
      obtain ⟨y, hye⟩ : ∃ y, v / 2 ^ (8 * i) % 256 = y := ⟨_, rfl⟩
      rw [hye] at hy hyl HN
      clear hye
      go_wp2_with (at_builtin; go_must (refine wpList_push1 ByR.stable ByR.one sl_by (by rfl) (by rfl) (base := w.heap.size) (S := fun _ => True) (cs := #[.int .u8 (y : Int)]) (y := y) (by rfl) (by rfl) HO.out (by rfl) ⟨hyl, rfl⟩ (by unfold maxLen; omega) (by omega) hszr ?_); intro A8 c8 ug hc8 own9 hlt8 hb8 hat8; rw [← HN.out] at own9; have HO9 := Lib.hid own9; have HB9 := Lib.hid (HB.out.trans hb8); clear own9 hb8 hlt8 hat8)
      exact ⟨⟨i + 1, A8, c8, by omega, by go_num, rfl, HO9, HB9⟩, by simp [intOf]; omega⟩
    · have p1 : ¬ (i : Int) < (k : Int) := by omega
      obtain rfl : i = k := by omega
      go_wp2_with fail
      go_ret
      exact ⟨AO, cO, rfl, HO.out, HB.out⟩
end
section
def unN : List Nat → Nat
  | [] => 0
  | b :: bs => b + 256 * unN bs
theorem unN_lt : ∀ {l : List Nat}, Byt l → unN l < 2 ^ (8 * l.length)
  | [], _ => by show 0 < _; simp
  | b :: bs, h => by
    have h1 := unN_lt (l := bs) fun x hx => h x (List.mem_cons_of_mem _ hx)
    have h2 := h b (List.mem_cons_self ..)
    show b + 256 * unN bs < 2 ^ (8 * (bs.length + 1))
    rw [show 8 * (bs.length + 1) = 8 * bs.length + 8 by omega, Nat.pow_add]
    omega
theorem unN_snoc : ∀ (l : List Nat) (b : Nat), unN (l ++ [b]) = unN l + 2 ^ (8 * l.length) * b
  | [], b => by simp [unN]
  | a :: l, b => by
    show a + 256 * unN (l ++ [b]) = a + 256 * unN l + 2 ^ (8 * (l.length + 1)) * b
    rw [unN_snoc l b, show 8 * (l.length + 1) = 8 * l.length + 8 by omega, Nat.pow_add, Nat.mul_add]
    have : 256 * (2 ^ (8 * l.length) * b) = 2 ^ (8 * l.length) * 2 ^ 8 * b := by rw [Nat.mul_comm (2 ^ (8 * l.length)) (2 ^ 8), Nat.mul_assoc]
    omega
theorem or_bits64 {a c : Nat} (ha : a < 2 ^ 64) (hc : c < 2 ^ 64) : bits .or .u64 (a : Int) (c : Int) = ((a ||| c : Nat) : Int) := by
  unfold bits
  have h := Nat.or_lt_two_pow ha hc
  have e : (BitVec.ofInt 64 (a : Int) ||| BitVec.ofInt 64 (c : Int)).toNat = a ||| c := by
    rw [BitVec.toNat_or, BitVec.ofInt_natCast, BitVec.ofInt_natCast, BitVec.toNat_ofNat, BitVec.toNat_ofNat, Nat.mod_eq_of_lt ha, Nat.mod_eq_of_lt hc]
  show IntKind.u64.wrap ((BitVec.ofInt 64 (a : Int) ||| BitVec.ofInt 64 (c : Int)).toNat : Int) = _
  rw [e, IntKind.wrap_u64]
  omega
theorem get_step {ys : List Nat} {i : Nat} (hb : Byt ys) (hi : i < ys.length) (h8 : i < 8) : bits .or .u64 (unN (ys.take i) : Int) (IntKind.u64.wrap ((gt ys i : Int) * 2 ^ (8 * i))) = (unN (ys.take (i + 1)) : Int) := by
  have h1 := unN_lt (l := ys.take i) fun x hx => hb x (List.mem_of_mem_take hx)
  have hl : (ys.take i).length = i := by rw [List.length_take]; omega
  rw [hl] at h1
  have h2 := gt_lt hb i
  have h3 : 2 ^ (8 * i) * gt ys i < 2 ^ 64 := by
    have h4 : 2 ^ (8 * i) * gt ys i < 2 ^ (8 * i) * 2 ^ 8 := Nat.mul_lt_mul_of_pos_left h2 (Nat.two_pow_pos _)
    rw [← Nat.pow_add] at h4
    exact Nat.lt_of_lt_of_le h4 (Nat.pow_le_pow_right (by omega) (by omega))
  have h5 : 2 ^ (8 * i) ≤ 2 ^ 64 := Nat.pow_le_pow_right (by omega) (by omega)
  have e1 : ((gt ys i : Int) * 2 ^ (8 * i)) = ((2 ^ (8 * i) * gt ys i : Nat) : Int) := by push_cast; rw [Int.mul_comm]
  rw [e1, IntKind.wrap_u64, show (((2 ^ (8 * i) * gt ys i : Nat) : Int)) % 18446744073709551616 = ((2 ^ (8 * i) * gt ys i : Nat) : Int) by omega]
  rw [or_bits64 (by omega) h3, Nat.or_comm, ← Nat.two_pow_add_eq_or_of_lt h1, take_gt hi, unN_snoc, hl, Nat.add_comm]
set_option maxRecDepth 100000 in
set_option maxHeartbeats 4000000 in
theorem nget_any {w : World} {n c k a : Nat} {A : Option Addr} {S : Nat → Prop} {xs : List Nat} (R : RdL ByR 1 S w A n xs) (hnc : n ≤ c) (hn : n ≤ 4000) (k1 : 1 ≤ k) (k8 : k ≤ 8) (ha : a + k ≤ n) :
    Calls Tryz.prog 201 #[.slice A n c, .int .i64 (a : Int), .int .i64 (k : Int)] w fun e w' => e = .returned (.tuple #[.int .u64 (unN ((xs.drop a).take k) : Int), .int .i64 0]) ∧ w' = w := by
  obtain ⟨b, o, rfl, _, hb⟩ := R.addr (k := 0) (by omega)
  have HR := Lib.hid R
  have HX := Lib.hid R.1
  have HBY := Lib.hid (by_byt R)
  clear R
  have q0 : (k : Int) ≤ 8 := by omega
  have q1 : ¬ (k : Int) < 1 := by omega
  have q2 : ¬ (k : Int) > 8 := by omega
  have q3 : ¬ (a : Int) < 0 := by omega
  have q4 : ¬ (a : Int) > (n : Int) := by omega
  have q5 : ¬ (k : Int) > (n : Int) - (a : Int) := by omega
  have q6 : (n : Int) ≤ 4000 := by omega
  have q7 : (a : Int) ≤ 4000 := by omega
  go_enter Tryz.func201, Tryz.ntmps201
  go_wp2_with fail
  obtain ⟨ys, hys⟩ : ∃ ys, (xs.drop a).take k = ys := ⟨_, rfl⟩
  have hyl : ys.length = k := by rw [← hys, List.length_take, List.length_drop, HX.out]; omega
  have hyb : Byt ys := fun x hx => HBY.out x (by rw [← hys] at hx; exact List.mem_of_mem_drop (List.mem_of_mem_take hx))
  have hyg : ∀ i, i < k → gt ys i = gt xs (a + i) := fun i hi => by
    rw [← hys]
    unfold gt
    rw [List.getD_eq_getElem?_getD, List.getD_eq_getElem?_getD, List.getElem?_take, if_pos hi, List.getElem?_drop]
  have HYL := Lib.hid hyl
  have HYB := Lib.hid hyb
  have HYG := Lib.hid hyg
  have HYS := Lib.hid hys
  clear hys hyl hyb hyg
  go_loopw [8, 40] (fun vn vi wr => ∃ i : Nat, i ≤ k ∧ vi = .int .i64 i ∧ vn = .int .u64 (unN (ys.take i) : Nat) ∧ wr = w) (fun _ vi _ => k - (intOf vi).toNat)
  case atStart => exact ⟨0, Nat.zero_le _, rfl, rfl, rfl⟩
  case round =>
    obtain ⟨i, hi, rfl, rfl, hwr⟩ := hrel
    rw [hwr]
    clear hwr
    have p0 : (0 : Int) ≤ (i : Int) := Int.natCast_nonneg _
    by_cases hlt : i < k
    · have p1 : (i : Int) < (k : Int) := by omega
      have p2 : (i : Int) < 8 := by omega
      obtain ⟨v1, x1⟩ := by_at HR.out (k := a + i) (by omega)
      rw [← Nat.add_assoc, ← HYG.out i hlt] at v1
      rw [← HYG.out i hlt] at x1
      have HG := Lib.hid (get_step HYB.out (i := i) (by rw [HYL.out]; exact hlt) (by omega))
      go_wp2_with fail
      exact ⟨⟨i + 1, by omega, by go_num, by rw [HG.out], trivial⟩, by simp [intOf]; omega⟩
    · have p1 : ¬ (i : Int) < (k : Int) := by omega
      obtain rfl : k = i := by omega
      have HT := Lib.hid (show ys.take k = ys from List.take_of_length_le (by rw [HYL.out]; exact Nat.le_refl _))
      rw [HT.out]
      go_wp2_with fail
      go_ret2
      exact ⟨by rw [HYS.out]; rfl, rfl⟩
end
section
structure Shd where
  kind : Nat
  index : Nat
  place : Nat
  gen : Nat
  size : Nat
  body : List Nat
structure Shd.ok (x : Shd) : Prop where
  k : x.kind < 256
  i : x.index < 256
  p : x.place < 65536
  g : x.gen < 2 ^ 64
  s : x.size < 65536
  l : x.body.length = 44
  b : Byt x.body
def shV (x : Shd) : List Value := [.int .u8 (x.kind : Int), .int .u8 (x.index : Int), .int .u16 (x.place : Int), .int .u64 (x.gen : Int), .int .u16 (x.size : Int)] ++ x.body.map fun b : Nat => Value.int .u8 (b : Int)
def shC (x : Shd) : Array Value := (shV x).toArray
theorem shC_size {x : Shd} (h : x.body.length = 44) : (shC x).size = 49 := by unfold shC shV; simp [h]
theorem shC_0 (x : Shd) : (shC x)[0]? = some (.int .u8 (x.kind : Int)) := rfl
theorem shC_1 (x : Shd) : (shC x)[1]? = some (.int .u8 (x.index : Int)) := rfl
theorem shC_2 (x : Shd) : (shC x)[2]? = some (.int .u16 (x.place : Int)) := rfl
theorem shC_3 (x : Shd) : (shC x)[3]? = some (.int .u64 (x.gen : Int)) := rfl
theorem shC_4 (x : Shd) : (shC x)[4]? = some (.int .u16 (x.size : Int)) := rfl
theorem shC_b {x : Shd} {i : Nat} (h : i < x.body.length) : (shC x)[5 + i]? = some (.int .u8 (gt x.body i : Int)) := by
  unfold shC shV
  rw [List.getElem?_toArray, List.getElem?_append_right (by simp), show 5 + i - ([Value.int .u8 (x.kind : Int), .int .u8 (x.index : Int), .int .u16 (x.place : Int), .int .u64 (x.gen : Int), .int .u16 (x.size : Int)] : List Value).length = i by simp]
  rw [List.getElem?_map, gt_of_lt h]; rfl
def kindB (k : Nat) : Bool := decide (1 ≤ k ∧ k ≤ 4)
set_option maxRecDepth 100000 in
set_option maxHeartbeats 4000000 in
theorem kind_any {w : World} {k : Nat} : Calls Tryz.prog 204 #[.int .u8 (k : Int)] w fun e w' => e = .returned (.bool (kindB k)) ∧ w' = w := by
  go_enter Tryz.func204, Tryz.ntmps204
  by_cases h1 : (k : Int) ≥ 1
  · by_cases h2 : (k : Int) ≤ 4
    · have HK := Lib.hid (show kindB k = true from decide_eq_true (by omega))
      go_wp2_with fail
      go_ret
      exact ⟨congrArg (fun b => Ending.returned (.bool b)) HK.out.symm, rfl⟩
    · have HK := Lib.hid (show kindB k = false from decide_eq_false (by omega))
      go_wp2_with fail
      go_ret
      exact ⟨congrArg (fun b => Ending.returned (.bool b)) HK.out.symm, rfl⟩
  · have HK := Lib.hid (show kindB k = false from decide_eq_false (by omega))
    go_wp2_with fail
    go_ret
    exact ⟨congrArg (fun b => Ending.returned (.bool b)) HK.out.symm, rfl⟩
set_option maxRecDepth 100000 in
set_option maxHeartbeats 4000000 in
theorem head_any {w : World} {x : Shd} (hx : x.ok) : Calls Tryz.prog 213 #[.agg (shC x)] w fun e w' => ∃ h, e = .returned (.slice (some ⟨h, 0, none⟩) 6 6) ∧ w.heap.size ≤ h ∧
    BoxAt w' h #[.int .i64 1, .int .u64 (x.kind : Int), .int .i64 1, .int .u64 (x.index : Int), .int .i64 2, .int .u64 (x.place : Int), .int .i64 8, .int .u64 (x.gen : Int), .int .i64 2, .int .u64 (x.size : Int), .int .i64 2, .int .u64 0] ∧ Below w.heap.size w w' := by
  have c0 := shC_0 x
  have c1 := shC_1 x
  have c2 := shC_2 x
  have c3 := shC_3 x
  have c4 := shC_4 x
  have l0 := hx.k
  have l1 := hx.i
  have l2 := hx.p
  have l4 := hx.s
  have q0 : (0 : Int) ≤ (x.kind : Int) := Int.natCast_nonneg _
  have q1 : (0 : Int) ≤ (x.index : Int) := Int.natCast_nonneg _
  have q2 : (0 : Int) ≤ (x.place : Int) := Int.natCast_nonneg _
  have q4 : (0 : Int) ≤ (x.size : Int) := Int.natCast_nonneg _
  go_enter Tryz.func213, Tryz.ntmps213
  go_wp2_with fail
  go_ret
  refine ⟨_, rfl, by simp, ?_, ((Below.refl _ _).alloc (Nat.le_refl _) _).alloc (by rw [World.size_alloc]; omega) _⟩
  have hb := BoxAt.new (w.alloc (.cells (shC x) 193)) #[.int .i64 1, .int .u64 (x.kind : Int), .int .i64 1, .int .u64 (x.index : Int), .int .i64 2, .int .u64 (x.place : Int), .int .i64 8, .int .u64 (x.gen : Int), .int .i64 2, .int .u64 (x.size : Int), .int .i64 2, .int .u64 0] 294
  rw [World.size_alloc] at hb
  exact hb
end
section
theorem shut_loadS (a : Addr) : loadVar 193 a = shutLoad 193 a := rfl
theorem shSize : (Tryz.prog.info? 193).map (·.size) = some 49 := by kernel_rfl
theorem run_loadS {w : World} {p : Nat} {x : Shd} (hb : BoxAt w p (shC x)) (hl : x.body.length = 44) : (shutLoad 193 ⟨p, 0, none⟩).run Tryz.prog w = .ok (.agg (shC x)) w :=
  run_loadVar_mid (P := Tryz.prog) w p 0 193 (shV x) _ (fun j v hj => by rw [Nat.zero_add, hb.cell]; unfold shC; rw [List.getElem?_toArray]; exact hj) Tryz.underlying193 rfl (by rw [shSize]; simp [shV, hl])
attribute [local go_sem ↓] shut_loadS
theorem OwnL.low {w : World} {E : TypeId} {base base' n : Nat} {v : Value} {xs : List Nat} (h : OwnL ByR E 1 base (fun _ => True) w v n xs) (hb : base' ≤ base) : OwnL ByR E 1 base' (fun _ => True) w v n xs := by
  obtain ⟨css, h1, h2⟩ := h
  refine ⟨css, ⟨h1.1, ?_⟩, h2⟩
  rcases h1.2 with h3 | ⟨g, cap, cur, e, h4, h5⟩
  · exact .inl h3
  · exact .inr ⟨g, cap, cur, e, Nat.le_trans hb h4, h5⟩
def hdF (x : Shd) : List (Nat × Nat) := [(1, x.kind), (1, x.index), (2, x.place), (8, x.gen), (2, x.size), (2, 0)]
def sncU (x : Shd) (i : Nat) : List Nat := ((hdF x).take i).flatMap fun p => leN p.1 p.2
def sncH (x : Shd) : List Nat := sncU x 6
theorem sncU_next {x : Shd} {i k v : Nat} (h : (hdF x)[i]? = some (k, v)) : sncU x (i + 1) = sncU x i ++ leN k v := by
  unfold sncU
  rw [List.take_add_one, h, Option.toList_some, List.flatMap_append]; simp
theorem hd_at {x : Shd} (hx : x.ok) {w : World} {h : Nat} (hb : BoxAt w h #[.int .i64 1, .int .u64 (x.kind : Int), .int .i64 1, .int .u64 (x.index : Int), .int .i64 2, .int .u64 (x.place : Int), .int .i64 8, .int .u64 (x.gen : Int), .int .i64 2, .int .u64 (x.size : Int), .int .i64 2, .int .u64 0]) {i : Nat} (hi : i < 6) :
    ∃ k v, (hdF x)[i]? = some (k, v) ∧ 1 ≤ k ∧ k ≤ 8 ∧ v < 18446744073709551616 ∧ w.cell? ⟨h, i * 2, none⟩ = some (.int .i64 (k : Int)) ∧ w.cell? ⟨h, i * 2 + 1, none⟩ = some (.int .u64 (v : Int)) := by
  have h1 := hx.k
  have h2 := hx.i
  have h3 := hx.p
  have h4 := hx.g
  have h5 := hx.s
  obtain rfl | rfl | rfl | rfl | rfl | rfl : i = 0 ∨ i = 1 ∨ i = 2 ∨ i = 3 ∨ i = 4 ∨ i = 5 := by omega
  · exact ⟨_, _, rfl, by omega, by omega, by omega, hb.cell 0, hb.cell 1⟩
  · exact ⟨_, _, rfl, by omega, by omega, by omega, hb.cell 2, hb.cell 3⟩
  · exact ⟨_, _, rfl, by omega, by omega, by omega, hb.cell 4, hb.cell 5⟩
  · exact ⟨_, _, rfl, by omega, by omega, by omega, hb.cell 6, hb.cell 7⟩
  · exact ⟨_, _, rfl, by omega, by omega, by omega, hb.cell 8, hb.cell 9⟩
  · exact ⟨_, _, rfl, by omega, by omega, by omega, hb.cell 10, hb.cell 11⟩
theorem sncU_len (x : Shd) : ∀ i, i ≤ 6 → (sncU x i).length ≤ 48
  | 0, _ => by simp [sncU]
  | i + 1, h => by
    have : i = 0 ∨ i = 1 ∨ i = 2 ∨ i = 3 ∨ i = 4 ∨ i = 5 := by omega
    rcases this with rfl | rfl | rfl | rfl | rfl | rfl <;> simp [sncU, hdF, leN_len]
theorem sncH_len (x : Shd) : (sncH x).length = 16 := by simp [sncH, sncU, hdF, leN_len]
theorem sncH_byt (x : Shd) : Byt (sncH x) := fun y hy => by
  obtain ⟨p, _, hp⟩ := List.mem_flatMap.1 hy
  exact leN_byt _ _ y hp
/-- Sixty bytes. -/
def snc60 (x : Shd) : List Nat := sncH x ++ x.body
def sncS (x : Shd) : List Nat := snc60 x ++ leN 4 (csum (snc60 x))
theorem body_rd {x : Shd} (hx : x.ok) {w : World} {p : Nat} {t : Array Value} (hb : BoxAt w p t) (ht : t = shC x) {S : Nat → Prop} (hS : S p) : RdL ByR 1 S w (some ⟨p, 5, none⟩) 44 x.body := by
  subst ht
  refine ⟨hx.l, fun _ => ⟨p, 5, rfl, hS, hb.lt, fun i y hy => ?_⟩⟩
  have hi := (List.getElem?_eq_some_iff.1 hy).1
  refine ⟨[.int .u8 (y : Int)], rfl, ⟨hx.b y (List.mem_of_getElem? hy), rfl⟩, fun j v hj => ?_⟩
  rcases j with _ | j
  · simp at hj; subst hj
    rw [show 5 + i * 1 + 0 = 5 + i by omega, hb.cell, shC_b hi, (Option.some.inj ((gt_of_lt hi).symm.trans hy))]
  · simp at hj
set_option maxRecDepth 100000 in
set_option maxHeartbeats 8000000 in
theorem shput_any {w : World} {x : Shd} (hx : x.ok) : Calls Tryz.prog 180 #[.agg (shC x)] w fun e w' => Below w.heap.size w w' ∧
    ((kindB x.kind = false ∧ e = .returned (.tuple #[.slice none 0 0, .int .i64 2])) ∨
     (kindB x.kind = true ∧ ∃ A c, e = .returned (.tuple #[.slice A 64 c, .int .i64 0]) ∧ 64 ≤ c ∧ RdL ByR 1 (fun j => w.heap.size ≤ j) w' A 64 (sncS x))) := by
  have c0 := shC_0 x
  have hkd := fun w => kind_any (w := w) (k := x.kind)
  have b0 := BoxAt.new w (shC x) 193
  have hb0 : Below w.heap.size w (w.alloc (.cells (shC x) 193)) := (Below.refl _ _).alloc (Nat.le_refl _) _
  obtain ⟨B, hB⟩ : ∃ B, kindB x.kind = B := ⟨_, rfl⟩
  rw [hB] at hkd
  have HBB := Lib.hid hB
  clear hB
  go_enter Tryz.func180, Tryz.ntmps180
  go_wp2_with fail
  refine (hkd _).mono ?_
  rintro e w1 ⟨rfl, hw1⟩
  rw [hw1]
  clear hw1 hkd
  obtain ⟨wA, hwA⟩ : ∃ wA, w.alloc (.cells (shC x) 193) = wA := ⟨_, rfl⟩
  rw [hwA] at b0 hb0 ⊢
  clear hwA
  cases B with
  | false =>
    go_wp2_with fail
    go_ret2
    exact ⟨hb0, .inl ⟨HBB.out, rfl⟩⟩
  | true =>
    obtain ⟨p, hp⟩ : ∃ p, w.heap.size = p := ⟨_, rfl⟩
    rw [hp] at b0 ⊢
    have hlp := b0.lt
    have hld := run_loadS b0 hx.l
    have hhd := head_any (w := wA) hx
    go_wp2_with fail
    refine hhd.mono ?_
    rintro e w2 ⟨h, rfl, hh, bh, hb2⟩
    clear hhd hld
    have HX := Lib.hid hx
    have HP := Lib.hid (b0.below hb2)
    have HH := Lib.hid bh
    have HB2 := Lib.hid (hb0.trans (hb2.mono hb0.size))
    have hp2 : p + 1 ≤ w2.heap.size := by have := hb2.size; omega
    clear b0 bh hb2 hx c0
    go_wp2_with fail
    go_loopw [4, 14] (fun vs vi wr => ∃ (i n : Nat) (A : Option Addr) (c' : Nat), i ≤ 6 ∧ vi = .int .i64 i ∧ vs = .slice A n c' ∧ Hid (n = (sncU x i).length) ∧ Hid (OwnL ByR 5 1 (p + 1) (fun _ => True) wr (.slice A n c') n (sncU x i)) ∧ Hid (Below w2.heap.size w2 wr)) (fun _ vi _ => 6 - (intOf vi).toNat)
    case atStart => exact ⟨0, 0, none, 0, Nat.zero_le _, rfl, rfl, Lib.hid rfl, Lib.hid (by exact OwnL.nil_), Lib.hid (Below.refl _ _)⟩
    case round =>
      obtain ⟨i, n, AO, cO, hi, rfl, rfl, HN, HO, HB⟩ := hrel
      have p0 : (0 : Int) ≤ (i : Int) := Int.natCast_nonneg _
      by_cases hlt : i < 6
      · have p1 : (i : Int) < 6 := by omega
        obtain ⟨k, v, hkv, hk1, hk8, hv, v1, v2⟩ := hd_at HX.out (HH.out.below HB.out) hlt
        have hnx := sncU_next hkv
        have hnl := sncU_len x i hi
        obtain ⟨A', c', e, hcc, hr⟩ := HO.out.rd (S' := fun _ => True) (fun _ _ => trivial) (fun cs x hx => hx)
        injection e with e1 _ e2
        subst e1; subst e2
        have hn48 : n ≤ 48 := by rw [HN.out]; exact hnl
        have hnp := fun o => nput_any (w := wr.alloc o) (c := cO) (hr.alloc ByR.stable o) (by omega) hk1 hk8 hv
        have HNX := Lib.hid hnx
        have hszr := HB.out.size
        have hlk : (leN k v).length = k := leN_len k v
        have HLK := Lib.hid hlk
        clear hkv hr hnx hnl hv hlk
        go_wp2_with fail
        refine (hnp _).mono ?_
        clear hnp
        rintro e w5 ⟨A5, c5, rfl, ho5, hb5⟩
        rw [World.size_alloc] at ho5 hb5
        have ho6 := OwnL.low ho5 (base' := p + 1) (by omega)
        rw [← HNX.out] at ho6
        have HO6 := Lib.hid ho6
        have hb6 : Below w2.heap.size w2 w5 := HB.out.trans (((Below.refl wr.heap.size wr).alloc (Nat.le_refl _) (.cells #[.int .i64 (k : Int), .int .u64 (v : Int)] 294)).trans (hb5.mono (by omega)) |>.mono HB.out.size)
        have HB6 := Lib.hid hb6
        clear ho5 ho6 hb5 hb6
        go_wp2_with fail
        exact ⟨⟨i + 1, n + k, A5, c5, by omega, by go_num, rfl, Lib.hid (by rw [HNX.out, List.length_append, HLK.out, ← HN.out]), HO6, HB6⟩, by simp [intOf]; omega⟩
      · obtain rfl : i = 6 := by omega
        have hbp := HP.out.below HB.out
        have hbr := body_rd HX.out hbp rfl (S := fun _ => True) trivial
        have hn16 : n = 16 := by rw [HN.out]; exact sncH_len x
        subst hn16
        have HBR := Lib.hid hbr
        have hszr := HB.out.size
        have HBP := Lib.hid hbp
        clear hbr hbp
        go_wp2_with (at_builtin; go_must (refine wpList_appL ByR.stable ByR.one sl_by (by rfl) (by rfl) (base := p + 1) (S := fun _ => True) (by rfl) HO.out (by rfl) HBR.out (fun _ _ h => h) (by unfold maxLen; omega) (by omega) (by omega) ?_); intro A7 c7 w7 hc7 hown7 hg7 hat7; have hb7 : Below (p + 1) wr w7 := (Below.refl _ _).grown hg7 (by omega) (fun k hk => (HO.out.lt k hk).1); have HO7 := Lib.hid hown7; have HB7 := Lib.hid hb7; clear hown7 hg7 hat7 hb7)
        obtain ⟨A', c', e, hcc, hr⟩ := HO7.out.rd (S' := fun _ => True) (fun _ _ => trivial) (fun cs x hx => hx)
        injection e with e1 _ e2
        subst e1; subst e2
        have hby := by_byt hr
        have hcs := csum_any (cp := c7) hr (by omega)
        have hcl := csum_lt hby
        obtain ⟨y, hy⟩ : ∃ y, csum (sncU x 6 ++ x.body) = y := ⟨_, rfl⟩
        rw [hy] at hcs hcl
        have HY := Lib.hid hy
        have hnp := nput_any (c := c7) (k := 4) (v := y) hr (by omega) (by omega) (by omega) (by omega)
        have q0 : (0 : Int) ≤ (y : Int) := Int.natCast_nonneg _
        have q1 : (y : Int) < 4294967296 := by omega
        have hs7 : wr.heap.size ≤ w7.heap.size := HB7.out.size
        clear hy hr hby hcl
        push_cast at hnp
        go_wp2_with fail
        refine hcs.mono ?_
        clear hcs
        rintro e w9 ⟨rfl, hw9⟩
        rw [hw9]
        clear hw9
        go_wp2_with fail
        refine hnp.mono ?_
        clear hnp
        rintro e w9 ⟨A9, c9, rfl, ho9, hb9⟩
        obtain ⟨A', c', e, hcc, hr⟩ := ho9.rd (S' := fun j => p ≤ j) (fun j hj => by omega) (fun cs x hx => hx)
        injection e with e1 _ e2
        subst e1; subst e2
        have HR9 := Lib.hid hr
        have HC9 := Lib.hid hcc
        have hbw : Below w.heap.size w w9 := HB2.out.trans (((HB.out.mono HB2.out.size).trans (HB7.out.mono (by omega))).trans (hb9.mono (by omega)))
        have HBW := Lib.hid hbw
        clear hr hcc ho9 hb9 hbw
        go_wp2_with fail
        go_ret2
        refine ⟨HBW.out, .inr ⟨HBB.out, A9, c9, rfl, HC9.out, ?_⟩⟩
        have h9 := HR9.out
        rw [← HY.out] at h9
        rw [hp]
        exact h9
end
end Go.Proofs.YtihnlhfngmbglaaGreat
