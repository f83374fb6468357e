/-
  A scrubber: the first least one; which stripe is next.
  A scrubber comes to a stripe; a step.
  A scrubber's step.
  Drives that die and are replaced, stripes that are made anew; which is next; sums: plain.
  Law 31: whether stripes are few and short.
  Law 31: stripes that are laid.
  The page's example: a stripe with a dead drive.
  Law 31: the page's example.
  Law 31: steps come to stripes by their places, and how often that was.
  Law 31: a step where shards are missing.
  Law 31: ScrubTurns: the walk.
  Law 31: ScrubLost: the walk.
  Law 31: ScrubAll: plain.
  How many bits of a word are set: plain.
  Words of bits as places that are taken: plain.
  The map of places that are taken: the small questions, Set, Count.
  The map of places that are taken: New; the least free places.
  The least free places of the map.
  Least; a pool's small questions.
-/
import Derived.Test.YtihnlhfngmbglaaGreatAl11
import Derived.Test.YtihnlhfngmbglaaGreatAl10
import Derived.Test.YtihnlhfngmbglaaGreatAl4
import Derived.Test.YtihnlhfngmbglaaGreatAl1
import Derived.Test.YtihnlhfngmbglaaGreatRows
set_option linter.unusedSimpArgs false
set_option linter.unusedVariables false
namespace Go.Proofs.YtihnlhfngmbglaaGreat
open Go.RowKit Go.Cib
attribute [local go_sem] cell_set Later.cell Later.frozen Grw.cell Grw.frozen
section
set_option maxHeartbeats 4000000 in
theorem sleast_any {w : World} {S : Nat → Prop} {A : Option Addr} {n c : Nat} {xs : List RfI} (R : RdL RfIR 3 S w A n xs) (hn : n ≤ 1000000) {g : FuncId} {cap : Array Value} {is : Nat → Bool} (hgg : Hid (∀ args w, (callFunc g args).run Tryz.prog w = .ok (.enter g args) w))
    (hgi : Hid (∀ i x W, xs[i]? = some x → Below w.heap.size w W → Calls Tryz.prog g (#[.agg x.C] ++ cap) W fun e W' => e = .returned (.bool (is i)) ∧ Below W.heap.size W W')) :
    Calls Tryz.prog 114 #[.slice A n c, .func (.func g) #[] cap, .func (.func 113) #[.slice A n c] #[]] w fun e w' => e = .returned (.tuple #[.int .i64 ((lstF is (plF xs) n).1 : Nat), .bool (lstF is (plF xs) n).2]) ∧ Below w.heap.size w w' := by
  have g1 := hgg.out
  have g2 := call_sl
  have q0 : (n : Int) ≤ 1000000 := by omega
  have HR := Lib.hid R
  clear R
  go_enter Tryz.func114, Tryz.ntmps114
  go_wp2_with fail
  go_loopw [8, 9, 14] (fun vb vf vi wr => ∃ (i : Nat), i ≤ n ∧ vi = .int .i64 i ∧ vb = .int .i64 ((lstF is (plF xs) i).1 : Nat) ∧ vf = .bool (lstF is (plF xs) i).2 ∧ Hid (Below w.heap.size w wr)) (fun _ _ vi _ => n - (intOf vi).toNat)
  case atStart => exact ⟨0, Nat.zero_le _, rfl, rfl, rfl, Lib.hid (Below.refl _ _)⟩
  case round =>
    obtain ⟨i, hi, rfl, rfl, rfl, HB⟩ := hrel
    have p0 : (0 : Int) ≤ (i : Int) := Int.natCast_nonneg _
    by_cases hlt : i < n
    · have p1 : (i : Int) < (n : Int) := by omega
      have hle := lstF_le is (plF xs) i
      have HNX := Lib.hid (show lstF is (plF xs) (i + 1) = if is i = true ∧ ((lstF is (plF xs) i).2 = false ∨ plF xs i < plF xs (lstF is (plF xs) i).1) then (i, true) else lstF is (plF xs) i from rfl)
      have HLT := Lib.hid (lstF_lt is (plF xs) i)
      obtain ⟨⟨bi, bf⟩, hbi⟩ : ∃ y, lstF is (plF xs) i = y := ⟨_, rfl⟩
      rw [hbi] at HNX HLT hle ⊢
      dsimp only at HNX HLT hle ⊢
      have p2 : (bi : Int) ≤ (n : Int) := by omega
      have p3 : (0 : Int) ≤ (bi : Int) := Int.natCast_nonneg _
      obtain ⟨b, o, x, eA, hx, hbl, _, x0, x1, x2⟩ := rfi_at (HR.out.below RfIR.stable HB.out) hlt
      have hgi1 := fun W hW => hgi.out i x W hx hW
      have HR1 := Lib.hid (HR.out.below RfIR.stable HB.out)
      have hls := fun W (hW : Below w.heap.size w W) (hh : bi < n) => sless_any (c := c) (HR.out.below RfIR.stable hW) hn hlt hh
      subst eA
      have HBI := Lib.hid hbi
      obtain ⟨rk, rp, rg⟩ := x
      unfold RfI.C at hgi1
      dsimp only at hgi1 x0 x1 x2
      have hb1 : Below w.heap.size w (wr.alloc (.cells #[.int .u8 rk, .int .i64 rp, .int .u64 rg] 38)) := HB.out.alloc HB.out.size _
      clear hbi hx
      cases hii : is i with
      | false =>
        rw [hii] at hgi1
        rw [hii, if_neg (by simp)] at HNX
        clear hii
        go_wp2_with fail
        refine (hgi1 _ hb1).mono ?_
        clear hgi1
        rintro e w3 ⟨rfl, hb3⟩
        have HB3 := Lib.hid (hb1.trans (hb3.mono hb1.size))
        clear hb3 hb1 x0 x1 x2
        go_wp2_with fail
        exact ⟨⟨i + 1, by omega, by go_num, by rw [HNX.out], by rw [HNX.out], HB3⟩, by simp [intOf]; omega⟩
      | true =>
        rw [hii] at hgi1
        rw [hii] at HNX
        clear hii
        have h3 : (wr.alloc (.cells #[.int .u8 rk, .int .i64 rp, .int .u64 rg] 38)).cell? ⟨wr.heap.size, 0, none⟩ = some (.int .u8 rk) := by go_simp
        cases bf with
        | false =>
          rw [if_pos ⟨rfl, .inl rfl⟩] at HNX
          go_wp2_with fail
          refine (hgi1 _ hb1).mono ?_
          clear hgi1
          rintro e w3 ⟨rfl, hb3⟩
          have HB3 := Lib.hid (hb1.trans (hb3.mono hb1.size))
          clear hb3 hb1 x0 x1 x2
          go_wp2_with fail
          exact ⟨⟨i + 1, by omega, by go_num, by rw [HNX.out], by rw [HNX.out], HB3⟩, by simp [intOf]; omega⟩
        | true =>
          have hbn : bi < n := by have := HLT.out rfl; omega
          have hl1 := fun W hW => hls W hW hbn
          by_cases hpl : plF xs i < plF xs bi
          · rw [if_pos ⟨rfl, .inr hpl⟩] at HNX
            rw [decide_eq_true hpl] at hl1
            clear hpl hls
            go_wp2_with fail
            refine (hgi1 _ hb1).mono ?_
            clear hgi1
            rintro e w3 ⟨rfl, hb3⟩
            have hb4 := hb1.trans (hb3.mono hb1.size)
            clear hb3 hb1 x0 x1 x2
            go_wp2_with fail
            refine (hl1 _ hb4).mono ?_
            clear hl1
            rintro e w4 ⟨rfl, hb5⟩
            have HB5 := Lib.hid (hb4.trans (hb5.mono hb4.size))
            clear hb4 hb5
            go_wp2_with fail
            exact ⟨⟨i + 1, by omega, by go_num, by rw [HNX.out], by rw [HNX.out], HB5⟩, by simp [intOf]; omega⟩
          · rw [if_neg (by simp [hpl])] at HNX
            rw [decide_eq_false hpl] at hl1
            clear hpl hls
            go_wp2_with fail
            refine (hgi1 _ hb1).mono ?_
            clear hgi1
            rintro e w3 ⟨rfl, hb3⟩
            have hb4 := hb1.trans (hb3.mono hb1.size)
            clear hb3 hb1 x0 x1 x2
            go_wp2_with fail
            refine (hl1 _ hb4).mono ?_
            clear hl1
            rintro e w4 ⟨rfl, hb5⟩
            have HB5 := Lib.hid (hb4.trans (hb5.mono hb4.size))
            clear hb4 hb5
            go_wp2_with fail
            exact ⟨⟨i + 1, by omega, by go_num, by rw [HNX.out], by rw [HNX.out], HB5⟩, by simp [intOf]; omega⟩
    · have p1 : ¬ (i : Int) < (n : Int) := by omega
      obtain rfl : i = n := by omega
      go_wp2_with fail
      go_ret2
      exact ⟨rfl, HB.out⟩
def aboveF (began : Bool) (place : Int) (xs : List RfI) (i : Nat) : Bool := !began || decide (plF xs i > place)
/-- Which is next: its number. -/
def nextN (began : Bool) (place : Int) (xs : List RfI) : Option Nat :=
  if (lstF (aboveF began place xs) (plF xs) xs.length).2 = true then some (lstF (aboveF began place xs) (plF xs) xs.length).1
  else if (lstF (fun _ => true) (plF xs) xs.length).2 = true then some (lstF (fun _ => true) (plF xs) xs.length).1 else none
def nextR (began : Bool) (place : Int) (xs : List RfI) : RfI × Bool :=
  match nextN began place xs with
  | some i => (xs.getD i RfI.none_, true)
  | none => (RfI.none_, false)
theorem snone_any {w : World} {s : Nat} {began : Bool} {place turns : Int} (hs : BoxAt w s (scrC began place turns)) :
    Calls Tryz.prog 82 #[.pointer (some ⟨s, 0, none⟩)] w fun e w' => e = .returned (.bool false) ∧ w' = w := by
  have s0 : w.cell? ⟨s, 0, none⟩ = some (.bool true) := hs.cell 0
  clear hs
  go_enter Tryz.func82, Tryz.ntmps82
  go_wp2_with fail
  go_ret
  exact ⟨rfl, rfl⟩
theorem sturns_any {w : World} {s : Nat} {began : Bool} {place turns : Int} (hs : BoxAt w s (scrC began place turns)) :
    Calls Tryz.prog 39 #[.pointer (some ⟨s, 0, none⟩)] w fun e w' => e = .returned (.int .i64 turns) ∧ w' = w := by
  have s3 : w.cell? ⟨s, 3, none⟩ = some (.int .i64 turns) := hs.cell 3
  have hn := snone_any hs
  clear hs
  go_enter Tryz.func39, Tryz.ntmps39
  go_wp2_with fail
  refine hn.mono ?_
  clear hn
  rintro e w1 ⟨rfl, h1⟩
  subst h1
  go_wp2_with fail
  go_ret
  exact ⟨rfl, rfl⟩
theorem snew_any {w : World} : Calls Tryz.prog 37 #[] w fun e w' => ∃ s, e = .returned (.pointer (some ⟨s, 0, none⟩)) ∧ w.heap.size ≤ s ∧ BoxAt w' s (scrC false 0 0) ∧ Below w.heap.size w w' := by
  go_enter Tryz.func37, Tryz.ntmps37
  go_wp2_with fail
  go_ret
  exact ⟨_, rfl, Nat.le_refl _, BoxAt.new _ _ _, (by repeat (first | (with_reducible exact Below.refl _ _) | (with_reducible assumption) | (with_reducible refine Below.drew ?_) | (with_reducible refine Below.setCell ?_ ?_ _) | (with_reducible refine Below.alloc ?_ ?_ _) | (with_reducible refine Below.later ?_ ?_ _) | (first | (with_reducible exact Nat.le_refl _) | omega | (simp only [World.size_alloc, World.size_setCell, World.size_drew] <;> omega))))⟩
set_option maxHeartbeats 4000000 in
theorem snext_any {w : World} {s : Nat} {began : Bool} {place turns : Int} {S : Nat → Prop} {A : Option Addr} {n c : Nat} {xs : List RfI} (hs : BoxAt w s (scrC began place turns)) (R : RdL RfIR 3 S w A n xs) (hn : n ≤ 1000000) (hnc : n ≤ c) :
    Calls Tryz.prog 52 #[.pointer (some ⟨s, 0, none⟩), .slice A n c] w fun e w' => e = .returned (.tuple #[.agg (nextR began place xs).1.C, .bool (nextR began place xs).2]) ∧ Below w.heap.size w w' := by
  have hno := fun W (hW : Below w.heap.size w W) => snone_any (hs.below hW)
  have hxl := R.1
  obtain ⟨W, hW⟩ : ∃ W, (w.alloc (.cells #[.pointer (some ⟨s, 0, none⟩)] 63)).alloc (.cells #[.int .u8 0, .int .i64 0, .int .u64 0] 38) = W := ⟨_, rfl⟩
  have hb0 : Below w.heap.size w W := by rw [← hW]; exact (by repeat (first | (with_reducible exact Below.refl _ _) | (with_reducible assumption) | (with_reducible refine Below.drew ?_) | (with_reducible refine Below.setCell ?_ ?_ _) | (with_reducible refine Below.alloc ?_ ?_ _) | (with_reducible refine Below.later ?_ ?_ _) | (first | (with_reducible exact Nat.le_refl _) | omega | (simp only [World.size_alloc, World.size_setCell, World.size_drew] <;> omega))))
  have bP : BoxAt W w.heap.size #[.pointer (some ⟨s, 0, none⟩)] := by rw [← hW]; exact (BoxAt.new w _ _).alloc _
  have bN : BoxAt W (w.heap.size + 1) #[.int .u8 0, .int .i64 0, .int .u64 0] := by
    rw [← hW]
    have := BoxAt.new (w.alloc (.cells #[.pointer (some ⟨s, 0, none⟩)] 63)) #[.int .u8 0, .int .i64 0, .int .u64 0] 38
    rwa [World.size_alloc] at this
  obtain ⟨q, hq⟩ : ∃ q, w.heap.size = q := ⟨_, rfl⟩
  have hs1 : w.heap.size ≤ q := by omega
  have HNO := Lib.hid (hno W hb0)
  have g1 := call_sn1
  have g2 := call_sn2
  have HB0 := Lib.hid hb0
  have HS := Lib.hid (hs.below hb0)
  have HR := Lib.hid (R.below RfIR.stable hb0)
  have HXL := Lib.hid hxl
  rw [hq] at bP bN
  have HQ := Lib.hid hq
  have BN := Lib.hid bN
  have BP := Lib.hid bP
  have h1 : (w.alloc (.cells #[.pointer (some ⟨s, 0, none⟩)] 63)).heap.size = q + 1 := by rw [World.size_alloc, hq]
  have HL1 := Lib.hid (sleast_any (c := c) (g := 115) (cap := #[.pointer (some ⟨q, 0, none⟩)]) (is := aboveF began place xs) HR.out hn (Lib.hid call_sn1) (Lib.hid fun i x W2 hx hW2 => by
    have := sn1_any (r := x) (BP.out.below hW2) (HS.out.below hW2)
    unfold aboveF
    rw [plF_at hx]
    exact this))
  have HL2 := Lib.hid (fun W2 (hW2 : Below W.heap.size W W2) => sleast_any (c := c) (g := 116) (cap := #[]) (is := fun _ => true) (HR.out.below RfIR.stable hW2) hn (Lib.hid call_sn2) (Lib.hid fun i x W3 hx hW3 => sn2_any))
  have HN := Lib.hid (show nextN began place xs = if (lstF (aboveF began place xs) (plF xs) n).2 = true then some (lstF (aboveF began place xs) (plF xs) n).1
  else if (lstF (fun _ => true) (plF xs) n).2 = true then some (lstF (fun _ => true) (plF xs) n).1 else none by unfold nextN; rw [hxl])
  have HLT1 := Lib.hid (lstF_lt (aboveF began place xs) (plF xs) n)
  have HLT2 := Lib.hid (lstF_lt (fun _ => true) (plF xs) n)
  clear hno hxl hb0 bP bN hs R hs1
  have k0 : W.cell? ⟨q, 0, none⟩ = some (.pointer (some ⟨s, 0, none⟩)) := BP.out.cell 0
  go_enter Tryz.func52, Tryz.ntmps52
  go_wp2_with fail
  refine HNO.out.mono ?_
  clear HNO
  rintro e w1 ⟨rfl, h1⟩
  subst h1
  obtain ⟨⟨l1, o1⟩, hl1⟩ : ∃ y, lstF (aboveF began place xs) (plF xs) n = y := ⟨_, rfl⟩
  rw [hl1] at HL1 HN HLT1
  obtain ⟨⟨l2, o2⟩, hl2⟩ : ∃ y, lstF (fun _ => true) (plF xs) n = y := ⟨_, rfl⟩
  rw [hl2] at HN HLT2
  clear hl1
  have HL2e := Lib.hid hl2
  clear hl2
  dsimp only at HN HLT1 HLT2
  cases o1 with
  | true =>
    rw [if_pos rfl] at HN
    go_wp2_with fail
    refine HL1.out.mono ?_
    clear HL1
    rintro e w2 ⟨rfl, hb2⟩
    have hl := HLT1.out trivial
    obtain ⟨b, o, x, eA, hx, hbl, _, x0, x1, x2⟩ := rfi_at (HR.out.below RfIR.stable hb2) hl
    subst eA
    have p0 : (0 : Int) ≤ (l1 : Int) := Int.natCast_nonneg _
    have p1 : (l1 : Int) < (n : Int) := by omega
    have bN2 := BN.out.below hb2
    have n0 := bN2.cell 0
    have n1 := bN2.cell 1
    have n2 := bN2.cell 2
    have z0 := bN2.frozen 0
    have z1 := bN2.frozen 1
    have z2 := bN2.frozen 2
    have HE := Lib.hid (show nextR began place xs = (x, true) by unfold nextR; rw [HN.out]; dsimp only; rw [List.getD_eq_getElem?_getD, hx]; rfl)
    have HB2 := Lib.hid (HB0.out.trans (hb2.mono HB0.out.size))
    obtain ⟨rk, rp, rg⟩ := x
    dsimp only at x0 x1 x2
    clear hx hb2 bN2 hl
    go_wp2_with fail
    refine bodyPost_ret (v := .tuple #[.agg #[.int .u8 rk, .int .i64 rp, .int .u64 rg], .bool true]) (by simp [results, Tryz.results52, go_sem, *]) rfl ?_
    rw [HE.out]
    refine ⟨rfl, ?_⟩
    refine Below.setCell (Below.setCell (Below.setCell HB2.out ?_ _) ?_ _) ?_ _ <;> (show _ ≤ q + 1; have := HQ.out; omega)
  | false =>
    rw [if_neg (by simp)] at HN
    go_wp2_with fail
    refine HL1.out.mono ?_
    clear HL1
    rintro e w2 ⟨rfl, hb2⟩
    have hL2 := HL2.out w2 hb2
    rw [HL2e.out] at hL2
    cases o2 with
    | true =>
      rw [if_pos rfl] at HN
      go_wp2_with fail
      refine hL2.mono ?_
      clear hL2
      rintro e w3 ⟨rfl, hb3⟩
      have hb23 := hb2.trans (hb3.mono hb2.size)
      clear hb2 hb3
      have hl := HLT2.out trivial
      obtain ⟨b, o, x, eA, hx, hbl, _, x0, x1, x2⟩ := rfi_at (HR.out.below RfIR.stable hb23) hl
      subst eA
      have p0 : (0 : Int) ≤ (l2 : Int) := Int.natCast_nonneg _
      have p1 : (l2 : Int) < (n : Int) := by omega
      have bN2 := BN.out.below hb23
      have n0 := bN2.cell 0
      have n1 := bN2.cell 1
      have n2 := bN2.cell 2
      have z0 := bN2.frozen 0
      have z1 := bN2.frozen 1
      have z2 := bN2.frozen 2
      have HE := Lib.hid (show nextR began place xs = (x, true) by unfold nextR; rw [HN.out]; dsimp only; rw [List.getD_eq_getElem?_getD, hx]; rfl)
      have HB2 := Lib.hid (HB0.out.trans (hb23.mono HB0.out.size))
      obtain ⟨rk, rp, rg⟩ := x
      dsimp only at x0 x1 x2
      clear hx hb23 bN2 hl
      go_wp2_with fail
      refine bodyPost_ret (v := .tuple #[.agg #[.int .u8 rk, .int .i64 rp, .int .u64 rg], .bool true]) (by simp [results, Tryz.results52, go_sem, *]) rfl ?_
      rw [HE.out]
      refine ⟨rfl, ?_⟩
      refine Below.setCell (Below.setCell (Below.setCell HB2.out ?_ _) ?_ _) ?_ _ <;> (show _ ≤ q + 1; have := HQ.out; omega)
    | false =>
      rw [if_neg (by simp)] at HN
      have HE := Lib.hid (show nextR began place xs = (RfI.none_, false) by unfold nextR; rw [HN.out])
      go_wp2_with fail
      refine hL2.mono ?_
      clear hL2
      rintro e w3 ⟨rfl, hb3⟩
      have hb23 := hb2.trans (hb3.mono hb2.size)
      clear hb2 hb3
      have bN2 := BN.out.below hb23
      have n0 := bN2.cell 0
      have n1 := bN2.cell 1
      have n2 := bN2.cell 2
      have z0 := bN2.frozen 0
      have z1 := bN2.frozen 1
      have z2 := bN2.frozen 2
      have HB2 := Lib.hid (HB0.out.trans (hb23.mono HB0.out.size))
      clear hb23 bN2
      go_wp2_with fail
      refine bodyPost_ret (v := .tuple #[.agg #[.int .u8 0, .int .i64 0, .int .u64 0], .bool false]) (by simp [results, Tryz.results52, go_sem, *]) rfl ?_
      rw [HE.out]
      refine ⟨rfl, ?_⟩
      refine Below.setCell (Below.setCell (Below.setCell HB2.out ?_ _) ?_ _) ?_ _ <;> (show _ ≤ q + 1; have := HQ.out; omega)
end
section
theorem Keep.drw {F : Nat → Prop} {a w : World} (h : Keep F a w) : Keep F a w.drew := h.trans (Keep.of_below (F := F) (Below.refl _ _).drew) (fun _ h _ => h)
def comeT (began : Bool) (place turns : Int) (r : RfI) : Int := if began = true ∧ r.place ≤ place then turns + 1 else turns
set_option maxHeartbeats 4000000 in
theorem scome_any {w : World} {s : Nat} {began : Bool} {place turns : Int} {r : RfI} (hs : BoxAt w s (scrC began place turns)) (ht : 0 ≤ turns ∧ turns < 1000000) :
    Calls Tryz.prog 84 #[.pointer (some ⟨s, 0, none⟩), .agg r.C] w fun e w' => e = .returned (.tuple #[]) ∧ BoxAt w' s (scrC true r.place (comeT began place turns r)) ∧ Keep (fun j => j = s) w w' := by
  obtain ⟨t0, t1⟩ := ht
  obtain ⟨rk, rp, rg⟩ := r
  have hsl := hs.lt
  obtain ⟨W, hW⟩ : ∃ W, w.alloc (.cells #[.int .u8 rk, .int .i64 rp, .int .u64 rg] 38) = W := ⟨_, rfl⟩
  have bR : BoxAt W w.heap.size #[.int .u8 rk, .int .i64 rp, .int .u64 rg] := by rw [← hW]; exact BoxAt.new _ _ _
  have bS : BoxAt W s (scrC began place turns) := by rw [← hW]; exact hs.alloc _
  have hk0 : Keep (fun j => j = s) w W := by rw [← hW]; exact (Keep.refl _ _).alloc _
  obtain ⟨q, hq⟩ : ∃ q, w.heap.size = q := ⟨_, rfl⟩
  have hsq : s < q := by omega
  have hne : q ≠ s := by omega
  rw [hq] at bR
  have HK0 := Lib.hid hk0
  have BS := Lib.hid bS
  have k1 : W.cell? ⟨q, 1, none⟩ = some (.int .i64 rp) := bR.cell 1
  have s1 : W.cell? ⟨s, 1, none⟩ = some (.bool began) := bS.cell 1
  have s2 : W.cell? ⟨s, 2, none⟩ = some (.int .i64 place) := bS.cell 2
  have s3 : W.cell? ⟨s, 3, none⟩ = some (.int .i64 turns) := bS.cell 3
  have z1 := bS.frozen 1
  have z2 := bS.frozen 2
  have z3 := bS.frozen 3
  have hsW := bS.lt
  have hqW := bR.lt
  unfold RfI.C comeT
  dsimp only
  clear bR bS hk0 hs hsl
  cases began with
  | false =>
    rw [if_neg (by simp)]
    go_enter Tryz.func84, Tryz.ntmps84
    go_wp2_with fail
    refine wp_region_later (by kernel_rfl) (by kernel_rfl) ?_
    repeat (go_big_quiet_step (fail))
    refine wpQuiet_nil ?_
    rintro _ ⟨z, rfl⟩
    go_wp2_with fail
    obtain ⟨V, hV⟩ : ∃ V, z.to = V := ⟨_, rfl⟩
    have bV : BoxAt V s (scrC false place turns) := by rw [← hV]; exact BS.out.below z.ok
    have v1 : V.cell? ⟨q, 1, none⟩ = some (.int .i64 rp) := by rw [← hV]; exact (z.cell hqW).trans k1
    have HKV := Lib.hid (show Keep (fun j => j = s) w V by rw [← hV]; exact HK0.out.trans (Keep.of_below (F := fun j => j = s) z.ok) (fun k h _ => h))
    rw [hV]
    have BV := Lib.hid bV
    have c1 : V.cell? ⟨s, 1, none⟩ = some (.bool false) := bV.cell 1
    have c2 : V.cell? ⟨s, 2, none⟩ = some (.int .i64 place) := bV.cell 2
    have f1 := bV.frozen 1
    have f2 := bV.frozen 2
    clear hV k1 s1 s2 s3 z1 z2 z3 bV
    refine wp_region_held_drew (S := fun w' => w'.cell? ⟨q, 1, none⟩ = some (.int .i64 rp)) (by kernel_rfl) (by first | exact v1 | go_simp) (fun hHeld => ?_)
    refine tkH 0 rfl ?_
    refine tkH 1 rfl ?_
    refine tkH 2 rfl ?_
    refine tkH 3 rfl ?_
    refine tkH 4 rfl ?_
    refine tkH 5 rfl ?_
    refine rdH 6 rfl fun K hK => ?_
    try simp (maxSteps := 2000000) only [zz1, zz2, zz3]
    go_simp
    refine hK.out _ _ (by first | exact v1 | go_simp) (fun hHeld => ?_)
    clear hK K
    try simp (maxSteps := 2000000) only [zz1, zz2, zz3, Act.put, zz4, zz5, zz6]
    refine tkH 7 rfl ?_
    refine tkH 8 rfl ?_
    refine rdH 9 rfl fun K hK => ?_
    try simp (maxSteps := 2000000) only [zz1, zz2, zz3]
    go_simp
    refine hK.out _ _ (by first | exact v1 | go_simp) (fun hHeld => ?_)
    clear hK K
    try simp (maxSteps := 2000000) only [zz1, zz2, zz3, Act.put, zz4, zz5, zz6]
    refine wpAnyH_done (by kernel_rfl) ?_ _
    go_wp2_with fail
    go_end0
    refine ⟨rfl, ?_, ?_⟩
    · exact ((BV.out.set 1 (.bool true)).set 2 (.int .i64 rp)).keep rfl
    · exact Keep.drw (Keep.setCell (p := ⟨s, 2, none⟩) (Keep.setCell (p := ⟨s, 1, none⟩) HKV.out (fun _ => rfl) _) (fun _ => rfl) _)
  | true =>
    by_cases hle : rp ≤ place
    · rw [if_pos ⟨rfl, hle⟩]
      go_enter Tryz.func84, Tryz.ntmps84
      go_wp2_with fail
      refine wp_region_later (by kernel_rfl) (by kernel_rfl) ?_
      repeat (go_big_quiet_step (fail))
      refine wpQuiet_nil ?_
      rintro _ ⟨z, rfl⟩
      go_wp2_with fail
      obtain ⟨V, hV⟩ : ∃ V, z.to.setCell ⟨s, 3, none⟩ (.int .i64 (turns + 1)) = V := ⟨_, rfl⟩
      have bV : BoxAt V s (scrC true place (turns + 1)) := by rw [← hV]; exact (BS.out.below z.ok).set 3 _
      have v1 : V.cell? ⟨q, 1, none⟩ = some (.int .i64 rp) := by rw [← hV]; rw [cell_set, if_neg (by omega)]; exact (z.cell hqW).trans k1
      have HKV := Lib.hid (show Keep (fun j => j = s) w V by rw [← hV]; exact Keep.setCell (p := ⟨s, 3, none⟩) (HK0.out.trans (Keep.of_below (F := fun j => j = s) z.ok) (fun k h _ => h)) (fun _ => rfl) _)
      rw [hV]
      have BV := Lib.hid bV
      have c1 : V.cell? ⟨s, 1, none⟩ = some (.bool true) := bV.cell 1
      have c2 : V.cell? ⟨s, 2, none⟩ = some (.int .i64 place) := bV.cell 2
      have f1 := bV.frozen 1
      have f2 := bV.frozen 2
      clear hV k1 s1 s2 s3 z1 z2 z3 bV
      refine wp_region_held_drew (S := fun w' => w'.cell? ⟨q, 1, none⟩ = some (.int .i64 rp)) (by kernel_rfl) (by first | exact v1 | go_simp) (fun hHeld => ?_)
      refine tkH 0 rfl ?_
      refine tkH 1 rfl ?_
      refine tkH 2 rfl ?_
      refine tkH 3 rfl ?_
      refine tkH 4 rfl ?_
      refine tkH 5 rfl ?_
      refine rdH 6 rfl fun K hK => ?_
      try simp (maxSteps := 2000000) only [zz1, zz2, zz3]
      go_simp
      refine hK.out _ _ (by first | exact v1 | go_simp) (fun hHeld => ?_)
      clear hK K
      try simp (maxSteps := 2000000) only [zz1, zz2, zz3, Act.put, zz4, zz5, zz6]
      refine tkH 7 rfl ?_
      refine tkH 8 rfl ?_
      refine rdH 9 rfl fun K hK => ?_
      try simp (maxSteps := 2000000) only [zz1, zz2, zz3]
      go_simp
      refine hK.out _ _ (by first | exact v1 | go_simp) (fun hHeld => ?_)
      clear hK K
      try simp (maxSteps := 2000000) only [zz1, zz2, zz3, Act.put, zz4, zz5, zz6]
      refine wpAnyH_done (by kernel_rfl) ?_ _
      go_wp2_with fail
      go_end0
      refine ⟨rfl, ?_, ?_⟩
      · exact ((BV.out.set 1 (.bool true)).set 2 (.int .i64 rp)).keep rfl
      · exact Keep.drw (Keep.setCell (p := ⟨s, 2, none⟩) (Keep.setCell (p := ⟨s, 1, none⟩) HKV.out (fun _ => rfl) _) (fun _ => rfl) _)
    · rw [if_neg (by simp [hle])]
      go_enter Tryz.func84, Tryz.ntmps84
      go_wp2_with fail
      refine wp_region_later (by kernel_rfl) (by kernel_rfl) ?_
      repeat (go_big_quiet_step (fail))
      refine wpQuiet_nil ?_
      rintro _ ⟨z, rfl⟩
      go_wp2_with fail
      obtain ⟨V, hV⟩ : ∃ V, z.to = V := ⟨_, rfl⟩
      have bV : BoxAt V s (scrC true place turns) := by rw [← hV]; exact BS.out.below z.ok
      have v1 : V.cell? ⟨q, 1, none⟩ = some (.int .i64 rp) := by rw [← hV]; exact (z.cell hqW).trans k1
      have HKV := Lib.hid (show Keep (fun j => j = s) w V by rw [← hV]; exact HK0.out.trans (Keep.of_below (F := fun j => j = s) z.ok) (fun k h _ => h))
      rw [hV]
      have BV := Lib.hid bV
      have c1 : V.cell? ⟨s, 1, none⟩ = some (.bool true) := bV.cell 1
      have c2 : V.cell? ⟨s, 2, none⟩ = some (.int .i64 place) := bV.cell 2
      have f1 := bV.frozen 1
      have f2 := bV.frozen 2
      clear hV k1 s1 s2 s3 z1 z2 z3 bV
      refine wp_region_held_drew (S := fun w' => w'.cell? ⟨q, 1, none⟩ = some (.int .i64 rp)) (by kernel_rfl) (by first | exact v1 | go_simp) (fun hHeld => ?_)
      refine tkH 0 rfl ?_
      refine tkH 1 rfl ?_
      refine tkH 2 rfl ?_
      refine tkH 3 rfl ?_
      refine tkH 4 rfl ?_
      refine tkH 5 rfl ?_
      refine rdH 6 rfl fun K hK => ?_
      try simp (maxSteps := 2000000) only [zz1, zz2, zz3]
      go_simp
      refine hK.out _ _ (by first | exact v1 | go_simp) (fun hHeld => ?_)
      clear hK K
      try simp (maxSteps := 2000000) only [zz1, zz2, zz3, Act.put, zz4, zz5, zz6]
      refine tkH 7 rfl ?_
      refine tkH 8 rfl ?_
      refine rdH 9 rfl fun K hK => ?_
      try simp (maxSteps := 2000000) only [zz1, zz2, zz3]
      go_simp
      refine hK.out _ _ (by first | exact v1 | go_simp) (fun hHeld => ?_)
      clear hK K
      try simp (maxSteps := 2000000) only [zz1, zz2, zz3, Act.put, zz4, zz5, zz6]
      refine wpAnyH_done (by kernel_rfl) ?_ _
      go_wp2_with fail
      go_end0
      refine ⟨rfl, ?_, ?_⟩
      · exact ((BV.out.set 1 (.bool true)).set 2 (.int .i64 rp)).keep rfl
      · exact Keep.drw (Keep.setCell (p := ⟨s, 2, none⟩) (Keep.setCell (p := ⟨s, 1, none⟩) HKV.out (fun _ => rfl) _) (fun _ => rfl) _)
end
section
/-- The drives behind a step. -/
def stepQ (e : Int) (sts : List DSt) : List DSt := if e = 0 then sts.map flushG else sts
theorem keep3 (w : World) (q : Nat) (u0 u1 u2 : Value) : Keep (fun j => j = q) w (((w.setCell ⟨q, 0, none⟩ u0).setCell ⟨q, 1, none⟩ u1).setCell ⟨q, 2, none⟩ u2) :=
  Keep.setCell (F := fun j => j = q) (p := ⟨q, 2, none⟩) (Keep.setCell (F := fun j => j = q) (p := ⟨q, 1, none⟩) (Keep.setCell (F := fun j => j = q) (p := ⟨q, 0, none⟩) (Keep.refl _ _) (fun _ => rfl) _) (fun _ => rfl) _) (fun _ => rfl) _
theorem mx_out {X : Nat → Prop} {w0 w w8 w9 : World} {a cb bf k m n s q p : Nat} {sts : List DSt} {cs : Array Value} (h : MX (fun j => ((X j ∨ j = s) ∨ j = q) ∨ j = p) w0 w8 a cb bf k m n sts) (hK : Keep (fun j => j = q) w8 w9) (hk : KpX X w w8) (bS : BoxAt w8 s cs) (hsq : s < q) (h0q : w0.heap.size ≤ q) (hX : ∀ j, X j → j < q) :
    MX (fun j => X j ∨ j = s) w0 w9 a cb bf k m n sts ∧ KpX X w w9 ∧ BoxAt w9 s cs := by
  refine ⟨(h.own hK fun j hj => by rw [hj]; exact ⟨.inl (.inr rfl), h0q⟩).sub fun j hj => .inl (.inl hj), hk.trans ⟨fun j hj => hK.block j (h.lt (.inl (.inl (.inl hj)))) (by have := hX j hj; omega), hK.size⟩, bS.keeps hK (by omega)⟩
set_option maxRecDepth 100000 in
set_option maxHeartbeats 16000000 in
theorem sstep_any {X : Nat → Prop} {w0 w : World} {a cb bf k m n : Nat} {sts sts1 : List DSt} {s : Nat} {began : Bool} {place turns : Int} {S : Nat → Prop} {A : Option Addr} {nl c : Nat} {xs : List RfI} {cn er : Int}
    (hM : MX (fun j => X j ∨ j = s) w0 w a cb bf k m n sts) (hs : BoxAt w s (scrC began place turns)) (hsX : ¬ X s) (hs0 : w0.heap.size ≤ s) (R : RdL RfIR 3 S w A nl xs) (hn : nl ≤ 1000000) (hnc : nl ≤ c) (ht : 0 ≤ turns ∧ turns < 1000000)
    (hok : (nextR began place xs).2 = true) (hcl : er = 0 → ∀ st ∈ sts1, st.cache.length < 1000000)
    (hmd : Hid (∀ (Y : Nat → Prop) W, MX Y w0 W a cb bf k m n sts → Calls Tryz.prog 85 #[.pointer (some ⟨a, 0, none⟩), .pointer (some ⟨cb, 0, none⟩), .agg (nextR began place xs).1.C] W fun e W' => e = .returned (.tuple #[.int .i64 cn, .int .i64 er]) ∧ MX Y w0 W' a cb bf k m n sts1 ∧ KpX Y W W')) :
    Calls Tryz.prog 38 #[.pointer (some ⟨s, 0, none⟩), .pointer (some ⟨a, 0, none⟩), .pointer (some ⟨cb, 0, none⟩), .slice A nl c] w fun e w' =>
      e = .returned (.tuple #[.agg (nextR began place xs).1.C, .int .i64 cn, .int .i64 er]) ∧ MX (fun j => X j ∨ j = s) w0 w' a cb bf k m n (stepQ er sts1) ∧ KpX X w w' ∧ BoxAt w' s (scrC true (nextR began place xs).1.place (comeT began place turns (nextR began place xs).1)) := by
  have hp := hM.pos
  have hno := fun W (hW : Below w.heap.size w W) => snone_any (hs.below hW)
  have hnx := fun W (hW : Below w.heap.size w W) => snext_any (c := c) (hs.below hW) (R.below RfIR.stable hW) hn hnc
  obtain ⟨⟨r, ok⟩, hr⟩ : ∃ y, nextR began place xs = y := ⟨_, rfl⟩
  rw [hr] at hok hmd ⊢
  have hnx2 := fun W hW => by have := hnx W hW; rw [hr] at this; exact this
  dsimp only at hok hmd hnx2 ⊢
  subst hok
  clear hnx hr R
  obtain ⟨rk, rp, rg⟩ := r
  have hsl := hs.lt
  obtain ⟨W, hW⟩ : ∃ W, w.alloc (.cells #[.int .u8 0, .int .i64 0, .int .u64 0] 38) = W := ⟨_, rfl⟩
  have hb0 : Below w.heap.size w W := by rw [← hW]; exact (by repeat (first | (with_reducible exact Below.refl _ _) | (with_reducible assumption) | (with_reducible refine Below.drew ?_) | (with_reducible refine Below.setCell ?_ ?_ _) | (with_reducible refine Below.alloc ?_ ?_ _) | (with_reducible refine Below.later ?_ ?_ _) | (first | (with_reducible exact Nat.le_refl _) | omega | (simp only [World.size_alloc, World.size_setCell, World.size_drew] <;> omega))))
  have bQ : BoxAt W w.heap.size #[.int .u8 0, .int .i64 0, .int .u64 0] := by rw [← hW]; exact BoxAt.new _ _ _
  obtain ⟨q, hq⟩ : ∃ q, w.heap.size = q := ⟨_, rfl⟩
  rw [hq] at bQ
  have hM1 := (hM.below hb0).sub (Y := fun j => (X j ∨ j = s) ∨ j = q) (fun j hj => by
    rcases hj with h | h
    · exact .inl h
    · have := bQ.lt; exact .inr (by omega))
  have hXl : ∀ j, X j → j < q := fun j hj => by have := hM.lt (.inl hj); omega
  have hsq : s < q := by omega
  have h0q : w0.heap.size ≤ q := by have := hM.bel.size; omega
  have hk0 : KpX X w W := KpX.of_below hb0 (fun j hj => by have := hXl j hj; omega)
  have HNO := Lib.hid (hno W hb0)
  have han := an_m hM1
  obtain ⟨N, hN⟩ : ∃ N, k + m = N := ⟨_, rfl⟩
  rw [hN] at han
  have HAN := Lib.hid han
  have HNN := Lib.hid hN
  have hN0 : ¬ N = 0 := by omega
  have HM1 := Lib.hid hM1
  have HNX := Lib.hid hnx2
  have BS := Lib.hid hs
  have BQ := Lib.hid bQ
  have HXL := Lib.hid hXl
  have HK0 := Lib.hid hk0
  have HB0 := Lib.hid hb0
  have HSX := Lib.hid hsX
  have HQS := Lib.hid (show s < q ∧ w0.heap.size ≤ q ∧ w0.heap.size ≤ s ∧ w.heap.size = q from ⟨hsq, h0q, hs0, hq⟩)
  have HT := Lib.hid ht
  have HCL := Lib.hid hcl
  have q1 : ((N : Int) == 0) = false := by
    have : (N : Int) ≠ 0 := by omega
    simpa using this
  clear hno hnx2 hb0 bQ hM1 hXl hk0 hs hp hsl hM hsX hs0 ht hsq h0q hcl han hN
  unfold RfI.C
  dsimp only
  go_enter Tryz.func38, Tryz.ntmps38
  go_wp2_with fail
  refine HNO.out.mono ?_
  clear HNO
  rintro e w1 ⟨rfl, h1⟩
  subst h1
  go_wp2_with fail
  refine HAN.out.mono ?_
  clear HAN
  rintro e w2 ⟨rfl, hb2⟩
  have hM2 := HM1.out.below' hb2
  have hcn := cn_any hM2.cod
  rw [HNN.out] at hcn
  have HM2 := Lib.hid hM2
  have HB2 := Lib.hid (HB0.out.trans (hb2.mono HB0.out.size))
  have BQ2 := Lib.hid (BQ.out.below hb2)
  clear hM2 hb2 HM1 BQ
  go_wp2_with fail
  refine hcn.mono ?_
  clear hcn
  rintro e w3 ⟨rfl, hb3⟩
  have HM3 := Lib.hid (HM2.out.below' hb3)
  have HB3 := Lib.hid (HB2.out.trans (hb3.mono HB2.out.size))
  have BQ3 := Lib.hid (BQ2.out.below hb3)
  have hnx := HNX.out w3 HB3.out
  clear HNX hb3 HM2 HB2 BQ2
  go_wp2_with fail
  refine hnx.mono ?_
  clear hnx
  rintro e w4 ⟨rfl, hb4⟩
  have HM4 := Lib.hid (HM3.out.below' hb4)
  have HB4 := Lib.hid (HB3.out.trans (hb4.mono HB3.out.size))
  have BQ4 := Lib.hid (BQ3.out.below hb4)
  unfold RfI.C
  dsimp only
  clear hb4 HM3 HB3 BQ3
  obtain ⟨W5, hW5⟩ : ∃ W5, w4.alloc (.cells #[.int .u8 rk, .int .i64 rp, .int .u64 rg] 38) = W5 := ⟨_, rfl⟩
  obtain ⟨p, hp⟩ : ∃ p, w4.heap.size = p := ⟨_, rfl⟩
  have hb5 : Below w4.heap.size w4 W5 := by rw [← hW5]; exact (Below.refl _ _).alloc (Nat.le_refl _) _
  have bP5 : BoxAt W5 p #[.int .u8 rk, .int .i64 rp, .int .u64 rg] := by rw [← hW5, ← hp]; exact BoxAt.new _ _ _
  have hqp : q < p := by have := BQ4.out.lt; omega
  have HM5 := Lib.hid ((HM4.out.below hb5).sub (Y := fun j => ((X j ∨ j = s) ∨ j = q) ∨ j = p) (fun j hj => by
    rcases hj with h | h
    · exact .inl h
    · have := bP5.lt; exact .inr (by omega)))
  have HB5 := Lib.hid (HB4.out.trans (hb5.mono HB4.out.size))
  have hco := scome_any (r := ⟨rk, rp, rg⟩) (BS.out.below HB5.out) HT.out
  unfold RfI.C at hco
  dsimp only at hco
  have HBQ5 := Lib.hid (BQ4.out.below hb5)
  have HBP5 := Lib.hid bP5
  have k0 : W5.cell? ⟨p, 0, none⟩ = some (.int .u8 rk) := bP5.cell 0
  have k1 : W5.cell? ⟨p, 1, none⟩ = some (.int .i64 rp) := bP5.cell 1
  have k2 : W5.cell? ⟨p, 2, none⟩ = some (.int .u64 rg) := bP5.cell 2
  have HQP := Lib.hid hqp
  clear hb5 bP5 hqp HM4 HB4 BQ4
  go_wp2_with fail
  refine hco.mono ?_
  clear hco k0 k1 k2 hW5 hp
  rintro e w6 ⟨rfl, hS6, hK6⟩
  have hM6 := HM5.out.own hK6 (fun j hj => by rw [hj]; exact ⟨.inl (.inl (.inr rfl)), HQS.out.2.2.1⟩)
  have HK6 := Lib.hid (show KpX X w w6 from ⟨fun j hj => by
      have h1 := HXL.out j hj
      rw [hK6.block j (by have := HB5.out.size; have := HQS.out.2.2.2; omega) (fun e => HSX.out (e ▸ hj))]
      exact HB5.out.block j (by have := HQS.out.2.2.2; omega), Nat.le_trans HB5.out.size hK6.size⟩)
  have hBQ6 := HBQ5.out.keeps hK6 (by have := HQS.out.1; omega)
  have hBP6 := HBP5.out.keeps hK6 (by have := HQS.out.1; have := HQP.out; omega)
  have hmd := hmd.out _ w6 hM6
  have k0 : w6.cell? ⟨p, 0, none⟩ = some (.int .u8 rk) := hBP6.cell 0
  have k1 : w6.cell? ⟨p, 1, none⟩ = some (.int .i64 rp) := hBP6.cell 1
  have k2 : w6.cell? ⟨p, 2, none⟩ = some (.int .u64 rg) := hBP6.cell 2
  have BS6 := Lib.hid hS6
  have BQ6 := Lib.hid hBQ6
  have BP6 := Lib.hid hBP6
  unfold RfI.C at hmd
  dsimp only at hmd
  clear hK6 hBQ6 hBP6 HM5 hM6 HBQ5 HBP5 hS6 HB5
  go_wp2_with fail
  refine hmd.mono ?_
  clear hmd k0 k1 k2
  rintro e w7 ⟨rfl, hM7, hK7⟩
  have HM7 := Lib.hid hM7
  have HK7 := Lib.hid (HK6.out.trans (hK7.mono fun j hj => .inl (.inl (.inl hj))))
  have BS7 := Lib.hid (hK7.box BS6.out (.inl (.inl (.inr rfl))))
  have BQ7 := Lib.hid (hK7.box BQ6.out (.inl (.inr rfl)))
  have BP7 := Lib.hid (hK7.box BP6.out (.inr rfl))
  clear hM7 hK7 BS6 BQ6 BP6 HK6
  by_cases her : er = 0
  · subst her
    have hfl := flush_m HM7.out (HCL.out rfl)
    go_wp2_with fail
    refine hfl.mono ?_
    clear hfl
    rintro e w8 ⟨rfl, hM8, hK8⟩
    have HM8 := Lib.hid hM8
    have HK8 := Lib.hid (HK7.out.trans (hK8.mono fun j hj => .inl (.inl (.inl hj))))
    have BS8 := Lib.hid (hK8.box BS7.out (.inl (.inl (.inr rfl))))
    have bQ8 := (hK8.box BQ7.out (.inl (.inr rfl)))
    have bP8 := (hK8.box BP7.out (.inr rfl))
    have k0 : w8.cell? ⟨p, 0, none⟩ = some (.int .u8 rk) := bP8.cell 0
    have k1 : w8.cell? ⟨p, 1, none⟩ = some (.int .i64 rp) := bP8.cell 1
    have k2 : w8.cell? ⟨p, 2, none⟩ = some (.int .u64 rg) := bP8.cell 2
    have n0 := bQ8.cell 0
    have n1 := bQ8.cell 1
    have n2 := bQ8.cell 2
    have z0 := bQ8.frozen 0
    have z1 := bQ8.frozen 1
    have z2 := bQ8.frozen 2
    clear hM8 hK8 HM7 HK7 BS7 BQ7 BP7 bQ8 bP8
    go_wp2_with fail
    refine bodyPost_ret (v := .tuple #[.agg #[.int .u8 rk, .int .i64 rp, .int .u64 rg], .int .i64 cn, .int .i64 0]) (by simp [results, Tryz.results38, go_sem, *]) rfl ?_
    exact ⟨rfl, mx_out HM8.out (keep3 _ _ _ _ _) HK8.out BS8.out HQS.out.1 HQS.out.2.1 HXL.out⟩
  · have f1 : (er == 0) = false := by simpa using her
    have HE := Lib.hid (show stepQ er sts1 = sts1 by unfold stepQ; rw [if_neg her])
    have k0 : w7.cell? ⟨p, 0, none⟩ = some (.int .u8 rk) := BP7.out.cell 0
    have k1 : w7.cell? ⟨p, 1, none⟩ = some (.int .i64 rp) := BP7.out.cell 1
    have k2 : w7.cell? ⟨p, 2, none⟩ = some (.int .u64 rg) := BP7.out.cell 2
    have n0 := BQ7.out.cell 0
    have n1 := BQ7.out.cell 1
    have n2 := BQ7.out.cell 2
    have z0 := BQ7.out.frozen 0
    have z1 := BQ7.out.frozen 1
    have z2 := BQ7.out.frozen 2
    clear her
    go_wp2_with fail
    refine bodyPost_ret (v := .tuple #[.agg #[.int .u8 rk, .int .i64 rp, .int .u64 rg], .int .i64 cn, .int .i64 er]) (by simp [results, Tryz.results38, go_sem, *]) rfl ?_
    rw [HE.out]
    exact ⟨rfl, mx_out HM7.out (keep3 _ _ _ _ _) HK7.out BS7.out HQS.out.1 HQS.out.2.1 HXL.out⟩
end
section
section
variable {n k N : Nat} {ps : List Pt} {gs : Nat → Nat → Bool} {sts : List DSt}
theorem Hds.repl {g : Nat → Bool} {r : Ref} {xs : List Nat} (h : Hds g k N r xs sts) (hr : r.ok n) (x : Int) : Hds (butB g x) k N r xs (replA n sts x) := by
  unfold replA
  split
  · rename_i hx
    refine h.set (fun d hd => ?_) fun hl => .inr ⟨?_, lost_zero (DSt.seen_new hr.p)⟩
    · unfold butB
      rw [decide_eq_false (by omega)]; simp
    · unfold butB
      rw [decide_eq_true (by omega)]; simp
  · rename_i hx
    refine h.congr fun d hd => ?_
    unfold butB
    rw [decide_eq_false (by omega)]; simp
theorem failA_len (n : Nat) (sts : List DSt) (x : Int) : (failA n sts x).length = sts.length := by unfold failA; split <;> simp
theorem replA_len (n : Nat) (sts : List DSt) (x : Int) : (replA n sts x).length = sts.length := by unfold replA; split <;> simp
theorem fr_step (hq : Qt n N sts) (hv : Vws k N ps gs sts) (hp : PtOk k n ps) (x : Int) : Qt n N (replA n (failA n sts x) x) ∧ Vws k N ps (fun i => butB (butB (gs i) x) x) (replA n (failA n sts x) x) := by
  refine ⟨⟨by rw [replA_len, failA_len, hq.1], fun st hst => ?_⟩, fun i p hi => ((hv i p hi).fail (hp.ref hi) x).repl (hp.ref hi) x⟩
  unfold replA at hst
  rw [failA_len] at hst
  by_cases hx : 0 ≤ x ∧ x < (sts.length : Int)
  · rw [if_pos hx] at hst
    unfold failA at hst
    rw [if_pos hx, List.set_set] at hst
    rcases List.mem_or_eq_of_mem_set hst with h | rfl
    · exact hq.2 st h
    · exact ⟨rfl, DSt.ok.new n, rfl⟩
  · rw [if_neg hx] at hst
    unfold failA at hst
    rw [if_neg hx] at hst
    exact hq.2 st hst
/-! ### Made anew -/
def mendG (gs : Nat → Nat → Bool) (j i x : Nat) : Bool := if i = j then true else gs i x
theorem mis_cnt (gs : Nat → Nat → Bool) (N i : Nat) : cntP (gs i) N + misN gs N i = N := by
  have h := filter_both (gs i) (List.range N)
  rw [List.length_range] at h
  exact h
theorem mend_step {j : Nat} {p : Pt} (hq : Qt n N sts) (hv : Vws k N ps gs sts) (hp : PtOk k n ps) (hj : ps[j]? = some p) :
    cntP (fun d => !gs j d && !deadL sts d) N = misN gs N j ∧ (∀ st ∈ sts.mapIdx (mendQ (gs j) n k N (ptRef j p) p.2), st.cache.length < 2) ∧
    Qt n N ((sts.mapIdx (mendQ (gs j) n k N (ptRef j p) p.2)).map flushG) ∧ Vws k N ps (mendG gs j) ((sts.mapIdx (mendQ (gs j) n k N (ptRef j p) p.2)).map flushG) := by
  have hr := hp.ref hj
  have hx := hp.byt p (List.mem_of_getElem? hj)
  have hat : ∀ st ∈ sts.mapIdx (mendQ (gs j) n k N (ptRef j p) p.2), st.dead = false ∧ st.ok n ∧ st.cache.length < 2 := fun st hst => by
    obtain ⟨d, hd⟩ := List.getElem?_of_mem hst
    obtain ⟨s1, h1, rfl⟩ := mapIdx_at hd
    obtain ⟨a1, a2, a3⟩ := hq.2 s1 (List.mem_of_getElem? h1)
    unfold mendQ
    split
    · exact ⟨a1, a2, by rw [a3]; decide⟩
    · rw [putQ_live hr hx a1]
      refine ⟨a1, a2.write ?_ ⟨by omega, by have := hr.p; omega⟩, ?_⟩
      · exact wrI_len (row44 hx k _).1
      · show (s1.cache ++ [_]).length < 2
        rw [a3]; exact Nat.lt_succ_self 1
  refine ⟨cntP_congr fun d hd => by rw [hq.deadL hd]; simp, fun st hst => (hat st hst).2.2, ⟨by rw [List.length_map, List.length_mapIdx, hq.1], fun st hst => ?_⟩, fun i q hi => ?_⟩
  · obtain ⟨s1, h1, rfl⟩ := List.mem_map.1 hst
    obtain ⟨a1, a2, _⟩ := hat s1 h1
    exact ⟨by rw [flushG_dead]; exact a1, flushG_ok a2, by unfold flushG; rw [if_pos a1]; rfl⟩
  · refine Hds.flush ?_ (hp.ref hi) (fun st hst => (hat st hst).2.1)
    by_cases e : i = j
    · subst e
      obtain rfl : p = q := by rw [hj] at hi; exact Option.some.inj hi
      have hm := mend_all (g := gs i) (n := n) (k := k) (N := N) (r := ptRef i p) (xs := p.2) (sts := sts) hr hx (fun d st hd => ⟨(hq.2 st (List.mem_of_getElem? hd)).1, hv i p hj d st hd⟩)
      exact fun d st hd => .inl ⟨by unfold mendG; rw [if_pos rfl], hm d st hd⟩
    · have h2 : Hds (gs i) k N (ptRef i q) q.2 (sts.mapIdx (mendQ (gs j) n k N (ptRef j p) p.2)) := (hv i q hi).map fun d st hd => by
        have hl := (hq.2 st (List.mem_of_getElem? hd)).1
        unfold mendQ
        split
        · exact ⟨rfl, rfl⟩
        · rw [putQ_live hr hx hl]
          exact ⟨by rw [DSt.seen_write, if_neg (by show ¬ ((j : Nat) : Int) = ((i : Nat) : Int); omega)], rfl⟩
      exact h2.congr fun d _ => by unfold mendG; rw [if_neg e]
end
/-! ### Which is next -/
theorem lstF_spec (is : Nat → Bool) (pl : Nat → Int) : ∀ n, ((lstF is pl n).2 = false → ∀ i, i < n → is i = false) ∧ ((lstF is pl n).2 = true → is (lstF is pl n).1 = true ∧ (lstF is pl n).1 < n ∧ ∀ i, i < n → is i = true → pl (lstF is pl n).1 ≤ pl i)
  | 0 => ⟨fun _ i hi => by omega, fun h => by simp [lstF] at h⟩
  | n + 1 => by
    obtain ⟨h1, h2⟩ := lstF_spec is pl n
    rw [lstF]
    split
    · rename_i h
      refine ⟨fun h => (by cases h), fun _ => ⟨h.1, Nat.lt_succ_self n, fun i hi hs => ?_⟩⟩
      show pl n ≤ pl i
      by_cases e : i = n
      · rw [e]; exact Int.le_refl _
      · rcases h.2 with h3 | h3
        · have := h1 h3 i (by omega); rw [hs] at this; cases this
        · cases hb : (lstF is pl n).2 with
          | false => have := h1 hb i (by omega); rw [hs] at this; cases this
          | true => have := (h2 hb).2.2 i (by omega) hs; omega
    · rename_i h
      refine ⟨fun hf i hi => ?_, fun ht => ?_⟩
      · by_cases e : i = n
        · subst e
          cases hs : is i with
          | false => rfl
          | true => exact absurd ⟨hs, .inl hf⟩ h
        · exact h1 hf i (by omega)
      · obtain ⟨a, b, c⟩ := h2 ht
        refine ⟨a, by omega, fun i hi hs => ?_⟩
        by_cases e : i = n
        · subst e
          have : ¬ pl i < pl (lstF is pl i).1 := fun hl => h ⟨hs, .inr hl⟩
          omega
        · exact c i (by omega) hs
/-- A list of names, the places of which are 0, .., L - 1, each once. -/
structure Around (R : Nat → RfI) (L : Nat) (xs : List RfI) : Prop where
  pl : ∀ p, (R p).place = (p : Int)
  all : ∀ p, p < L → ∃ i : Nat, xs[i]? = some (R p)
  sub : ∀ (i : Nat) x, xs[i]? = some x → ∃ p, p < L ∧ x = R p
theorem plF_gt {xs : List RfI} {i : Nat} (hi : i < xs.length) : xs[i]? = some (xs.getD i RfI.none_) := by
  rw [List.getD_eq_getElem?_getD, List.getElem?_eq_getElem hi]; rfl
theorem Around.next {R : Nat → RfI} {L : Nat} {xs : List RfI} (h : Around R L xs) (hL : 1 ≤ L) {began : Bool} {place : Int} {q : Nat} (hb : (began = false ∧ q = 0) ∨ ∃ p : Nat, began = true ∧ place = p ∧ p < L ∧ q = (p + 1) % L) : nextR began place xs = (R q, true) := by
  have hq : q < L := by
    rcases hb with ⟨_, rfl⟩ | ⟨p, _, _, _, rfl⟩
    · omega
    · exact Nat.mod_lt _ (by omega)
  have key : ∀ is : Nat → Bool, (∀ (i : Nat) p, xs[i]? = some (R p) → p < L → is i = true → q ≤ p) → (∀ i : Nat, xs[i]? = some (R q) → is i = true) → (lstF is (plF xs) xs.length).2 = true ∧ xs.getD (lstF is (plF xs) xs.length).1 RfI.none_ = R q := by
    intro is h1 h2
    obtain ⟨i0, hi0⟩ := h.all q hq
    obtain ⟨s1, s2⟩ := lstF_spec is (plF xs) xs.length
    have hil := (List.getElem?_eq_some_iff.1 hi0).1
    cases hbo : (lstF is (plF xs) xs.length).2 with
    | false => have := s1 hbo i0 hil; rw [h2 i0 hi0] at this; cases this
    | true =>
      obtain ⟨t1, t2, t3⟩ := s2 hbo
      refine ⟨rfl, ?_⟩
      have t4 := t3 i0 hil (h2 i0 hi0)
      have e1 := plF_gt t2
      obtain ⟨p, hp, ep⟩ := h.sub _ _ e1
      rw [ep] at e1 ⊢
      have hqp := h1 _ p e1 hp t1
      rw [plF_at e1, plF_at hi0, h.pl, h.pl] at t4
      obtain rfl : p = q := by omega
      rfl
  have hz : ∀ is : Nat → Bool, (∀ i, i < xs.length → is i = false) → (lstF is (plF xs) xs.length).2 = false := fun is hn => by
    cases hbo : (lstF is (plF xs) xs.length).2 with
    | false => rfl
    | true =>
      obtain ⟨t1, t2, _⟩ := (lstF_spec is (plF xs) xs.length).2 hbo
      rw [hn _ t2] at t1; cases t1
  unfold nextR nextN
  rcases hb with ⟨rfl, rfl⟩ | ⟨p, rfl, rfl, hp, rfl⟩
  · obtain ⟨k1, k2⟩ := key (aboveF false place xs) (fun _ _ _ _ _ => Nat.zero_le _) (fun _ _ => rfl)
    rw [if_pos k1]
    dsimp only
    rw [k2]
  · by_cases hw : p + 1 < L
    · rw [Nat.mod_eq_of_lt hw] at key ⊢
      obtain ⟨k1, k2⟩ := key (aboveF true (p : Int) xs) (fun i p2 hi _ hs => by
        unfold aboveF at hs
        rw [plF_at hi, h.pl] at hs
        simp at hs
        omega) (fun i hi => by
        unfold aboveF
        rw [plF_at hi, h.pl]
        simp only [Bool.not_true, Bool.false_or, decide_eq_true_eq]
        omega)
      rw [if_pos k1]
      dsimp only
      rw [k2]
    · have e : (p + 1) % L = 0 := by rw [show p + 1 = L by omega, Nat.mod_self]
      rw [e] at key ⊢
      have hn := hz (aboveF true (p : Int) xs) (fun i hi => by
        obtain ⟨p2, hp2, ep⟩ := h.sub _ _ (plF_gt hi)
        unfold aboveF
        rw [plF_at (plF_gt hi), ep, h.pl]
        simp
        omega)
      obtain ⟨k1, k2⟩ := key (fun _ => true) (fun _ _ _ _ _ => Nat.zero_le _) (fun _ _ => rfl)
      rw [if_neg (by rw [hn]; decide), if_pos k1]
      dsimp only
      rw [k2]
/-! ### The names of what is laid -/
def ptR (ps : List Pt) (i : Nat) : RfI := ⟨3, i, ((ps.getD i (0, [])).1 : Nat)⟩
def ptRs (ps : List Pt) : List RfI := (List.range ps.length).map (ptR ps)
theorem ptRs_len (ps : List Pt) : (ptRs ps).length = ps.length := by unfold ptRs; rw [List.length_map, List.length_range]
theorem ptRs_at (ps : List Pt) {i : Nat} (hi : i < ps.length) : (ptRs ps)[i]? = some (ptR ps i) := by unfold ptRs; rw [List.getElem?_map, List.getElem?_range hi]; rfl
theorem ptR_of {ps : List Pt} {i : Nat} {p : Pt} (h : ps[i]? = some p) : ptR ps i = ⟨3, i, (p.1 : Nat)⟩ := by unfold ptR; rw [List.getD_eq_getElem?_getD, h]; rfl
theorem ptR_C {ps : List Pt} {i : Nat} {p : Pt} (h : ps[i]? = some p) : (ptR ps i).C = refC (ptRef i p) := by rw [ptR_of h]; rfl
theorem around_pt (ps : List Pt) : Around (ptR ps) ps.length (ptRs ps) := ⟨fun _ => rfl, fun p hp => ⟨p, ptRs_at ps hp⟩, fun i x hx => by
  have hi : i < ps.length := by rw [← ptRs_len]; exact (List.getElem?_eq_some_iff.1 hx).1
  rw [ptRs_at ps hi] at hx
  exact ⟨i, hi, (Option.some.inj hx).symm⟩⟩
end
section
def PtR (S : Nat → Prop) (w : World) (cs : List Value) (x : Pt) : Prop := ∃ A n c, cs = [.int .u64 (x.1 : Int), .slice A n c] ∧ n ≤ c ∧ RdL ByR 1 S w A n x.2 ∧ x.1 < 2 ^ 64
theorem PtR.stable : Stable PtR := fun S S' w w' cs x ⟨A, n, c, h1, h2, h3, h4⟩ hk => ⟨A, n, c, h1, h2, h3.stable ByR.stable hk, h4⟩
theorem pt_at {S : Nat → Prop} {w : World} {A : Option Addr} {L : Nat} {ps : List Pt} (h : RdL PtR 2 S w A L ps) {i : Nat} (hi : i < L) : ∃ b o x A2 n c, A = some ⟨b, o, none⟩ ∧ ps[i]? = some x ∧ b < w.heap.size ∧ S b ∧ w.cell? ⟨b, o + i * 2, none⟩ = some (.int .u64 (x.1 : Int)) ∧ w.cell? ⟨b, o + i * 2 + 1, none⟩ = some (.slice A2 n c) ∧ n ≤ c ∧ RdL ByR 1 S w A2 n x.2 := by
  obtain ⟨b, o, rfl, hS, hlt⟩ := h.addr hi
  obtain ⟨hl, cs, h1, ⟨A2, n, c, h2, hc, hr, _⟩, h3⟩ := h.at hi
  subst h2
  refine ⟨b, o, ps[i], A2, n, c, rfl, by simp [hl], hlt, hS, ?_, ?_, hc, hr⟩
  · simpa using h3 0 _ rfl
  · simpa using h3 1 _ rfl
theorem pt_gen {S : Nat → Prop} {w : World} {A : Option Addr} {L : Nat} {ps : List Pt} (h : RdL PtR 2 S w A L ps) : ∀ p ∈ ps, p.1 < 2 ^ 64 := fun p hp => by
  obtain ⟨i, hi⟩ := List.getElem?_of_mem hp
  have hl : i < L := by rw [← h.1]; exact (List.getElem?_eq_some_iff.1 hi).1
  obtain ⟨b, o, rfl, _, _⟩ := h.addr hl
  obtain ⟨hl2, cs, _, ⟨_, _, _, _, _, _, h4⟩, _⟩ := h.at hl
  rw [List.getElem?_eq_getElem hl2] at hi
  rw [← Option.some.inj hi]
  exact h4
def smallP (k : Nat) (s : Int) (ps : List Pt) : Bool := (ps.take 20).all (fun p => decide (p.2.length ≤ 44 * k)) && decide (1 ≤ ps.length ∧ (ps.length : Int) ≤ s)
def upTo (k : Nat) (ps : List Pt) (i : Nat) : Prop := ∀ j p, j < i → ps[j]? = some p → p.2.length ≤ 44 * k
theorem smallP_of {k : Nat} {s : Int} {ps : List Pt} (h : upTo k ps (min 20 ps.length)) : smallP k s ps = decide (1 ≤ ps.length ∧ (ps.length : Int) ≤ s) := by
  unfold smallP
  rw [show (ps.take 20).all (fun p => decide (p.2.length ≤ 44 * k)) = true from List.all_eq_true.2 fun p hp => by
    obtain ⟨j, hj⟩ := List.getElem?_of_mem hp
    rw [List.getElem?_take] at hj
    split at hj
    · have := (List.getElem?_eq_some_iff.1 hj).1
      exact decide_eq_true (h j p (by omega) hj)
    · cases hj]
  rfl
theorem smallP_no {k : Nat} {s : Int} {ps : List Pt} {j : Nat} {p : Pt} (hj : j < 20) (hp : ps[j]? = some p) (h : 44 * k < p.2.length) : smallP k s ps = false := by
  unfold smallP
  rw [show (ps.take 20).all (fun p => decide (p.2.length ≤ 44 * k)) = false from List.all_eq_false.2 ⟨p, List.mem_of_getElem? (by rw [List.getElem?_take, if_pos hj]; exact hp), by rw [decide_eq_false (by omega)]; decide⟩]
  rfl
theorem smallP_ok {k s : Nat} {ps : List Pt} (hs : s ≤ 8) (h : smallP k (s : Int) ps = true) : 1 ≤ ps.length ∧ ps.length ≤ s ∧ ∀ p ∈ ps, p.2.length ≤ k * 44 := by
  unfold smallP at h
  rw [Bool.and_eq_true, decide_eq_true_eq, List.all_eq_true] at h
  obtain ⟨h1, h2, h3⟩ := h
  refine ⟨h2, by omega, fun p hp => ?_⟩
  have := h1 p (by rw [List.take_of_length_le (by omega)]; exact hp)
  rw [decide_eq_true_eq] at this
  omega
set_option maxRecDepth 100000 in
set_option maxHeartbeats 8000000 in
theorem ssmall_any {w : World} {k : Nat} {m s : Int} {S : Nat → Prop} {A : Option Addr} {L c : Nat} {ps : List Pt} (R : RdL PtR 2 S w A L ps) (hk : k ≤ 10) :
    Calls Tryz.prog 33 #[.agg (geoC k m s), .slice A L c] w fun e w' => e = .returned (.bool (smallP k s ps)) ∧ Below w.heap.size w w' := by
  have hb0 : Below w.heap.size w (w.alloc (.cells (geoC k m s) 23)) := (Below.refl _ _).alloc (Nat.le_refl _) _
  have bG := BoxAt.new w (geoC k m s) 23
  obtain ⟨W, hW⟩ : ∃ W, w.alloc (.cells (geoC k m s) 23) = W := ⟨_, rfl⟩
  rw [hW] at hb0 bG
  obtain ⟨q, hq⟩ : ∃ q, w.heap.size = q := ⟨_, rfl⟩
  rw [hq] at bG
  have HR := Lib.hid (R.below PtR.stable hb0)
  have HB0 := Lib.hid hb0
  have BG := Lib.hid bG
  have HL := Lib.hid R.1
  have q0 : (0 : Int) ≤ (k : Int) := by omega
  have q1 : (k : Int) ≤ 10 := by omega
  unfold geoC at hW ⊢
  clear hb0 bG R
  go_enter Tryz.func33, Tryz.ntmps33
  go_wp2_with fail
  clear hW hq
  go_loopw [5] (fun vi wr => ∃ i : Nat, i ≤ 20 ∧ i ≤ L ∧ vi = .int .i64 i ∧ Hid (upTo k ps i) ∧ Hid (Below W.heap.size W wr)) (fun vi _ => 20 - (intOf vi).toNat)
  case atStart => exact ⟨0, by omega, Nat.zero_le _, rfl, Lib.hid fun j p h => by omega, Lib.hid (Below.refl _ _)⟩
  case round =>
    obtain ⟨i, hi, hiL, rfl, HU, HB⟩ := hrel
    have p0 : (0 : Int) ≤ (i : Int) := Int.natCast_nonneg _
    have hbG := BG.out.below HB.out
    have k0 : wr.cell? ⟨q, 0, none⟩ = some (.int .i64 (k : Int)) := hbG.cell 0
    have k2 : wr.cell? ⟨q, 2, none⟩ = some (.int .i64 s) := hbG.cell 2
    have hqW : q < wr.heap.size := hbG.lt
    by_cases hlt : i < L
    · have p1 : (i : Int) < (L : Int) := by omega
      by_cases h20 : i < 20
      · have p2 : (i : Int) < 20 := by omega
        obtain ⟨b, o, x, A2, n2, c2, rfl, hx, hbl, _, x0, x1, hc2, hr2⟩ := pt_at (HR.out.below PtR.stable HB.out) hlt
        have hn2 := hr2.1
        by_cases hg : 44 * k < n2
        · have p3 : (n2 : Int) > 44 * (k : Int) := by omega
          have HF := Lib.hid (smallP_no (s := s) h20 hx (by rw [hn2]; exact hg))
          have HBW := Lib.hid (HB0.out.trans (HB.out.mono HB0.out.size))
          clear hx hr2 hn2 hbG
          go_wp2_with fail
          refine wp_region_later (by kernel_rfl) (by kernel_rfl) ?_
          repeat (go_big_quiet_step (fail))
          refine wpQuiet_nil ?_
          rintro _ ⟨z, rfl⟩
          go_wp2_with fail
          go_ret
          exact ⟨by rw [HF.out]; rfl, HBW.out.trans (z.ok.mono HBW.out.size)⟩
        · have p3 : ¬ (n2 : Int) > 44 * (k : Int) := by omega
          have HU2 := Lib.hid (show upTo k ps (i + 1) from fun j p hj hp => by
            by_cases e : j = i
            · subst e
              rw [hx] at hp
              obtain rfl := Option.some.inj hp
              omega
            · exact HU.out j p (by omega) hp)
          clear hx hr2 hn2 hbG
          go_wp2_with fail
          refine wp_region_later (by kernel_rfl) (by kernel_rfl) ?_
          repeat (go_big_quiet_step (fail))
          refine wpQuiet_nil ?_
          rintro _ ⟨z, rfl⟩
          have HBz := Lib.hid (HB.out.trans (z.ok.mono HB.out.size))
          go_wp2_with fail
          exact ⟨⟨i + 1, by omega, by omega, by go_num, HU2, HBz⟩, by simp [intOf]; omega⟩
      · have p2 : ¬ (i : Int) < 20 := by omega
        obtain rfl : i = 20 := by omega
        have HF := Lib.hid (smallP_of (s := s) (show upTo k ps (min 20 ps.length) by rw [HL.out]; rw [Nat.min_eq_left hiL]; exact HU.out))
        have HBW := Lib.hid (HB0.out.trans (HB.out.mono HB0.out.size))
        rw [HL.out] at HF
        clear hbG
        have h1 : 1 ≤ L := by omega
        have f1 : (L : Int) ≥ 1 := by omega
        by_cases h2 : (L : Int) ≤ s
        · have HD := Lib.hid (show decide (1 ≤ L ∧ (L : Int) ≤ s) = true from decide_eq_true ⟨h1, h2⟩)
          go_wp2_with fail
          go_ret
          exact ⟨by rw [HF.out, HD.out]; rfl, HBW.out⟩
        · have HD := Lib.hid (show decide (1 ≤ L ∧ (L : Int) ≤ s) = false from decide_eq_false fun h => h2 h.2)
          go_wp2_with fail
          go_ret
          exact ⟨by rw [HF.out, HD.out]; rfl, HBW.out⟩
    · have p1 : ¬ (i : Int) < (L : Int) := by omega
      obtain rfl : L = i := by omega
      have HF := Lib.hid (smallP_of (s := s) (show upTo k ps (min 20 ps.length) by rw [HL.out]; rw [Nat.min_eq_right hi]; exact HU.out))
      have HBW := Lib.hid (HB0.out.trans (HB.out.mono HB0.out.size))
      rw [HL.out] at HF
      clear hbG
      by_cases h1 : 1 ≤ L
      · have f1 : (L : Int) ≥ 1 := by omega
        by_cases h2 : (L : Int) ≤ s
        · have HD := Lib.hid (show decide (1 ≤ L ∧ (L : Int) ≤ s) = true from decide_eq_true ⟨h1, h2⟩)
          go_wp2_with fail
          go_ret
          exact ⟨by rw [HF.out, HD.out]; rfl, HBW.out⟩
        · have HD := Lib.hid (show decide (1 ≤ L ∧ (L : Int) ≤ s) = false from decide_eq_false fun h => h2 h.2)
          go_wp2_with fail
          go_ret
          exact ⟨by rw [HF.out, HD.out]; rfl, HBW.out⟩
      · have f1 : ¬ (L : Int) ≥ 1 := by omega
        have HD := Lib.hid (show decide (1 ≤ L ∧ (L : Int) ≤ s) = false from decide_eq_false fun h => h1 h.1)
        go_wp2_with fail
        go_ret
        exact ⟨by rw [HF.out, HD.out]; rfl, HBW.out⟩
end
section
section
variable {X : Nat → Prop} {w0 w : World} {a cb bf k m n : Nat} {sts : List DSt}
theorem MX.cnt (h : MX X w0 w a cb bf k m n sts) : CNt w (.pointer (some ⟨cb, 0, none⟩)) (k + m) := fun W hW => cn_any (h.below' hW).cod
theorem MX.cmt (h : MX X w0 w a cb bf k m n sts) : CMt w (.pointer (some ⟨cb, 0, none⟩)) m := fun W hW => cm_any (h.below' hW).cod
theorem MX.whc {g : Nat → Bool} {r : Ref} {xs : List Nat} {rf : RfI} (h : MX X w0 w a cb bf k m n sts) (hr : r.ok n) (hg : Hid (r.gen < 2 ^ 64)) (hx : Byt xs) (hl : xs.length ≤ k * 44) (hc : Hds g k (k + m) r xs sts) (hC : rf.C = refC r) (hp : rf.place = (r.place : Int)) : WhC w (.pointer (some ⟨a, 0, none⟩)) (.pointer (some ⟨cb, 0, none⟩)) rf g (k + m) := fun W hW => by
  rw [hC]
  refine (whole_view (h.below' hW).mid hr hg hx hl hc).mono ?_
  rintro e w' ⟨b, rfl, hr, hb⟩
  exact ⟨_, _, _, _, rfl, Nat.le_refl _, hr, .inr ⟨r.place, hp, rfl⟩, hb⟩
/-- The slice of names, as the law has it. -/
def RwX (v : Value) (j : Nat) : Prop := some j = v.ownBlock
theorem rfi_own {S : Nat → Prop} {A : Option Addr} {L c : Nat} {xs : List RfI} (h : RdL RfIR 3 S w A L xs) : RdL RfIR 3 (RwX (.slice A L c)) w A L xs := by
  refine ⟨h.1, fun hn => ?_⟩
  obtain ⟨b, o, rfl, _, hl, hx⟩ := h.2 hn
  exact ⟨b, o, rfl, rfl, hl, hx⟩
set_option maxRecDepth 100000 in
set_option maxHeartbeats 16000000 in
theorem laid_any {S : Nat → Prop} {A : Option Addr} {L c : Nat} {ps : List Pt} (hM : MX X w0 w a cb bf k m n (newS n (k + m))) (R : RdL PtR 2 S w A L ps) (hS : ∀ j, S j → X j) (hp : PtOk k n ps) :
    Calls Tryz.prog 36 #[.pointer (some ⟨a, 0, none⟩), .pointer (some ⟨cb, 0, none⟩), .slice A L c] w fun e w' => ∃ A' c' sts, e = .returned (.slice A' L c') ∧ L ≤ c' ∧ MX (fun j => X j ∨ RwX (.slice A' L c') j) w0 w' a cb bf k m n sts ∧ KpX X w w' ∧
      RdL RfIR 3 (RwX (.slice A' L c')) w' A' L (ptRs ps) ∧ Qt n (k + m) sts ∧ (∀ st ∈ sts, Sld n st) ∧ Vws k (k + m) ps (fun _ _ => true) sts := by
  have hLn : L ≤ n := by rw [← R.1]; exact hp.len
  have hn6 := hM.pos
  have q0 : (L : Int) ≤ 600 := by omega
  have HR := Lib.hid R
  have HM := Lib.hid hM
  have HP := Lib.hid hp
  have HS := Lib.hid hS
  have HXL := Lib.hid R.1
  have HN := Lib.hid hn6
  have HW0 := Lib.hid hM.bel.size
  have HXW := Lib.hid (show ∀ j, X j → j < w.heap.size from fun j hj => hM.lt hj)
  clear R hM hp hS hn6
  go_enter Tryz.func36, Tryz.ntmps36
  go_wp2_with fail
  go_loopw [7, 8] (fun vo vi wr => ∃ (i : Nat) (A2 : Option Addr) (c2 : Nat), i ≤ L ∧ vi = .int .i64 i ∧ vo = .slice A2 i c2 ∧ i ≤ c2 ∧ Hid (MX (fun j => X j ∨ RwX (.slice A2 i c2) j) w0 wr a cb bf k m n (laidQ n k (k + m) ps i)) ∧ Hid (KpX X w wr) ∧ Hid (LayI n k (k + m) ps i (laidQ n k (k + m) ps i)) ∧ Hid (OwnL RfIR 38 3 w.heap.size NoB wr (.slice A2 i c2) i ((ptRs ps).take i))) (fun _ vi _ => L - (intOf vi).toNat)
  case atStart => exact ⟨0, none, 0, Nat.zero_le _, rfl, rfl, Nat.le_refl _, Lib.hid (HM.out.sub fun j hj => hj.elim id (fun h => by cases h)), Lib.hid KpX.refl, Lib.hid LayI.zero, Lib.hid (by exact OwnL.nil_)⟩
  case round =>
    clear HM
    obtain ⟨i, A2, c2, hi, rfl, rfl, hc2, HM, HK, HI, HO⟩ := hrel
    have p0 : (0 : Int) ≤ (i : Int) := Int.natCast_nonneg _
    by_cases hlt : i < L
    · have p1 : (i : Int) < (L : Int) := by omega
      obtain ⟨b, o, x, A3, n3, c3, rfl, hx, hbl, hSb, x0, x1, hc3, hr3⟩ := pt_at (HK.out.rd PtR.stable HR.out HS.out) hlt
      have HX := Lib.hid hx
      have hn3 := hr3.1
      have hsz := HP.out.sz x (List.mem_of_getElem? hx)
      -- the box of the name
      obtain ⟨W, hW⟩ : ∃ W, wr.alloc (.cells #[.int .u8 3, .int .i64 (i : Int), .int .u64 (x.1 : Int)] 38) = W := ⟨_, rfl⟩
      have hbW : Below wr.heap.size wr W := by rw [← hW]; exact (Below.refl _ _).alloc (Nat.le_refl _) _
      have bW : BoxAt W wr.heap.size #[.int .u8 3, .int .i64 (i : Int), .int .u64 (x.1 : Int)] := by rw [← hW]; exact BoxAt.new _ _ _
      obtain ⟨q, hq⟩ : ∃ q, wr.heap.size = q := ⟨_, rfl⟩
      rw [hq] at bW
      have hd : Below W.heap.size W W.drew := (Below.refl _ _).drew
      have hMW := ((HM.out.below hbW).below' hd).sub (Y := fun j => (X j ∨ RwX (.slice A2 i c2) j) ∨ j = q) (fun j hj => by
        rcases hj with h | h
        · exact .inl h
        · have := bW.lt; exact .inr (by omega))
      have hbWd := hbW.trans (hd.mono hbW.size)
      have hXl : ∀ j, X j → j < wr.heap.size := fun j hj => HM.out.lt (.inl hj)
      have hKd : KpX X w W.drew := HK.out.trans (KpX.of_below hbWd hXl)
      have hpu := put_m hMW (r := ptRef i x) (HP.out.ref hx) (HP.out.hgen hx) (fun st hst => by have := HI.out.cache st hst; omega) (c := c3) (hr3.below ByR.stable hbWd) hc3 (by rw [← hn3]; exact hsz)
      have eR : refC (ptRef i x) = #[.int .u8 3, .int .i64 (i : Int), .int .u64 (x.1 : Int)] := rfl
      rw [eR] at hpu
      have s0 : W.drew.cell? ⟨q, 0, none⟩ = some (.int .u8 3) ∧ W.drew.cell? ⟨q, 1, none⟩ = some (.int .i64 (i : Int)) ∧ W.drew.cell? ⟨q, 2, none⟩ = some (.int .u64 (x.1 : Int)) ∧ W.drew.cell? ⟨b, o + i * 2 + 1, none⟩ = some (.slice A3 n3 c3) := ⟨bW.cell 0, bW.cell 1, bW.cell 2, (hbW.cell (p := ⟨b, _, none⟩) hbl).trans x1⟩
      have HNX := Lib.hid (show laidQ n k (k + m) ps (i + 1) = (laidQ n k (k + m) ps i).mapIdx (putQ n k (k + m) (ptRef i x) x.2) by rw [laidQ, hx])
      have HIN := Lib.hid (HI.out.next HP.out hx)
      have BW := Lib.hid (bW.below hd)
      have HOW := Lib.hid (HO.out.keep RfIR.stable hbWd)
      have HPU := Lib.hid hpu
      have HKD := Lib.hid hKd
      have HBX := Lib.hid (HS.out b hSb)
      have HQ := Lib.hid (show w.heap.size ≤ q by have := HK.out.2; omega)
      have xl : (x.1 : Int) < 18446744073709551616 := by have := HP.out.gen x (List.mem_of_getElem? hx); omega
      clear hx hr3 hn3 hsz hbW bW hd hMW hbWd hXl hKd hpu hbl HM HK HI HO eR
      go_wp2_with fail
      refine wp_region_held_drew (S := fun w' => w'.cell? ⟨q, 0, none⟩ = some (.int .u8 3) ∧ w'.cell? ⟨q, 1, none⟩ = some (.int .i64 (i : Int)) ∧ w'.cell? ⟨q, 2, none⟩ = some (.int .u64 (x.1 : Int)) ∧ w'.cell? ⟨b, o + i * 2 + 1, none⟩ = some (.slice A3 n3 c3)) (by kernel_rfl) (by first | exact s0 | exact s5) (fun hHeld => ?_)
      refine tkH 0 rfl ?_
      refine tkH 1 rfl ?_
      refine tkH 2 rfl ?_
      refine tkH 3 rfl ?_
      refine tkH 4 rfl ?_
      refine tkH 5 rfl ?_
      refine tkH 6 rfl ?_
      refine tkH 7 rfl ?_
      refine rdH 8 rfl fun K hK => ?_
      try simp (maxSteps := 2000000) only [zz1, zz2, zz3]
      go_simp
      go_at_call 43
      refine HPU.out.mono ?_
      clear HPU
      rintro e w5 ⟨rfl, hM5, hK5⟩
      have hB5 := hK5.box BW.out (.inr rfl)
      have s5 : w5.cell? ⟨q, 0, none⟩ = some (.int .u8 3) ∧ w5.cell? ⟨q, 1, none⟩ = some (.int .i64 (i : Int)) ∧ w5.cell? ⟨q, 2, none⟩ = some (.int .u64 (x.1 : Int)) ∧ w5.cell? ⟨b, o + i * 2 + 1, none⟩ = some (.slice A3 n3 c3) := ⟨hB5.cell 0, hB5.cell 1, hB5.cell 2, (World.cell?_of_block (hK5.1 b (.inl (.inl HBX.out)))).trans s0.2.2.2⟩
      have HM5 := Lib.hid hM5
      have HBQ5 := Lib.hid hB5
      have HK5 := Lib.hid (HKD.out.trans (hK5.mono fun j hj => .inl (.inl hj)))
      have HO5 := Lib.hid (OwnL.kpL (S' := NoB) RfIR.stable HOW.out (hK5.mono (Y := RwX (.slice A2 i c2)) fun j hj => .inl (.inr hj)) (fun g hg => hg.symm) (fun b hb hl => hb.elim))
      clear hM5 hK5 hB5
      try (go_wp2_with fail)
      refine hK.out _ _ (by first | exact s0 | exact s5) (fun hHeld => ?_)
      clear hK K
      try simp (maxSteps := 2000000) only [zz1, zz2, zz3, Act.put, zz4, zz5, zz6]
      refine tkH 9 rfl ?_
      refine tkH 10 rfl ?_
      refine tkH 11 rfl ?_
      refine tkH 12 rfl ?_
      refine tkH 13 rfl ?_
      refine wpAnyH_done (by kernel_rfl) ?_ _
      have hb5 : BoxAt w5 q #[.int .u8 3, .int .i64 (i : Int), .int .u64 (x.1 : Int)] := HBQ5.out
      have k0 : w5.cell? ⟨q, 0, none⟩ = some (.int .u8 3) := hb5.cell 0
      have k1 : w5.cell? ⟨q, 1, none⟩ = some (.int .i64 (i : Int)) := hb5.cell 1
      have k2 : w5.cell? ⟨q, 2, none⟩ = some (.int .u64 (x.1 : Int)) := hb5.cell 2
      have hbs : w.heap.size ≤ w5.heap.size := HK5.out.2
      clear s0 s5 hHeld hb5 hW hq
      go_wp2_with (at_builtin; go_must (refine wpList_push1 RfIR.stable RfIR.one sl_rfi (by rfl) (by rfl) (base := w.heap.size) (S := NoB) (cs := #[.int .u8 3, .int .i64 (i : Int), .int .u64 (x.1 : Int)]) (y := ⟨3, i, x.1⟩) (by rfl) (by rfl) HO5.out (by rfl) (by rfl) (by unfold maxLen; omega) (by omega) hbs ?_); intro A8 c8 ug hc8 own9 hlt8 hb8 hat8; have HO9 := Lib.hid own9; have HU9 := Lib.hid ug.ok; have HA9 := Lib.hid hat8; have HL9 := Lib.hid hlt8; clear own9 hb8 hat8 hlt8)
      have hlo := HO5.out.lt
      have hM9 := (HM5.out.ownN (Keep.of_grown HU9.out) (fun j hj => ⟨.inl (.inr hj), Nat.le_trans HW0.out (hlo j hj.symm).1⟩)).sub (Y := fun j => X j ∨ RwX (.slice A8 (i + 1) c8) j) (fun j hj => by
        rcases hj with h | h
        · exact .inl (.inl (.inl h))
        · have h1 := HO9.out.lt j h.symm
          rcases HA9.out with e | e
          · exact .inl (.inl (.inr (by unfold RwX at h ⊢; rw [h, e])))
          · have h2 : some j = some (w5.heap.size + 1) := by rw [← e]; exact h
            injection h2 with h2
            exact .inr ⟨by omega, h1.2⟩)
      have hK9 : KpX X w ug.to := HK5.out.trans ⟨fun j hj => HU9.out.block j (HM5.out.lt (.inl (.inl hj))) (fun e => by have h1 := (hlo j e.symm).1; have h2 := HXW.out j hj; omega), HU9.out.size⟩
      have e2 : (ptRs ps).take (i + 1) = (ptRs ps).take i ++ [⟨3, i, (x.1 : Nat)⟩] := by
        rw [List.take_add_one, ptRs_at ps (by rw [HXL.out]; exact hlt), ptR_of HX.out]; rfl
      have hN := HNX.out
      exact ⟨⟨i + 1, A8, c8, by omega, by go_num, rfl, hc8, Lib.hid (by rw [hN]; exact hM9), Lib.hid hK9, Lib.hid (by rw [hN]; exact HIN.out), Lib.hid (by rw [e2]; exact HO9.out)⟩, by simp [intOf]; omega⟩
    · have p1 : ¬ (i : Int) < (L : Int) := by omega
      obtain rfl : i = L := by omega
      have hfl := flush_m HM.out (fun st hst => by have := HI.out.cache st hst; omega)
      have hfe := HI.out.flush HXL.out HP.out (HM.out.mid.ok)
      have HFE := Lib.hid hfe
      have hlo := HO.out.lt
      have ho := HO.out
      rw [List.take_of_length_le (by rw [ptRs_len, HXL.out]; exact Nat.le_refl _)] at ho
      have HO' := Lib.hid ho
      clear hfe ho
      go_wp2_with fail
      refine hfl.mono ?_
      clear hfl
      rintro e w6 ⟨rfl, hM6, hK6⟩
      have HM6 := Lib.hid hM6
      have HK6 := Lib.hid (HK.out.trans (hK6.mono fun j hj => .inl hj))
      have HO6 := Lib.hid (OwnL.kpL (S' := NoB) RfIR.stable HO'.out (hK6.mono (Y := RwX (.slice A2 i c2)) fun j hj => .inr hj) (fun g hg => hg.symm) (fun b hb hl => hb.elim))
      clear hM6 hK6 hlo
      go_wp2_with fail
      go_ret
      obtain ⟨A', c', e, _, hr⟩ := OwnL.rd (S' := fun _ => True) HO6.out (fun _ _ => trivial) (fun cs x hx => hx)
      injection e with e1 _ e3
      subst e1; subst e3
      have hr := rfi_own (c := c2) hr
      exact ⟨A2, c2, _, rfl, hc2, HM6.out, HK6.out, hr, HFE.out.1, HFE.out.2.1, HFE.out.2.2⟩
end
end
section
def g1 (d : Nat) : Bool := decide (d ≠ 1)
def g2 (d : Nat) : Bool := decide (d ≠ 1) && decide (d ≠ 2)
theorem marked_rd {w : World} {t : TypeId} {m : Nat × Nat} {xs : List Nat} (hx : Byt xs) (hn : 0 < xs.length) : RdL ByR 1 (fun j => w.heap.size ≤ j) (w.alloc (.cells (xs.map fun b : Nat => Value.int .u8 (b : Int)).toArray t m)) (some ⟨w.heap.size, 0, none⟩) xs.length xs := by
  refine ⟨rfl, fun _ => ⟨w.heap.size, 0, rfl, Nat.le_refl _, by rw [World.size_alloc]; omega, fun i x hi => ⟨[.int .u8 (x : Int)], rfl, ⟨hx x (List.mem_of_getElem? hi), rfl⟩, fun j v hj => ?_⟩⟩⟩
  rcases j with _ | j
  · simp at hj; subst hj
    have hb : (w.alloc (.cells (xs.map fun b : Nat => Value.int .u8 (b : Int)).toArray t m)).heap[w.heap.size]? = some (.cells (xs.map fun b : Nat => Value.int .u8 (b : Int)).toArray t m) := by
      show (w.heap.push _)[w.heap.size]? = _
      simp
    unfold World.cell?
    dsimp only
    rw [hb]
    simp [hi]
  · simp at hj
end
section
def rX : Ref := ⟨3, 1, 4⟩
theorem rX_ok : rX.ok 3 := ⟨by decide, by decide, by decide⟩
def xX : List Nat := [120]
theorem xX_byt : Byt xX := by intro y hy; simp [xX] at hy; omega
def gX : Nat → Bool := butB (butB (fun _ => true) 2) 2
def s1X : List DSt := (newS 3 3).mapIdx (putQ 3 2 3 rX xX)
def s3X : List DSt := replA 3 (failA 3 s1X 2) 2
theorem s3X_live : ∀ st ∈ s3X, st.dead = false := by decide +kernel
theorem s3X_cache : ∀ st ∈ s3X, st.cache.length < 2 := by decide +kernel
theorem hX1 : Hds (fun _ => true) 2 3 rX xX s1X := by
  refine (Hds.new rX_ok xX_byt (fun st hst hd => ?_)).congr fun d hd => ?_
  · obtain ⟨d, h⟩ := List.getElem?_of_mem hst
    obtain ⟨rfl, _⟩ := newS_at h
    cases hd
  · have hl : d < 3 := by have : s1X.length = 3 := by decide +kernel
                          have hd : d < s1X.length := hd
                          omega
    have : ∀ d, d < 3 → deadL (newS 3 3) d = false := by decide +kernel
    rw [this d hl]; rfl
theorem hX3 : Hds gX 2 3 rX xX s3X := (hX1.fail rX_ok 2).repl rX_ok 2
theorem nX : cntP (fun d => !gX d && !deadL s3X d) (2 + 1) = 1 := by decide +kernel
theorem cX : 2 ≤ cntP gX (2 + 1) := by decide +kernel
def s4X : List DSt := s3X.mapIdx (mendQ gX 3 2 3 rX xX)
theorem s4X_cache : ∀ st ∈ s4X, st.cache.length < 3 := by decide +kernel
theorem s3X_ok : ∀ st ∈ s3X, st.ok 3 := by
  intro st h
  unfold s3X replA at h
  rw [if_pos (by decide +kernel)] at h
  rcases List.mem_or_eq_of_mem_set h with h | rfl
  · unfold failA at h
    rw [if_pos (by decide +kernel)] at h
    rcases List.mem_or_eq_of_mem_set h with h | rfl
    · obtain ⟨d, hd⟩ := List.getElem?_of_mem h
      obtain ⟨s1, h1, rfl⟩ := mapIdx_at hd
      obtain ⟨rfl, _⟩ := newS_at h1
      rw [putQ_live rX_ok xX_byt rfl]
      exact (DSt.ok.new 3).write (wrI_len (row44 xX_byt 2 _).1) ⟨by decide, by decide⟩
    · exact ⟨by decide, by decide, by decide, by decide, by decide⟩
  · exact DSt.ok.new 3
theorem s4X_ok : ∀ st ∈ s4X, st.ok 3 := by
  intro st h
  obtain ⟨d, hd⟩ := List.getElem?_of_mem h
  obtain ⟨s1, h1, rfl⟩ := mapIdx_at hd
  unfold mendQ
  split
  · exact s3X_ok s1 (List.mem_of_getElem? h1)
  · rw [putQ_live rX_ok xX_byt (s3X_live s1 (List.mem_of_getElem? h1))]
    exact (s3X_ok s1 (List.mem_of_getElem? h1)).write (wrI_len (row44 xX_byt 2 _).1) ⟨by decide, by decide⟩
theorem hX5 (hok : ∀ st ∈ s4X, st.ok 3) : Hds (fun _ => true) 2 3 rX xX (s4X.map flushG) := by
  refine Hds.flush ?_ rX_ok hok
  have hm := mend_all (g := gX) (n := 3) (k := 2) (N := 3) (r := rX) (xs := xX) (sts := s3X) rX_ok xX_byt (fun d st hd => ⟨s3X_live st (List.mem_of_getElem? hd), hX3 d st hd⟩)
  exact fun d st hd => .inl ⟨rfl, hm d st hd⟩
def rfX : RfI := ⟨3, 1, 4⟩
def lX : List RfI := [⟨0, 4, 0⟩, ⟨0, 2, 0⟩, ⟨0, 9, 0⟩]
theorem nx1 : nextR false 0 [rfX] = (rfX, true) := rfl
theorem nx2 : nextR true 1 lX = (⟨0, 2, 0⟩, true) := rfl
theorem rfi3 {w : World} {g : Nat} (h : BoxAt w g #[.int .u8 0, .int .i64 4, .int .u64 0, .int .u8 0, .int .i64 2, .int .u64 0, .int .u8 0, .int .i64 9, .int .u64 0]) : RdL RfIR 3 (fun j => j = g) w (some ⟨g, 0, none⟩) 3 lX := by
  refine ⟨rfl, fun _ => ⟨g, 0, rfl, rfl, h.lt, fun i x hx => ?_⟩⟩
  match i with
  | 0 => obtain rfl : (⟨0, 4, 0⟩ : RfI) = x := Option.some.inj hx
         exact ⟨_, rfl, rfl, fun j v hj => by match j with
                                              | 0 => rw [← Option.some.inj hj]; exact h.cell 0
                                              | 1 => rw [← Option.some.inj hj]; exact h.cell 1
                                              | 2 => rw [← Option.some.inj hj]; exact h.cell 2⟩
  | 1 => obtain rfl : (⟨0, 2, 0⟩ : RfI) = x := Option.some.inj hx
         exact ⟨_, rfl, rfl, fun j v hj => by match j with
                                              | 0 => rw [← Option.some.inj hj]; exact h.cell 3
                                              | 1 => rw [← Option.some.inj hj]; exact h.cell 4
                                              | 2 => rw [← Option.some.inj hj]; exact h.cell 5⟩
  | 2 => obtain rfl : (⟨0, 9, 0⟩ : RfI) = x := Option.some.inj hx
         exact ⟨_, rfl, rfl, fun j v hj => by match j with
                                              | 0 => rw [← Option.some.inj hj]; exact h.cell 6
                                              | 1 => rw [← Option.some.inj hj]; exact h.cell 7
                                              | 2 => rw [← Option.some.inj hj]; exact h.cell 8⟩
set_option maxRecDepth 100000 in
set_option maxHeartbeats 32000000 in
theorem scrubs_any {w : World} : Calls Tryz.prog 34 #[] w fun e w' => e = .returned (.bool true) ∧ Below w.heap.size w w' := by
  have hmd := made_m (w0 := w) (w := w) (k := 2) (m := 1) (n := 3) (Below.refl _ _) (by omega) (by omega) (by omega) (by omega) (by omega)
  have e0 : geoC ((2 : Nat) : Int) ((1 : Nat) : Int) ((3 : Nat) : Int) = #[.int .i64 2, .int .i64 1, .int .i64 3] := rfl
  rw [e0] at hmd
  clear e0
  go_enter Tryz.func34, Tryz.ntmps34
  go_wp2_with fail
  refine hmd.mono ?_
  clear hmd
  rintro e w1 ⟨a, cb, bf, rfl, hM, hb1⟩
  have HM1 := Lib.hid (show MX NoB w w1 a cb bf 2 1 3 (newS 3 3) from hM.sub fun j hj => hj.elim)
  clear hM hb1
  -- the name
  have bR := BoxAt.new w1 #[.int .u8 3, .int .i64 1, .int .u64 4] 38
  have hbR : Below w1.heap.size w1 (w1.alloc (.cells #[.int .u8 3, .int .i64 1, .int .u64 4] 38)) := (Below.refl _ _).alloc (Nat.le_refl _) _
  have hX0 := (HM1.out.below hbR)
  obtain ⟨wA, hwA⟩ : ∃ wA, w1.alloc (.cells #[.int .u8 3, .int .i64 1, .int .u64 4] 38) = wA := ⟨_, rfl⟩
  obtain ⟨q, hq⟩ : ∃ q, w1.heap.size = q := ⟨_, rfl⟩
  have hqA : q < wA.heap.size := by rw [← hwA, ← hq, World.size_alloc]; omega
  rw [hwA] at bR hX0
  rw [hq] at bR hX0
  have cA : wA.cell? ⟨q, 0, none⟩ = some (.int .u8 3) ∧ wA.cell? ⟨q, 1, none⟩ = some (.int .i64 1) ∧ wA.cell? ⟨q, 2, none⟩ = some (.int .u64 4) := ⟨bR.cell 0, bR.cell 1, bR.cell 2⟩
  have hkc := Lib.run_convert_bytes_const (P := Tryz.prog) wA 68 5 #[.int .u8 120] 1 1 (by kernel_rfl) (by kernel_rfl)
  have hr2 : RdL ByR 1 (fun j => wA.heap.size ≤ j) (wA.alloc (.cells #[.int .u8 120] 5 (1, 2))) (some ⟨wA.heap.size, 0, none⟩) 1 xX := marked_rd (w := wA) (t := 5) (m := (1, 2)) xX_byt (by decide)
  have hb2 : Below wA.heap.size wA (wA.alloc (.cells #[.int .u8 120] 5 (1, 2))) := (Below.refl _ _).alloc (Nat.le_refl _) _
  have hkc2 : (convert 68 68 (.slice (some ⟨wA.heap.size, 0, none⟩) 1 1)).run Tryz.prog (wA.alloc (.cells #[.int .u8 120] 5)) = .ok (.slice (some ⟨wA.heap.size, 0, none⟩) 1 1) (wA.alloc (.cells #[.int .u8 120] 5 (1, 2))) := hkc
  obtain ⟨w2, hw2⟩ : ∃ w2, wA.alloc (.cells #[.int .u8 120] 5 (1, 2)) = w2 := ⟨_, rfl⟩
  rw [hw2] at hr2 hb2 hkc2
  have HM2 := Lib.hid ((hX0.below' hb2).sub (Y := fun j => j = q) fun j hj => .inr (by omega))
  have bR2 := bR.below hb2
  have hpu := put_m HM2.out (r := rX) rX_ok (Lib.hid (by decide)) cache_new (c := 1) hr2 (Nat.le_refl _) (by decide)
  have eR : refC rX = #[.int .u8 3, .int .i64 1, .int .u64 4] := rfl
  rw [eR, live_new] at hpu
  have HPU := Lib.hid hpu
  clear hkc hr2 hb2 HM1 hbR bR hw2 hpu hX0 hqA
  have c0 : w2.cell? ⟨q, 0, none⟩ = some (.int .u8 3) ∧ w2.cell? ⟨q, 1, none⟩ = some (.int .i64 1) ∧ w2.cell? ⟨q, 2, none⟩ = some (.int .u64 4) := ⟨bR2.cell 0, bR2.cell 1, bR2.cell 2⟩
  go_wp2_with fail
  refine HPU.out.mono ?_
  clear HPU c0 cA hkc2 hwA hq HM2
  rintro e w3 ⟨rfl, hM3, hK3⟩
  have HM3 := Lib.hid (show MX (fun j => j = q) w w3 a cb bf 2 1 3 s1X from hM3)
  have bR3 := hK3.box bR2 rfl
  clear hM3 hK3 bR2
  have hf := fail_m HM3.out 2
  rw [if_pos (show (0 : Int) ≤ 2 ∧ (2 : Int) < (s1X.length : Nat) by decide +kernel)] at hf
  go_wp2_with fail
  refine hf.mono ?_
  clear hf HM3
  rintro e w4 ⟨rfl, hM4, hK4⟩
  have HM4 := Lib.hid hM4
  have bR4 := hK4.box bR3 rfl
  have hrp := repl_m HM4.out 2
  clear hM4 hK4 bR3
  go_wp2_with fail
  refine hrp.mono ?_
  clear hrp HM4
  rintro e w5 ⟨rfl, hM5, hK5⟩
  have HM5 := Lib.hid (show MX (fun j => j = q) w w5 a cb bf 2 1 3 s3X from hM5)
  have BR5 := Lib.hid (hK5.box bR4 rfl)
  have hsn := snew_any (w := w5)
  clear hM5 hK5 bR4
  go_wp2_with fail
  refine hsn.mono ?_
  clear hsn
  rintro e w6 ⟨s, rfl, hs5, bS, hb6⟩
  have hqs : q < s := by have := BR5.out.lt; omega
  have HM6 := Lib.hid ((HM5.out.below hb6).sub (Y := fun j => j = q ∨ j = s) (fun j hj => by
    rcases hj with h | h
    · exact .inl h
    · have := bS.lt; exact .inr (by omega)))
  have BR6 := Lib.hid (BR5.out.below hb6)
  have HS0 := Lib.hid (Nat.le_trans HM5.out.bel.size hs5)
  have BS6 := Lib.hid bS
  have HQS := Lib.hid hqs
  clear bS hb6 hs5 HM5 BR5 hqs
  have c6 : w6.cell? ⟨q, 0, none⟩ = some (.int .u8 3) ∧ w6.cell? ⟨q, 1, none⟩ = some (.int .i64 1) ∧ w6.cell? ⟨q, 2, none⟩ = some (.int .u64 4) := ⟨BR6.out.cell 0, BR6.out.cell 1, BR6.out.cell 2⟩
  have hb7 : Below w6.heap.size w6 (w6.alloc (.cells #[.int .u8 3, .int .i64 1, .int .u64 4] 38)) := (Below.refl _ _).alloc (Nat.le_refl _) _
  have hr7 : RdL RfIR 3 (fun _ => True) (w6.alloc (.cells #[.int .u8 3, .int .i64 1, .int .u64 4] 38)) (some ⟨w6.heap.size, 0, none⟩) 1 [rfX] := RdL.one RfIR.stable (S := NoB) (cs := #[.int .u8 3, .int .i64 1, .int .u64 4]) (y := rfX) rfl rfl
  have HOK4 := Lib.hid s4X_ok
  have hst := sstep_any (X := fun j => j = q) (sts1 := s4X) (cn := 1) (er := 0) (c := 1) (xs := [rfX]) (HM6.out.below' hb7) (BS6.out.below hb7) (by have := HQS.out; omega) HS0.out hr7 (by omega) (Nat.le_refl _) ⟨by omega, by omega⟩ rfl (fun _ st h => by have := s4X_cache st h; omega) (Lib.hid fun Y W hMW => by
    have hmm := mend_m (g := gX) (xs := xX) hMW rX_ok (Lib.hid (by decide)) xX_byt (by decide) (fun st h => by have := s3X_cache st h; omega) cX hX3
    rw [nX] at hmm
    exact hmm)
  rw [nx1, show (rfX, true).1.C = #[.int .u8 3, .int .i64 1, .int .u64 4] from rfl, show (rfX, true).1.place = 1 from rfl, show comeT false 0 0 (rfX, true).1 = 0 from rfl] at hst
  have HB7 := Lib.hid hb7
  clear hb7 hr7
  go_wp2_with fail
  refine hst.mono ?_
  clear hst c6
  rintro e w8 ⟨rfl, hM8, hK8, bS8⟩
  have HOK := HOK4
  have HM8 := Lib.hid (show MX (fun j => j = q ∨ j = s) w w8 a cb bf 2 1 3 (s4X.map flushG) from hM8)
  have BR8 := Lib.hid (hK8.box (BR6.out.below HB7.out) rfl)
  have BS8 := Lib.hid bS8
  clear hM8 hK8 bS8 HM6 BR6 BS6 HB7
  obtain ⟨wB, hwB⟩ : ∃ wB, w8.alloc (.cells #[.int .u8 3, .int .i64 1, .int .u64 4] 38) = wB := ⟨_, rfl⟩
  obtain ⟨p, hp⟩ : ∃ p, w8.heap.size = p := ⟨_, rfl⟩
  have hbB : Below w8.heap.size w8 wB := by rw [← hwB]; exact (Below.refl _ _).alloc (Nat.le_refl _) _
  have bP : BoxAt wB p #[.int .u8 3, .int .i64 1, .int .u64 4] := by rw [← hwB, ← hp]; exact BoxAt.new _ _ _
  have hpB : wB.heap.size = p + 1 := by rw [← hwB, World.size_alloc, hp]
  obtain ⟨wC, hwC⟩ : ∃ wC, wB.alloc (.cells #[.int .u8 0, .int .i64 4, .int .u64 0, .int .u8 0, .int .i64 2, .int .u64 0, .int .u8 0, .int .i64 9, .int .u64 0] 38) = wC := ⟨_, rfl⟩
  have hbC : Below wB.heap.size wB wC := by rw [← hwC]; exact (Below.refl _ _).alloc (Nat.le_refl _) _
  have hb8C : Below w8.heap.size w8 wC := hbB.trans (hbC.mono hbB.size)
  have bL : BoxAt wC (p + 1) #[.int .u8 0, .int .i64 4, .int .u64 0, .int .u8 0, .int .i64 2, .int .u64 0, .int .u8 0, .int .i64 9, .int .u64 0] := by rw [← hwC, ← hpB]; exact BoxAt.new _ _ _
  have hnx := snext_any (c := 3) (BS8.out.below hb8C) (rfi3 bL) (by omega) (Nat.le_refl _)
  rw [nx2, show ((⟨0, 2, 0⟩ : RfI), true).1.C = #[.int .u8 0, .int .i64 2, .int .u64 0] from rfl, show ((⟨0, 2, 0⟩ : RfI), true).2 = true from rfl] at hnx
  have BRC := Lib.hid (BR8.out.below hb8C)
  have BSC := Lib.hid (BS8.out.below hb8C)
  have BPC := Lib.hid (bP.below hbC)
  have HMC := Lib.hid (HM8.out.below' hb8C)
  have c8 : w8.cell? ⟨q, 0, none⟩ = some (.int .u8 3) ∧ w8.cell? ⟨q, 1, none⟩ = some (.int .i64 1) ∧ w8.cell? ⟨q, 2, none⟩ = some (.int .u64 4) := ⟨BR8.out.cell 0, BR8.out.cell 1, BR8.out.cell 2⟩
  clear hbB bP hbC hb8C bL HM8 BR8 BS8
  go_wp2_with fail
  refine hnx.mono ?_
  clear hnx hwB hp hwC hpB c8
  rintro e wD ⟨rfl, hbD⟩
  have BRD := Lib.hid (BRC.out.below hbD)
  have BPD := Lib.hid (BPC.out.below hbD)
  have BSD := Lib.hid (BSC.out.below hbD)
  have HMD := Lib.hid (HMC.out.below' hbD)
  obtain ⟨wE, hwE⟩ : ∃ wE, wD.alloc (.cells #[.int .u8 0, .int .i64 2, .int .u64 0] 38) = wE := ⟨_, rfl⟩
  obtain ⟨y, hy⟩ : ∃ y, wD.heap.size = y := ⟨_, rfl⟩
  have hbE : Below wD.heap.size wD wE := by rw [← hwE]; exact (Below.refl _ _).alloc (Nat.le_refl _) _
  have bY : BoxAt wE y #[.int .u8 0, .int .i64 2, .int .u64 0] := by rw [← hwE, ← hy]; exact BoxAt.new _ _ _
  have BRE := Lib.hid (BRD.out.below hbE)
  have BPE := Lib.hid (BPD.out.below hbE)
  have BSE := Lib.hid (BSD.out.below hbE)
  have HME := Lib.hid (HMD.out.below' hbE)
  have BYE := Lib.hid bY
  have cE : wD.cell? ⟨q, 0, none⟩ = some (.int .u8 3) ∧ wD.cell? ⟨q, 1, none⟩ = some (.int .i64 1) ∧ wD.cell? ⟨q, 2, none⟩ = some (.int .u64 4) := ⟨BRD.out.cell 0, BRD.out.cell 1, BRD.out.cell 2⟩
  have cP : wD.cell? ⟨p, 0, none⟩ = some (.int .u8 3) ∧ wD.cell? ⟨p, 1, none⟩ = some (.int .i64 1) ∧ wD.cell? ⟨p, 2, none⟩ = some (.int .u64 4) := ⟨BPD.out.cell 0, BPD.out.cell 1, BPD.out.cell 2⟩
  have hqD := BRD.out.lt
  have hpD := BPD.out.lt
  have hms := missing_any (r := rfX) (g := fun _ => true) (N := 3) HME.out.cnt (HME.out.whc (r := rX) (xs := xX) (rf := rfX) rX_ok (Lib.hid (by decide)) xX_byt (by decide) (hX5 HOK.out) rfl rfl) (by omega)
  rw [show rfX.C = #[.int .u8 3, .int .i64 1, .int .u64 4] from rfl, show (missL (fun _ => true) 3).length = 0 from rfl] at hms
  subst hwE; subst hy
  clear hbD hbE bY BRC BPC BSC HMC BRD BPD BSD HMD
  go_wp2_with fail
  refine hms.mono ?_
  clear hms
  rintro e wF ⟨rfl, hbF⟩
  have hbY := BYE.out.below hbF
  have cY : wF.cell? ⟨wD.heap.size, 1, none⟩ = some (.int .i64 2) := hbY.cell 1
  have htu := sturns_any (BSE.out.below hbF)
  have HBF := Lib.hid (HME.out.below' hbF).bel
  clear hbY hbF cE cP
  go_wp2_with fail
  refine htu.mono ?_
  clear htu
  rintro e wG ⟨rfl, hG⟩
  subst hG
  go_wp2_with fail
  go_ret
  exact ⟨rfl, HBF.out⟩
end
section
/-- The scrubber behind i steps over L stripes. -/
def scS (L i : Nat) : Array Value := if i = 0 then scrC false 0 0 else scrC true (((i - 1) % L : Nat) : Int) (((i - 1) / L : Nat) : Int)
theorem mod_next (L i : Nat) (h : 0 < i) : ((i - 1) % L + 1) % L = i % L := by rw [Nat.mod_add_mod, Nat.sub_add_cancel h]
theorem turn_next {L i : Nat} (hL : 1 ≤ L) (h : 0 < i) : (i % L ≤ (i - 1) % L → i / L = (i - 1) / L + 1) ∧ (¬ i % L ≤ (i - 1) % L → i / L = (i - 1) / L) := by
  have h1 := Nat.div_add_mod i L
  have h2 := Nat.div_add_mod (i - 1) L
  have h3 := mod_next L i h
  have h4 := Nat.mod_lt (i - 1) (show L > 0 by omega)
  by_cases e : (i - 1) % L + 1 = L
  · rw [e, Nat.mod_self] at h3
    rw [← h3] at h1 ⊢
    have h5 : L * ((i - 1) / L + 1) = L * (i / L) := by rw [Nat.mul_add, Nat.mul_one]; omega
    have h6 := Nat.eq_of_mul_eq_mul_left (show 0 < L by omega) h5
    exact ⟨fun _ => h6.symm, fun h => absurd (Nat.zero_le _) h⟩
  · rw [Nat.mod_eq_of_lt (by omega)] at h3
    rw [← h3] at h1 ⊢
    have h5 : L * ((i - 1) / L) = L * (i / L) := by omega
    have h6 := Nat.eq_of_mul_eq_mul_left (show 0 < L by omega) h5
    exact ⟨fun h => by omega, fun _ => h6.symm⟩
/-- A step where all is whole: the next one, and nothing changes. -/
theorem sstep_whole {X : Nat → Prop} {w0 w : World} {a cb bf k m n : Nat} {sts : List DSt} {ps : List Pt} {s i L : Nat} {S : Nat → Prop} {A : Option Addr} {c : Nat} {xs : List RfI}
    (hM : MX (fun j => X j ∨ j = s) w0 w a cb bf k m n sts) (hs : BoxAt w s (scS L i)) (hsX : ¬ X s) (hs0 : w0.heap.size ≤ s) (R : RdL RfIR 3 S w A L xs) (hLc : L ≤ c) (hL : 1 ≤ L) (hL2 : L ≤ 600) (hi : i ≤ 1000)
    (hx : Around (ptR ps) L xs) (hpl : ps.length = L) (hp : PtOk k n ps) (hq : Qt n (k + m) sts) (hv : Vws k (k + m) ps (fun _ _ => true) sts) :
    Calls Tryz.prog 38 #[.pointer (some ⟨s, 0, none⟩), .pointer (some ⟨a, 0, none⟩), .pointer (some ⟨cb, 0, none⟩), .slice A L c] w fun e w' =>
      e = .returned (.tuple #[.agg (ptR ps (i % L)).C, .int .i64 0, .int .i64 0]) ∧ MX (fun j => X j ∨ j = s) w0 w' a cb bf k m n sts ∧ KpX X w w' ∧ BoxAt w' s (scS L (i + 1)) := by
  have hml := Nat.mod_lt i (show L > 0 by omega)
  obtain ⟨p, hpi⟩ : ∃ p, ps[i % L]? = some p := ⟨_, List.getElem?_eq_getElem (by omega)⟩
  have key : ∀ {began : Bool} {place turns : Int}, BoxAt w s (scrC began place turns) → 0 ≤ turns ∧ turns < 1000000 → nextR began place xs = (ptR ps (i % L), true) → comeT began place turns (ptR ps (i % L)) = ((i / L : Nat) : Int) → Calls Tryz.prog 38 #[.pointer (some ⟨s, 0, none⟩), .pointer (some ⟨a, 0, none⟩), .pointer (some ⟨cb, 0, none⟩), .slice A L c] w fun e w' =>
      e = .returned (.tuple #[.agg (ptR ps (i % L)).C, .int .i64 0, .int .i64 0]) ∧ MX (fun j => X j ∨ j = s) w0 w' a cb bf k m n sts ∧ KpX X w w' ∧ BoxAt w' s (scS L (i + 1)) := by
    intro began place turns hb ht hn hc
    have hst := sstep_any (X := X) (sts1 := sts) (cn := 0) (er := 0) (c := c) hM hb hsX hs0 R (by omega) hLc ht (by rw [hn]) (fun _ => hq.cache (by omega)) (Lib.hid fun Y W hMW => by
      have hmm := mend_m (g := fun _ => true) (xs := p.2) hMW (hp.ref hpi) (hp.hgen hpi) (hp.byt p (List.mem_of_getElem? hpi)) (hp.sz p (List.mem_of_getElem? hpi)) (hq.cache (by omega)) (by rw [cntP_all]; omega) (hv _ p hpi)
      have hc0 : cntP (fun d => !((fun _ : Nat => true) d) && !deadL sts d) (k + m) = 0 := by
        rw [← cntP_none (k + m)]
        exact cntP_congr fun d _ => rfl
      rw [hc0, mend_none] at hmm
      rw [hn]
      show Calls _ _ #[_, _, .agg (ptR ps (i % L)).C] _ _
      rw [ptR_C hpi]
      exact hmm)
    rw [hn] at hst
    dsimp only at hst
    rw [hc, show stepQ 0 sts = sts by unfold stepQ; rw [if_pos rfl, hq.same]] at hst
    have e : scS L (i + 1) = scrC true (ptR ps (i % L)).place ((i / L : Nat) : Int) := by unfold scS; rw [if_neg (by omega), Nat.add_sub_cancel]; rfl
    rw [e]
    exact hst
  by_cases h0 : i = 0
  · subst h0
    unfold scS at hs
    rw [if_pos rfl] at hs
    rw [Nat.zero_mod] at key ⊢
    refine key hs ⟨by omega, by omega⟩ (hx.next hL (.inl ⟨rfl, rfl⟩)) ?_
    unfold comeT
    rw [if_neg (by simp), Nat.zero_div]
    rfl
  · unfold scS at hs
    rw [if_neg h0] at hs
    have hd := Nat.div_le_self (i - 1) L
    have h9 : ∀ t : Nat, t ≤ i - 1 → 0 ≤ (t : Int) ∧ (t : Int) < 1000000 := fun t h => by omega
    refine key hs (h9 _ hd) (hx.next hL (.inr ⟨(i - 1) % L, rfl, rfl, Nat.mod_lt _ (by omega), (mod_next L i (by omega)).symm⟩)) ?_
    obtain ⟨t1, t2⟩ := turn_next hL (show 0 < i by omega)
    unfold comeT
    rw [show (ptR ps (i % L)).place = ((i % L : Nat) : Int) from rfl]
    by_cases hle : i % L ≤ (i - 1) % L
    · rw [if_pos ⟨rfl, by omega⟩, t1 hle]; push_cast; rfl
    · rw [if_neg (fun h => hle (by have := h.2; omega)), t2 hle]
end
section
section
variable {X : Nat → Prop} {w0 w : World} {a cb bf k m n : Nat} {sts sts1 : List DSt} {ps : List Pt} {gs : Nat → Nat → Bool} {s i L : Nat} {S : Nat → Prop} {A : Option Addr} {c : Nat} {xs : List RfI} {cn er : Int}
theorem sstep_at (hM : MX (fun j => X j ∨ j = s) w0 w a cb bf k m n sts) (hs : BoxAt w s (scS L i)) (hsX : ¬ X s) (hs0 : w0.heap.size ≤ s) (R : RdL RfIR 3 S w A L xs) (hLc : L ≤ c) (hL : 1 ≤ L) (hL2 : L ≤ 600) (hi : i ≤ 1000)
    (hx : Around (ptR ps) L xs) (hcl : er = 0 → ∀ st ∈ sts1, st.cache.length < 1000000)
    (hmd : Hid (∀ (Y : Nat → Prop) W, MX Y w0 W a cb bf k m n sts → Calls Tryz.prog 85 #[.pointer (some ⟨a, 0, none⟩), .pointer (some ⟨cb, 0, none⟩), .agg (ptR ps (i % L)).C] W fun e W' => e = .returned (.tuple #[.int .i64 cn, .int .i64 er]) ∧ MX Y w0 W' a cb bf k m n sts1 ∧ KpX Y W W')) :
    Calls Tryz.prog 38 #[.pointer (some ⟨s, 0, none⟩), .pointer (some ⟨a, 0, none⟩), .pointer (some ⟨cb, 0, none⟩), .slice A L c] w fun e w' =>
      e = .returned (.tuple #[.agg (ptR ps (i % L)).C, .int .i64 cn, .int .i64 er]) ∧ MX (fun j => X j ∨ j = s) w0 w' a cb bf k m n (stepQ er sts1) ∧ KpX X w w' ∧ BoxAt w' s (scS L (i + 1)) := by
  have key : ∀ {began : Bool} {place turns : Int}, BoxAt w s (scrC began place turns) → 0 ≤ turns ∧ turns < 1000000 → nextR began place xs = (ptR ps (i % L), true) → comeT began place turns (ptR ps (i % L)) = ((i / L : Nat) : Int) → Calls Tryz.prog 38 #[.pointer (some ⟨s, 0, none⟩), .pointer (some ⟨a, 0, none⟩), .pointer (some ⟨cb, 0, none⟩), .slice A L c] w fun e w' =>
      e = .returned (.tuple #[.agg (ptR ps (i % L)).C, .int .i64 cn, .int .i64 er]) ∧ MX (fun j => X j ∨ j = s) w0 w' a cb bf k m n (stepQ er sts1) ∧ KpX X w w' ∧ BoxAt w' s (scS L (i + 1)) := by
    intro began place turns hb ht hn hc
    have hst := sstep_any (X := X) (sts1 := sts1) (cn := cn) (er := er) (c := c) hM hb hsX hs0 R (by omega) hLc ht (by rw [hn]) hcl (Lib.hid fun Y W hMW => by
      rw [hn]
      exact hmd.out Y W hMW)
    rw [hn] at hst
    dsimp only at hst
    rw [hc] at hst
    have e : scS L (i + 1) = scrC true (ptR ps (i % L)).place ((i / L : Nat) : Int) := by unfold scS; rw [if_neg (by omega), Nat.add_sub_cancel]; rfl
    rw [e]
    exact hst
  by_cases h0 : i = 0
  · subst h0
    unfold scS at hs
    rw [if_pos rfl] at hs
    rw [Nat.zero_mod] at key ⊢
    refine key hs ⟨by omega, by omega⟩ (hx.next hL (.inl ⟨rfl, rfl⟩)) ?_
    unfold comeT
    rw [if_neg (by simp), Nat.zero_div]
    rfl
  · unfold scS at hs
    rw [if_neg h0] at hs
    have hd := Nat.div_le_self (i - 1) L
    have h9 : ∀ t : Nat, t ≤ i - 1 → 0 ≤ (t : Int) ∧ (t : Int) < 1000000 := fun t h => by omega
    refine key hs (h9 _ hd) (hx.next hL (.inr ⟨(i - 1) % L, rfl, rfl, Nat.mod_lt _ (by omega), (mod_next L i (by omega)).symm⟩)) ?_
    obtain ⟨t1, t2⟩ := turn_next hL (show 0 < i by omega)
    unfold comeT
    rw [show (ptR ps (i % L)).place = ((i % L : Nat) : Int) from rfl]
    by_cases hle : i % L ≤ (i - 1) % L
    · rw [if_pos ⟨rfl, by omega⟩, t1 hle]; push_cast; rfl
    · rw [if_neg (fun h => hle (by have := h.2; omega)), t2 hle]
/-- Enough is left: it is made anew. -/
theorem sstep_mend (hM : MX (fun j => X j ∨ j = s) w0 w a cb bf k m n sts) (hs : BoxAt w s (scS L i)) (hsX : ¬ X s) (hs0 : w0.heap.size ≤ s) (R : RdL RfIR 3 S w A L xs) (hLc : L ≤ c) (hL : 1 ≤ L) (hL2 : L ≤ 600) (hi : i ≤ 1000)
    (hx : Around (ptR ps) L xs) (hpl : ps.length = L) (hp : PtOk k n ps) (hq : Qt n (k + m) sts) (hv : Vws k (k + m) ps gs sts) (hen : k ≤ cntP (gs (i % L)) (k + m)) :
    Calls Tryz.prog 38 #[.pointer (some ⟨s, 0, none⟩), .pointer (some ⟨a, 0, none⟩), .pointer (some ⟨cb, 0, none⟩), .slice A L c] w fun e w' => ∃ sts',
      e = .returned (.tuple #[.agg (ptR ps (i % L)).C, .int .i64 (misN gs (k + m) (i % L) : Nat), .int .i64 0]) ∧ MX (fun j => X j ∨ j = s) w0 w' a cb bf k m n sts' ∧ KpX X w w' ∧ BoxAt w' s (scS L (i + 1)) ∧ Qt n (k + m) sts' ∧ Vws k (k + m) ps (mendG gs (i % L)) sts' := by
  have hml := Nat.mod_lt i (show L > 0 by omega)
  obtain ⟨p, hpi⟩ : ∃ p, ps[i % L]? = some p := ⟨_, List.getElem?_eq_getElem (by omega)⟩
  obtain ⟨m1, m2, m3, m4⟩ := mend_step hq hv hp hpi
  refine (sstep_at (c := c) (cn := (misN gs (k + m) (i % L) : Nat)) (er := 0) hM hs hsX hs0 R hLc hL hL2 hi hx (fun _ st h => by have := m2 st h; omega) (Lib.hid fun Y W hMW => by
    have hmm := mend_m (g := gs (i % L)) (xs := p.2) hMW (hp.ref hpi) (hp.hgen hpi) (hp.byt p (List.mem_of_getElem? hpi)) (hp.sz p (List.mem_of_getElem? hpi)) (hq.cache (by omega)) hen (hv _ p hpi)
    rw [m1] at hmm
    rw [ptR_C hpi]
    exact hmm)).mono ?_
  rintro e w' ⟨he, hM', hK, hB⟩
  exact ⟨_, he, hM', hK, hB, by unfold stepQ; rw [if_pos rfl]; exact m3, by unfold stepQ; rw [if_pos rfl]; exact m4⟩
end
/-! ### ScrubLost: plain -/
end
section
theorem run_max_s (ts : Array TypeId) (t : TypeId) (x y : Int) (w : World) : (Builtin.max_ ts t #[.int .i64 x, .int .i64 y]).run Tryz.prog w = .ok (.int .i64 (max x y)) w := run_max_l ts t x y w
theorem run_min_s (ts : Array TypeId) (t : TypeId) (x y : Int) (w : World) : (Builtin.min_ ts t #[.int .i64 x, .int .i64 y]).run Tryz.prog w = .ok (.int .i64 (min x y)) w := by
  rw [run_min_int2, show (if y < x then y else x) = min x y by omega]
attribute [local go_sem ↓] run_max_s run_min_s
theorem ptOk_small {k s : Nat} {ps : List Pt} (hs : s ≤ 8) (h : smallP k (s : Int) ps = true) (hg : ∀ p ∈ ps, p.1 < 2 ^ 64) (hb : ∀ p ∈ ps, Byt p.2) : PtOk k s ps := by
  obtain ⟨_, h2, h3⟩ := smallP_ok hs h
  exact ⟨h2, hg, hb, h3⟩
theorem pt_byt {S : Nat → Prop} {w : World} {A : Option Addr} {L : Nat} {ps : List Pt} (R : RdL PtR 2 S w A L ps) : ∀ p ∈ ps, Byt p.2 := fun p hp => by
  obtain ⟨i, hi⟩ := List.getElem?_of_mem hp
  have hl : i < L := by rw [← R.1]; exact (List.getElem?_eq_some_iff.1 hi).1
  obtain ⟨b, o, x, A2, n, c, _, hx, _, _, _, _, _, hr⟩ := pt_at R hl
  rw [hi] at hx
  obtain rfl := Option.some.inj hx
  exact by_byt hr
end
section
attribute [local go_sem ↓] run_max_s run_min_s
section
variable {X : Nat → Prop} {w0 w w' : World} {a cb bf k m n : Nat} {ps : List Pt} {gs gs' : Nat → Nat → Bool}
/-- Between two rots. -/
def LsI (X : Nat → Prop) (w0 w : World) (a cb bf k m n : Nat) (ps : List Pt) (gs : Nat → Nat → Bool) : Prop := ∃ sts, MX X w0 w a cb bf k m n sts ∧ Qt n (k + m) sts ∧ Vws k (k + m) ps gs sts ∧ RtV k (k + m) ps gs sts
theorem LsI.congr (h : LsI X w0 w a cb bf k m n ps gs) (hg : ∀ p, p < ps.length → ∀ x, gs' p x = gs p x) : LsI X w0 w a cb bf k m n ps gs' := by
  obtain ⟨sts, h1, h2, h3, h4⟩ := h
  exact ⟨sts, h1, h2, fun i p hi => (h3 i p hi).congr fun x _ => hg i (List.getElem?_eq_some_iff.1 hi).1 x, fun i p d st hi hd => by rw [hg i (List.getElem?_eq_some_iff.1 hi).1 d]; exact h4 i p d st hi hd⟩
theorem LsI.rot (h : LsI X w0 w a cb bf k m n ps gs) (hp : PtOk k n ps) {d z : Nat} (hd : d < k + m) :
    Calls Tryz.prog 32 #[.pointer (some ⟨a, 0, none⟩), .int .i64 (d : Int), .int .i64 (z : Int), .int .i64 16, .int .u32 255] w fun e w' => (∃ E : Int, e = .returned (.int .i64 E)) ∧ LsI X w0 w' a cb bf k m n ps (rotG gs d z) ∧ KpX X w w' := by
  obtain ⟨sts, h1, h2, h3, h4⟩ := h
  have hpo := h1.pos
  obtain ⟨r1, r2, r3⟩ := rot_step (d := d) (z := z) h2 h3 h4 hp (by omega) (by omega) (by omega) (by omega) hd
  refine (rot_m h1 (d : Int) (z : Int) 16 255).mono ?_
  rintro e w' ⟨he, hM, hK⟩
  exact ⟨⟨_, he⟩, ⟨_, hM, r1, r2, r3⟩, hK⟩
end
end
section
theorem home_add (L F i : Nat) : homeN L F i = (F + i) % L := (Nat.add_mod F i L).symm
theorem home_inj {L F i j : Nat} (hi : i < L) (hj : j < L) (h : homeN L F i = homeN L F j) : i = j := by
  have h1 := ix_home (n := L) (p := F) (by omega) hi
  have h2 := ix_home (n := L) (p := F) (by omega) hj
  rw [← h1, ← h2, h]
/-- Behind the first i of the steps that go round once from the F-th on. -/
def visG (gs : Nat → Nat → Bool) (L F i p x : Nat) : Bool := (List.range i).any (fun j => decide (homeN L F j = p)) || gs p x
theorem visG_next (gs : Nat → Nat → Bool) (L F i p x : Nat) : mendG (visG gs L F i) (homeN L F i) p x = visG gs L F (i + 1) p x := by
  unfold mendG visG
  rw [List.range_succ, List.any_append]
  by_cases e : p = homeN L F i
  · rw [if_pos e]
    simp [e]
  · rw [if_neg e]
    have : decide (homeN L F i = p) = false := decide_eq_false fun h => e h.symm
    simp [this]
theorem visG_at {gs : Nat → Nat → Bool} {L F i : Nat} (hi : i < L) (x : Nat) : visG gs L F i (homeN L F i) x = gs (homeN L F i) x := by
  unfold visG
  rw [show (List.range i).any (fun j => decide (homeN L F j = homeN L F i)) = false from List.any_eq_false.2 fun j hj => by
    have := List.mem_range.1 hj
    simp only [decide_eq_true_eq]
    intro h
    have := home_inj (show j < L by omega) hi h
    omega]
  rfl
theorem visG_all {gs : Nat → Nat → Bool} {L F p : Nat} (hp : p < L) (x : Nat) : visG gs L F L p x = true := by
  unfold visG
  rw [show (List.range L).any (fun j => decide (homeN L F j = p)) = true from List.any_eq_true.2 ⟨ixN L F p, List.mem_range.2 (ixN_lt (by omega)), decide_eq_true (home_ix (by omega) hp)⟩]
  rfl
theorem mis_congr {gs gs' : Nat → Nat → Bool} {N p : Nat} (h : ∀ x, x < N → gs p x = gs' p x) : misN gs N p = misN gs' N p := by
  have h1 := mis_cnt gs N p
  have h2 := mis_cnt gs' N p
  have h3 := cntP_congr (p := gs p) (q := gs' p) (n := N) h
  omega
/-- What is made anew by the first i of the steps. -/
def partM (gs : Nat → Nat → Bool) (N L F : Nat) : Nat → Nat
  | 0 => 0
  | i + 1 => partM gs N L F i + misN gs N (homeN L F i)
theorem partM_sum (gs : Nat → Nat → Bool) (N L F : Nat) : ∀ i, partM gs N L F i = (((List.range i).map (homeN L F)).map (misN gs N)).sum
  | 0 => rfl
  | i + 1 => by
    rw [partM, partM_sum gs N L F i, List.range_succ, List.map_append, List.map_append, List.sum_append]
    simp
theorem sumM_sum (gs : Nat → Nat → Bool) (N : Nat) : ∀ i, sumM gs N i = ((List.range i).map (misN gs N)).sum
  | 0 => rfl
  | i + 1 => by
    rw [sumM, sumM_sum gs N i, List.range_succ, List.map_append, List.sum_append]
    simp
theorem home_perm {L : Nat} (hL : 1 ≤ L) (F : Nat) : ((List.range L).map (homeN L F)).Perm (List.range L) := by
  rw [home_map hL, range_cut L (F % L) (Nat.le_of_lt (Nat.mod_lt _ (by omega)))]
  exact List.perm_append_comm
theorem partM_all (gs : Nat → Nat → Bool) (N : Nat) {L : Nat} (hL : 1 ≤ L) (F : Nat) : partM gs N L F L = sumM gs N L := by
  rw [partM_sum, sumM_sum]
  exact ((home_perm hL F).map _).sum_nat
theorem partM_mono (gs : Nat → Nat → Bool) (N L F : Nat) : ∀ i j, i ≤ j → partM gs N L F i ≤ partM gs N L F j
  | i, 0, h => by obtain rfl : i = 0 := by omega
                  exact Nat.le_refl _
  | i, j + 1, h => by
    by_cases e : i = j + 1
    · rw [e]; exact Nat.le_refl _
    · have := partM_mono gs N L F i j (by omega)
      rw [partM]
      omega
theorem maxM_at {gs : Nat → Nat → Bool} {N : Nat} : ∀ {L i : Nat}, i < L → misN gs N i ≤ maxM gs N L
  | L + 1, i, h => by
    rw [maxM]
    by_cases e : i = L
    · rw [e]; omega
    · have := maxM_at (gs := gs) (N := N) (show i < L by omega)
      omega
theorem sum_all (N : Nat) {gs : Nat → Nat → Bool} : ∀ {L : Nat}, (∀ p, p < L → ∀ x, gs p x = true) → sumM gs N L = 0
  | 0, _ => rfl
  | L + 1, h => by
    have ih := sum_all N (L := L) (gs := gs) fun p hp => h p (by omega)
    have h1 := mis_cnt gs N L
    have h2 : cntP (gs L) N = N := (cntP_congr (q := fun _ => true) fun x _ => h L (by omega) x).trans (cntP_all N)
    rw [sumM, ih]
    omega
/-- The names of the steps that were made. -/
def metL (ps : List Pt) (L F i : Nat) : List RfI := (List.range i).map fun j => ptR ps (homeN L F j)
theorem metL_at (ps : List Pt) (L F : Nat) {i j : Nat} (h : j < i) : (metL ps L F i)[j]? = some (ptR ps (homeN L F j)) := by unfold metL; rw [List.getElem?_map, List.getElem?_range h]; rfl
theorem metL_next (ps : List Pt) (L F i : Nat) : metL ps L F (i + 1) = metL ps L F i ++ [ptR ps (homeN L F i)] := by unfold metL; rw [List.range_succ, List.map_append]; rfl
end
section
end
section
def wd (ws : List Nat) (j : Nat) : Nat := ws.getD j 0
/-- Is a place taken? -/
def tk (ws : List Nat) (i : Nat) : Bool := (wd ws (i / 64)).testBit (i % 64)
structure WordsOk (n : Nat) (ws : List Nat) : Prop where
  len : ws.length = (n + 63) / 64
  lt : ∀ v ∈ ws, v < 2 ^ 64
  out : ∀ i, n ≤ i → tk ws i = false
end
section
/-- A map of places in memory. -/
structure BmAt (w : World) (o g n : Nat) (ws : List Nat) : Prop where
  box : BoxAt w o #[.int .i64 (n : Int), .slice (some ⟨g, 0, none⟩) ws.length ws.length, .bool true]
  row : BoxAt w g (ws.map fun v : Nat => Value.int .u64 (v : Int)).toArray
  ok : WordsOk n ws
  ne : o ≠ g
  n1 : n ≤ 60000
section
variable {w w' : World} {o g n : Nat} {ws : List Nat}
theorem BmAt.keep {F : Nat → Prop} (h : BmAt w o g n ws) (hK : Keep F w w') (ho : ¬ F o) (hg : ¬ F g) : BmAt w' o g n ws := ⟨h.box.keeps hK ho, h.row.keeps hK hg, h.ok, h.ne, h.n1⟩
theorem BmAt.below (h : BmAt w o g n ws) (hb : Below w.heap.size w w') : BmAt w' o g n ws := ⟨h.box.below hb, h.row.below hb, h.ok, h.ne, h.n1⟩
theorem BmAt.kp {X : Nat → Prop} (h : BmAt w o g n ws) (hK : ∀ j, X j → w'.heap[j]? = w.heap[j]?) (ho : X o) (hg : X g) : BmAt w' o g n ws := ⟨h.box.keep (hK o ho), h.row.keep (hK g hg), h.ok, h.ne, h.n1⟩
theorem BmAt.cells (h : BmAt w o g n ws) : w.cell? ⟨o, 0, none⟩ = some (.int .i64 (n : Int)) ∧ w.cell? ⟨o, 1, none⟩ = some (.slice (some ⟨g, 0, none⟩) ws.length ws.length) ∧ w.cell? ⟨o, 2, none⟩ = some (.bool true) := ⟨h.box.cell 0, h.box.cell 1, h.box.cell 2⟩
end
end
section
/-- What Least has looked up so far. -/
structure LsJ (lb mb B many : Nat) (l : List Int) (v : Value) (W : World) : Prop where
  out : BoxAt W lb #[v]
  mst : BoxAt W mb #[.int .i64 (many : Int)]
  own : OwnL IntR 3 1 B (fun _ => False) W v l.length l
  ne : v.ownBlock ≠ some lb
  hm : mb < B
  lb0 : B ≤ lb
  low : B ≤ W.heap.size
theorem LsJ.below {lb mb B many : Nat} {l : List Int} {v : Value} {W W' : World} (h : LsJ lb mb B many l v W) (hb : Below W.heap.size W W') : LsJ lb mb B many l v W' := ⟨h.out.below hb, h.mst.below hb, h.own.keep IntR.stable hb, h.ne, h.hm, h.lb0, Nat.le_trans h.low hb.size⟩
end
section
section
variable {w w' : World} {o g n : Nat} {ws : List Nat}
theorem run_max_b2 (ts : Array TypeId) (t : TypeId) (x y : Int) (w : World) : (Builtin.max_ ts t #[.int .i64 x, .int .i64 y]).run Tryz.prog w = .ok (.int .i64 (max x y)) w := by
  rw [run_max_int2, show (if x < y then y else x) = max x y by omega]
attribute [local go_sem ↓] run_max_b2
end
end
section
section
variable {w w' : World} {o g n : Nat} {ws : List Nat}
end
end
end Go.Proofs.YtihnlhfngmbglaaGreat
