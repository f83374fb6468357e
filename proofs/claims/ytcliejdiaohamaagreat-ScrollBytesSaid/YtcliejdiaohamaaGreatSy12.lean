/-
  The map of places that are taken: New; the least free places.
  The least free places of the map.
  Least; a pool's small questions.
  A pool: the small questions, Free, places.
  A pool: generations; Take.
  A pool gives out places; a new pool.
  A new pool; a pool's copy.
  Blobs: how many stripes, their names, pieces.
  Places and generations for a value.
  A value is put.
  Whether a blob may be; how long its stripes should be.
  A value is got.
  A law's base: rows, and places of a pool: is it small?
  A law's base: drives, a coder and a pool are made.
  A value is put: no room, too long.
  Without drives, a coder or a pool nothing is put or got; too long a value is not put.
-/
import Derived.Test.YtcliejdiaohamaaGreatSy11
import Derived.Test.YtcliejdiaohamaaGreatSy1
import Derived.Test.YtcliejdiaohamaaGreatSy3
set_option linter.unusedSimpArgs false
set_option linter.unusedVariables false
namespace Go.Proofs.YtcliejdiaohamaaGreat
open Go.RowKit Go.Cib
attribute [local go_sem] cell_set Later.cell Later.frozen Grw.cell Grw.frozen
theorem sl_intB : SlTy Tryz.prog 46 3 (.int .i64 0) 1 8 := ⟨by kernel_rfl, by kernel_rfl, rfl, by decide⟩
theorem wordInfo : (Tryz.prog.info? 22).map (fun i => (i.zero, i.size, i.bytes)) = some (some (.int .u64 0), 1, 8) := by kernel_rfl
theorem makeWords (k : Nat) (hk : k ≤ 1000000) (w : World) : (Instr.makeSlice 221 (.int .i64 (k : Int)) (.int .i64 (k : Int))).run Tryz.prog w = .ok (.slice (some ⟨w.heap.size, 0, none⟩) k k) (w.alloc (.cells (Array.replicate k (.int .u64 0)) 22)) := by
  obtain ⟨i, hi, hz, hs, hb⟩ := info_parts wordInfo
  have h := run_make (P := Tryz.prog) w 221 22 i (.int .u64 0) (by kernel_rfl) hi hz .i64 .i64 k k (by omega) (by omega) (by rw [hb]; omega) (by omega)
  simp only [Int.toNat_natCast, hs, Nat.mul_one] at h
  rw [h, show (Value.int .u64 0).cells = #[.int .u64 0] from rfl, madeCells_r]
set_option maxRecDepth 100000 in
set_option maxHeartbeats 4000000 in
theorem bnew_any {w : World} {n : Nat} (hn : n ≤ 60000) : Calls Tryz.prog 170 #[.int .i64 (n : Int)] w fun e w' => ∃ o g, e = .returned (.pointer (some ⟨o, 0, none⟩)) ∧ BmAt w' o g n (List.replicate ((n + 63) / 64) 0) ∧ w.heap.size ≤ o ∧ w.heap.size ≤ g ∧ Below w.heap.size w w' := by
  obtain ⟨m, hm⟩ : ∃ m, (n + 63) / 64 = m := ⟨_, rfl⟩
  have hmI : ((n : Int) + 64 - 1) / 64 = (m : Int) := by omega
  have hmI2 : Int.tdiv ((n : Int) + 64 - 1) 64 = (m : Int) := by rw [Int.tdiv_eq_ediv_of_nonneg (by omega)]; exact hmI
  have hmI3 : ((n : Int) + 63) / 64 = (m : Int) := by omega
  have hmk := makeWords m (by omega) w
  have hb0 : Below w.heap.size w (w.alloc (.cells (Array.replicate m (.int .u64 0)) 22)) := (Below.refl _ _).alloc (Nat.le_refl _) _
  have hrow := BoxAt.new w (Array.replicate m (.int .u64 0)) 22
  obtain ⟨w1, hw1⟩ : ∃ w1, w.alloc (.cells (Array.replicate m (.int .u64 0)) 22) = w1 := ⟨_, rfl⟩
  rw [hw1] at hmk hb0 hrow
  have hok := words_new n
  rw [hm] at hok ⊢
  have HOK := Lib.hid hok
  have HROW := Lib.hid hrow
  have HB0 := Lib.hid hb0
  have q0 : (0 : Int) ≤ (n : Int) := Int.natCast_nonneg _
  have q1 : (n : Int) ≤ 60000 := by omega
  have q2 : (m : Int) ≤ 1000 := by omega
  have HN := Lib.hid hn
  clear hok hrow hb0 hm hw1 hn
  go_enter Tryz.func170, Tryz.ntmps170
  go_wp2_with fail
  go_ret
  have hb1 := BoxAt.new w1 #[.int .i64 (n : Int), .slice (some ⟨w.heap.size, 0, none⟩) m m, .bool true] 278
  have hs1 := HB0.out.size
  have hl := HROW.out.lt
  refine ⟨_, w.heap.size, rfl, ⟨?_, ?_, HOK.out, ?_, HN.out⟩, hs1, Nat.le_refl _, HB0.out.alloc hs1 _⟩
  · rw [List.length_replicate]; exact hb1
  · have h2 := HROW.out.alloc (.cells #[.int .i64 (n : Int), .slice (some ⟨w.heap.size, 0, none⟩) m m, .bool true] 278)
    rw [List.map_replicate, List.toArray_replicate]
    exact h2
  · omega
theorem own_store {base n : Nat} {w : World} {v : Value} {xs : List Int} {lb : Nat} (h : OwnL IntR 3 1 base (fun _ => False) w v n xs) (hne : v.ownBlock ≠ some lb) (x : Value) : OwnL IntR 3 1 base (fun _ => False) (w.setCell ⟨lb, 0, none⟩ x) v n xs :=
  h.other (v2 := .slice (some ⟨lb, 0, none⟩) 0 0) IntR.stable ⟨rfl, rfl, rfl, by rw [World.size_setCell]; exact Nat.le_refl _, fun k _ hn => Below.heap_setCell _ _ _ _ (fun e => hn (by rw [e]; rfl))⟩ (.inr hne) (fun _ h => h.elim) (fun _ h => h.elim)
/-- What Least has looked up so far. -/
structure LsJ (lb mb B many : Nat) (l : List Int) (v : Value) (W : World) : Prop where
  out : BoxAt W lb #[v]
  mst : BoxAt W mb #[.int .i64 (many : Int)]
  own : OwnL IntR 3 1 B (fun _ => False) W v l.length l
  ne : v.ownBlock ≠ some lb
  hm : mb < B
  lb0 : B ≤ lb
  low : B ≤ W.heap.size
theorem LsJ.below {lb mb B many : Nat} {l : List Int} {v : Value} {W W' : World} (h : LsJ lb mb B many l v W) (hb : Below W.heap.size W W') : LsJ lb mb B many l v W' := ⟨h.out.below hb, h.mst.below hb, h.own.keep IntR.stable hb, h.ne, h.hm, h.lb0, Nat.le_trans h.low hb.size⟩
def least1 (l : List Int) (i : Int) (t : Bool) : List Int := if t = true then l else l ++ [i]
set_option maxRecDepth 100000 in
set_option maxHeartbeats 4000000 in
theorem least1_any {W : World} {lb mb B many : Nat} {l : List Int} {v : Value} {i : Int} {t : Bool} (h : LsJ lb mb B many l v W) (hl : l.length ≤ 100000) (hmany : many ≤ 100000) :
    Calls Tryz.prog 250 #[.int .i64 i, .bool t, .pointer (some ⟨lb, 0, none⟩), .pointer (some ⟨mb, 0, none⟩)] W fun e W' => e = .returned (.bool (decide ((least1 l i t).length < many))) ∧ (∃ v', LsJ lb mb B many (least1 l i t) v' W') ∧ Below B W W' := by
  obtain ⟨A, c, rfl, hc⟩ := h.own.form
  have o0 := h.out.cell 0
  have m0 := h.mst.cell 0
  have H := Lib.hid h
  obtain ⟨n, hn⟩ : ∃ n, l.length = n := ⟨_, rfl⟩
  have q0 : (0 : Int) ≤ (n : Int) := Int.natCast_nonneg _
  have q1 : (n : Int) ≤ 100000 := by omega
  have HOWN := Lib.hid h.own
  rw [hn] at o0 hc HOWN
  have HN := Lib.hid hn
  cases t with
  | true =>
    have HE := Lib.hid (show decide (n < many) = decide ((least1 l i true).length < many) from by unfold least1; rw [if_pos rfl, hn])
    clear h hn
    go_enter Tryz.func250, Tryz.ntmps250
    go_wp2_with fail
    go_ret
    have e := HN.out
    subst e
    exact ⟨by rw [← HE.out]; rfl, ⟨_, by unfold least1; rw [if_pos rfl]; exact H.out⟩, Below.refl _ _⟩
  | false =>
    have f0 := h.out.frozen 0
    have HE := Lib.hid (show decide ((n : Int) + 1 < (many : Int)) = decide ((least1 l i false).length < many) from by unfold least1; rw [if_neg (by decide), List.length_append, hn]; exact decide_eq_decide.2 (by show _ ↔ n + 1 < many; omega))
    have hlow := h.low
    have hlt := h.out.lt
    have hmlt := h.mst.lt
    have hlm : ¬ lb = mb := by have := h.hm; have := h.lb0; omega
    have hlm2 : ¬ mb = lb := fun e => hlm e.symm
    have hneL : some lb ≠ (Value.slice A n c).ownBlock := by have := h.ne; rw [hn] at this; exact fun e => this e.symm
    have hneM : some mb ≠ (Value.slice A n c).ownBlock := fun e => by have := (HOWN.out.lt mb e.symm).1; have := h.hm; omega
    have HNEL := Lib.hid hneL
    have HNEM := Lib.hid hneM
    clear h hn hneL hneM
    go_enter Tryz.func250, Tryz.ntmps250
    go_wp2_with (at_builtin; go_must (refine wpList_push1 IntR.stable IntR.one sl_intB (by rfl) (by rfl) (base := B) (S := fun _ => False) (cs := #[.int .i64 i]) (y := i) (by rfl) (by rfl) HOWN.out (by rfl) (by rfl) (by unfold maxLen; omega) (by omega) hlow ?_); intro A8 c8 ug hc8 own9 hlt8 hb8 hat8; have HO9 := Lib.hid own9; have HB9 := Lib.hid hb8; have HU := Lib.hid ug.ok; have HAT := Lib.hid hat8; have bl := H.out.out.grw ug.ok HNEL.out; have bm := H.out.mst.grw ug.ok HNEM.out; have kb := bl.cell 0; have kf := bl.frozen 0; have km := bm.cell 0; have HAT := Lib.hid hat8; have HBL := Lib.hid bl; have HBM := Lib.hid bm; clear own9 hb8 hat8 bl bm)
    go_ret
    have e := HN.out
    subst e
    refine ⟨by rw [← HE.out]; rfl, ⟨.slice A8 (l.length + 1) c8, ?_⟩, HB9.out.setCell (p := ⟨lb, 0, none⟩) H.out.lb0 _⟩
    have el : least1 l i false = l ++ [i] := by unfold least1; rw [if_neg (by decide)]
    have el2 : (l ++ [i]).length = l.length + 1 := by simp
    have hne8 : (Value.slice A8 (l.length + 1) c8).ownBlock ≠ some lb := by
      rcases HAT.out with h1 | h1
      · rw [h1]; exact fun e => HNEL.out e.symm
      · rw [h1]; intro e; injection e with e; omega
    have hb9 := HB9.out
    refine ⟨?_, HBM.out.set_other (p := ⟨lb, 0, none⟩) hlm2 _, ?_, hne8, H.out.hm, H.out.lb0, ?_⟩
    · have h1 := HBL.out.set 0 (.slice A8 (l.length + 1) c8)
      exact h1
    · rw [el, el2]
      exact own_store HO9.out hne8 _
    · rw [World.size_setCell]; exact Nat.le_trans H.out.low hb9.size
end Go.Proofs.YtcliejdiaohamaaGreat

set_option linter.unusedSimpArgs false
set_option linter.unusedVariables false
namespace Go.Proofs.YtcliejdiaohamaaGreat
open Go.RowKit Go.Cib
attribute [local go_sem] cell_set Later.cell Later.frozen Grw.cell Grw.frozen
theorem call_ls (args : Array Value) (w : World) : (callFunc 250 args).run Tryz.prog w = .ok (.enter 250 args) w := by go_simp
def frI (ws : List Nat) (i : Nat) : List Int := (freeL ws i).map fun j : Nat => (j : Int)
theorem frI_next (ws : List Nat) (i : Nat) : frI ws (i + 1) = least1 (frI ws i) (i : Int) (tk ws i) := by
  unfold frI least1
  rw [freeL_next]
  cases tk ws i with
  | true => rfl
  | false => rw [if_neg (by decide), if_neg (by decide), List.map_append]; rfl
theorem frI_len (ws : List Nat) (i : Nat) : (frI ws i).length = (freeL ws i).length := by unfold frI; rw [List.length_map]
theorem frI_le (ws : List Nat) (i : Nat) : (frI ws i).length ≤ i := by rw [frI_len]; have := freeL_len ws i; omega
theorem frI_pre (ws : List Nat) {i n : Nat} (h : i ≤ n) : ∃ r, frI ws n = frI ws i ++ r := by
  obtain ⟨d, rfl⟩ : ∃ d, n = i + d := ⟨n - i, by omega⟩
  unfold frI freeL
  rw [List.range_add, List.filter_append, List.map_append]
  exact ⟨_, rfl⟩
theorem frI_take (ws : List Nat) {i n many : Nat} (h : i ≤ n) (hl : (frI ws i).length = many) : (frI ws n).take many = frI ws i := by
  obtain ⟨r, e⟩ := frI_pre ws h
  rw [e, ← hl, List.take_left]
section
variable {w w' : World} {o g n : Nat} {ws : List Nat}
theorem run_max_b2 (ts : Array TypeId) (t : TypeId) (x y : Int) (w : World) : (Builtin.max_ ts t #[.int .i64 x, .int .i64 y]).run Tryz.prog w = .ok (.int .i64 (max x y)) w := by
  rw [run_max_int2, show (if x < y then y else x) = max x y by omega]
attribute [local go_sem ↓] run_max_b2
set_option maxRecDepth 100000 in
set_option maxHeartbeats 8000000 in
theorem walk_least {lb mb B many : Nat} {v : Value} (h : BmAt w o g n ws) (ho : o < B) (hg : g < B) (hJ : LsJ lb mb B many [] v w) (h1 : 1 ≤ many) (hm : many ≤ (freeL ws n).length) :
    Calls Tryz.prog 249 #[.pointer (some ⟨o, 0, none⟩), .int .i64 0, .func (.func 250) #[] #[.pointer (some ⟨lb, 0, none⟩), .pointer (some ⟨mb, 0, none⟩)]] w fun e w' => e = .returned (.tuple #[]) ∧ (∃ v', LsJ lb mb B many ((frI ws n).take many) v' w') ∧ Below B w w' := by
  have H := Lib.hid h
  have HJ := Lib.hid hJ
  have hn1 := h.n1
  have HM := Lib.hid hm
  have hcc := call_ls
  have hm60 : many ≤ 60000 := by have := freeL_len ws n; omega
  have HLOW := Lib.hid (show B ≤ w.heap.size from hJ.low)
  have HO := Lib.hid ho
  have HG := Lib.hid hg
  clear h hJ hm ho hg
  go_enter Tryz.func249, Tryz.ntmps249
  go_wp2_with fail
  go_loopw [6] (fun vi wr => ∃ i : Nat, i ≤ n ∧ vi = .int .i64 (i : Int) ∧ Hid (∃ v', LsJ lb mb B many (frI ws i) v' wr) ∧ Hid ((frI ws i).length < many) ∧ Hid (Below B w wr)) (fun vi _ => n - (intOf vi).toNat)
  case atStart => exact ⟨0, Nat.zero_le _, rfl, Lib.hid ⟨v, HJ.out⟩, Lib.hid (by show 0 < many; omega), Lib.hid (Below.refl _ _)⟩
  case round =>
    obtain ⟨i, hi, rfl, HL, HLT, HB⟩ := hrel
    have p0 : (0 : Int) ≤ (i : Int) := Int.natCast_nonneg _
    have p1 : (i : Int) ≤ 60000 := by omega
    have hbw : Below w.heap.size w w := Below.refl _ _
    have Hr := Lib.hid (show BmAt wr o g n ws from ⟨H.out.box.keep (HB.out.block o HO.out), H.out.row.keep (HB.out.block g HG.out), H.out.ok, H.out.ne, H.out.n1⟩)
    have hln := blen_any Hr.out
    clear hbw
    by_cases hlt : i < n
    · have p2 : (i : Int) < (n : Int) := by omega
      obtain ⟨k0, k1, k2⟩ := Hr.out.cells
      obtain ⟨a, ha⟩ : ∃ a, i / 64 = a := ⟨_, rfl⟩
      have hal : a < ws.length := by rw [H.out.ok.len]; omega
      have v1 := Hr.out.word hal
      have d1 : (i : Int) / 64 = (a : Int) := by omega
      have d2 : Int.tdiv (i : Int) 64 = (a : Int) := by rw [Int.tdiv_eq_ediv_of_nonneg p0]; exact d1
      have hl64 : ws.length ≤ 60000 := by rw [H.out.ok.len]; omega
      have hwl := wd_lt H.out.ok a
      have HA := Lib.hid ha
      obtain ⟨x, hx⟩ : ∃ x, wd ws a = x := ⟨_, rfl⟩
      rw [hx] at v1 hwl
      have HX := Lib.hid hx
      clear hx ha
      have hstep : ∀ W, BmAt W o g n ws → Below B w W → (∃ v', LsJ lb mb B many (frI ws i) v' W) → True := fun _ _ _ _ => trivial
      clear hstep
      by_cases hfull : i % 64 = 0 ∧ x = 2 ^ 64 - 1
      · have f1 : (i : Int) % 64 = 0 := by omega
        have f2 : ((x : Int) == 18446744073709551615) = true := by rw [hfull.2]; decide
        have f3 : Int.tmod (i : Int) 64 = 0 := by rw [Int.tmod_eq_emod_of_nonneg p0]; exact f1
        obtain ⟨hs1, hs2⟩ := full_skip H.out.ok hlt hfull.1 (by rw [HA.out, HX.out]; exact hfull.2)
        have hs3 : frI ws (i + 64) = frI ws i := by unfold frI; rw [hs2]
        have HS3 := Lib.hid hs3
        obtain ⟨v', hv'⟩ := HL.out
        have hon := least1_any (i := (i : Int) + 63) (t := true) hv' (by have := frI_le ws i; omega) (by omega)
        have e1 : least1 (frI ws i) ((i : Int) + 63) true = frI ws i := rfl
        rw [e1, decide_eq_true HLT.out] at hon
        have hg2 : (i : Int) + 64 ≤ (n : Int) := by omega
        clear hs2 hs3 hv' e1 hfull
        go_wp2_with fail
        refine hln.mono ?_
        rintro e w1 ⟨rfl, hw1⟩
        rw [hw1]
        clear hw1 hln
        go_wp2_with fail
        refine hon.mono ?_
        clear hon
        rintro e w2 ⟨rfl, hv2, hb2⟩
        have HL2 := Lib.hid hv2
        have HB2 := Lib.hid (HB.out.trans hb2)
        have HLT2 := Lib.hid (show (frI ws (i + 64)).length < many by rw [HS3.out]; exact HLT.out)
        rw [← HS3.out] at HL2
        clear hv2 hb2 HL HB HLT
        go_wp2_with fail
        exact ⟨⟨i + 64, by omega, by go_num, HL2, HLT2, HB2⟩, by simp [intOf]; omega⟩
      · have hha := bhas_any Hr.out (i : Int)
        rw [decide_eq_true (show (0 : Int) ≤ (i : Int) ∧ (i : Int) < (n : Int) from ⟨p0, p2⟩), Bool.true_and, Int.toNat_natCast] at hha
        obtain ⟨v', hv'⟩ := HL.out
        have hfr := frI_le ws i
        have hon := fun (W : World) (hb : Below wr.heap.size wr W) => least1_any (i := (i : Int)) (t := tk ws i) (hv'.below hb) (by omega) (by omega)
        have hon := hon wr (Below.refl _ _)
        rw [← frI_next] at hon
        have hle : (frI ws (i + 1)).length ≤ many := by
          have h1 := frI_next ws i
          have h2 := HLT.out
          rw [h1]
          unfold least1
          split
          · omega
          · rw [List.length_append]; show _ + 1 ≤ _; omega
        have HLE := Lib.hid hle
        have key : (decide ((i : Int) % 64 = 0) = true ∧ ((x : Int) == 18446744073709551615) = false) ∨ decide ((i : Int) % 64 = 0) = false := by
          by_cases c1 : i % 64 = 0
          · refine .inl ⟨decide_eq_true (by omega), ?_⟩
            have : x ≠ 2 ^ 64 - 1 := fun e => hfull ⟨c1, e⟩
            simp
            omega
          · exact .inr (decide_eq_false (by omega))
        obtain ⟨t, ht⟩ : ∃ t, tk ws i = t := ⟨_, rfl⟩
        rw [ht] at hha hon
        obtain ⟨fl, hfl⟩ : ∃ fl, decide ((frI ws (i + 1)).length < many) = fl := ⟨_, rfl⟩
        rw [hfl] at hon
        have HFL := Lib.hid hfl
        clear hfull hv' hle ht hfl hfr
        have f3 : Int.tmod (i : Int) 64 = (i : Int) % 64 := Int.tmod_eq_emod_of_nonneg p0
        rcases key with ⟨c1, c2⟩ | c1
        · have c1' : ((i : Int) % 64 == 0) = true := by simpa using c1
          have c1'' : (i : Int) % 64 = 0 := of_decide_eq_true c1
          clear c1
          cases fl with
          | true =>
            go_wp2_with fail
            refine hln.mono ?_
            rintro e w1 ⟨rfl, hw1⟩
            rw [hw1]
            clear hw1 hln
            go_wp2_with fail
            refine hha.mono ?_
            rintro e w1 ⟨rfl, hw1⟩
            rw [hw1]
            clear hw1 hha
            go_wp2_with fail
            refine hon.mono ?_
            clear hon
            rintro e w2 ⟨rfl, hv2, hb2⟩
            have HL2 := Lib.hid hv2
            have HB2 := Lib.hid (HB.out.trans hb2)
            have HLT2 := Lib.hid (of_decide_eq_true HFL.out)
            clear hv2 hb2 HL HB HLT HFL
            go_wp2_with fail
            exact ⟨⟨i + 1, by omega, by go_num, HL2, HLT2, HB2⟩, by simp [intOf]; omega⟩
          | false =>
            go_wp2_with fail
            refine hln.mono ?_
            rintro e w1 ⟨rfl, hw1⟩
            rw [hw1]
            clear hw1 hln
            go_wp2_with fail
            refine hha.mono ?_
            rintro e w1 ⟨rfl, hw1⟩
            rw [hw1]
            clear hw1 hha
            go_wp2_with fail
            refine hon.mono ?_
            clear hon
            rintro e w2 ⟨rfl, hv2, hb2⟩
            have hlm : (frI ws (i + 1)).length = many := by have h1 := of_decide_eq_false HFL.out; have h2 := HLE.out; omega
            have htk := frI_take ws (show i + 1 ≤ n by omega) hlm
            rw [← htk] at hv2
            have HL2 := Lib.hid hv2
            have HB2 := Lib.hid (HB.out.trans hb2)
            clear hv2 hb2 HL HB HLT HFL hlm htk
            go_wp2_with fail
            refine bodyPost_ret (results_none rfl _ _ _) rfl ?_
            exact ⟨rfl, HL2.out, HB2.out⟩
        · have c1' : ((i : Int) % 64 == 0) = false := by simpa using c1
          have c1'' : ¬ (i : Int) % 64 = 0 := of_decide_eq_false c1
          clear c1
          cases fl with
          | true =>
            go_wp2_with fail
            refine hln.mono ?_
            rintro e w1 ⟨rfl, hw1⟩
            rw [hw1]
            clear hw1 hln
            go_wp2_with fail
            refine hha.mono ?_
            rintro e w1 ⟨rfl, hw1⟩
            rw [hw1]
            clear hw1 hha
            go_wp2_with fail
            refine hon.mono ?_
            clear hon
            rintro e w2 ⟨rfl, hv2, hb2⟩
            have HL2 := Lib.hid hv2
            have HB2 := Lib.hid (HB.out.trans hb2)
            have HLT2 := Lib.hid (of_decide_eq_true HFL.out)
            clear hv2 hb2 HL HB HLT HFL
            go_wp2_with fail
            exact ⟨⟨i + 1, by omega, by go_num, HL2, HLT2, HB2⟩, by simp [intOf]; omega⟩
          | false =>
            go_wp2_with fail
            refine hln.mono ?_
            rintro e w1 ⟨rfl, hw1⟩
            rw [hw1]
            clear hw1 hln
            go_wp2_with fail
            refine hha.mono ?_
            rintro e w1 ⟨rfl, hw1⟩
            rw [hw1]
            clear hw1 hha
            go_wp2_with fail
            refine hon.mono ?_
            clear hon
            rintro e w2 ⟨rfl, hv2, hb2⟩
            have hlm : (frI ws (i + 1)).length = many := by have h1 := of_decide_eq_false HFL.out; have h2 := HLE.out; omega
            have htk := frI_take ws (show i + 1 ≤ n by omega) hlm
            rw [← htk] at hv2
            have HL2 := Lib.hid hv2
            have HB2 := Lib.hid (HB.out.trans hb2)
            clear hv2 hb2 HL HB HLT HFL hlm htk
            go_wp2_with fail
            refine bodyPost_ret (results_none rfl _ _ _) rfl ?_
            exact ⟨rfl, HL2.out, HB2.out⟩
    · have p2 : ¬ (i : Int) < (n : Int) := by omega
      obtain rfl : i = n := by omega
      exact absurd HLT.out (by have := HM.out; rw [frI_len]; omega)
end
end Go.Proofs.YtcliejdiaohamaaGreat

set_option linter.unusedSimpArgs false
set_option linter.unusedVariables false
namespace Go.Proofs.YtcliejdiaohamaaGreat
open Go.RowKit Go.Cib
attribute [local go_sem] cell_set Later.cell Later.frozen Grw.cell Grw.frozen
theorem _root_.Go.Cib.RdL.bound1 {X : Type} {R : (Nat → Prop) → World → List Value → X → Prop} (hR : Stable R) {s : Nat} {S : Nat → Prop} {w : World} {A : Option Addr} {n : Nat} {xs : List X} (h : RdL R s S w A n xs) : RdL R s (fun j => S j ∧ j < w.heap.size) w A n xs := h.stable hR fun j hj hl => ⟨⟨hj, hl⟩, rfl⟩
theorem int_at1 {S : Nat → Prop} {w : World} {b o n : Nat} {xs : List Int} (h : RdL IntR 1 S w (some ⟨b, o, none⟩) n xs) {k : Nat} (hk : k < n) : ∃ x, xs[k]? = some x ∧ w.cell? ⟨b, o + k, none⟩ = some (.int .i64 x) := by
  obtain ⟨hl, cs, _, rfl, h2⟩ := h.at hk
  refine ⟨xs[k], List.getElem?_eq_getElem hl, ?_⟩
  have := h2 0 _ rfl
  rwa [Nat.mul_one, Nat.add_zero] at this
def LeastE (w : World) (xs : List Int) (e : Ending) (w' : World) : Prop := ∃ A c, e = .returned (.slice A xs.length c) ∧ xs.length ≤ c ∧ RdL IntR 1 (fun j => w.heap.size ≤ j) w' A xs.length xs ∧ Below w.heap.size w w'
section
variable {w w' : World} {o g n : Nat} {ws : List Nat}
theorem blen_b (h : BmAt w o g n ws) : Calls Tryz.prog 114 #[.pointer (some ⟨o, 0, none⟩)] w fun e w' => e = .returned (.int .i64 (n : Int)) ∧ Below w.heap.size w w' := (blen_any h).mono fun e w' ⟨h1, h2⟩ => ⟨h1, by rw [h2]; exact Below.refl _ _⟩
theorem bcount_b (h : BmAt w o g n ws) : Calls Tryz.prog 115 #[.pointer (some ⟨o, 0, none⟩)] w fun e w' => e = .returned (.int .i64 (cntT ws n : Nat)) ∧ Below w.heap.size w w' := (bcount_any h).mono fun e w' ⟨h1, h2⟩ => ⟨h1, by rw [h2]; exact Below.refl _ _⟩
theorem intInfo : (Tryz.prog.info? 3).map (fun i => (i.zero, i.size, i.bytes)) = some (some (.int .i64 0), 1, 8) := by kernel_rfl
theorem makeInts0 (k : Nat) (hk : k ≤ 1000000) (w : World) : (Instr.makeSlice 46 (.int .i64 0) (.int .i64 (k : Int))).run Tryz.prog w = .ok (.slice (some ⟨w.heap.size, 0, none⟩) 0 k) (w.alloc (.cells (Array.replicate k (.int .i64 0)) 3)) := by
  obtain ⟨i, hi, hz, hs, hb⟩ := info_parts intInfo
  have h := run_make (P := Tryz.prog) w 46 3 i (.int .i64 0) (by kernel_rfl) hi hz .i64 .i64 0 k (by omega) (by omega) (by rw [hb]; omega) (by omega)
  simp only [Int.toNat_natCast, hs, Nat.mul_one] at h
  rw [h, show (Value.int .i64 0).cells = #[.int .i64 0] from rfl, madeCells_r]; rfl
set_option maxRecDepth 100000 in
set_option maxHeartbeats 8000000 in
theorem least_any (h : BmAt w o g n ws) {many : Nat} (h1 : 1 ≤ many) (hm : many ≤ (freeL ws n).length) :
    Calls Tryz.prog 215 #[.pointer (some ⟨o, 0, none⟩), .int .i64 (many : Int)] w fun e w' => LeastE w ((frI ws n).take many) e w' := by
  obtain ⟨xs, hxs⟩ : ∃ xs, (frI ws n).take many = xs := ⟨_, rfl⟩
  rw [hxs]
  have HXS := Lib.hid hxs
  clear hxs
  have hfl := freeL_len ws n
  have hn1 := h.n1
  have hct := cntT_le ws n
  obtain ⟨ct, hcte⟩ : ∃ ct, cntT ws n = ct := ⟨_, rfl⟩
  have hb0 : Below w.heap.size w (w.alloc (.cells #[.int .i64 (many : Int)] 3)) := (Below.refl _ _).alloc (Nat.le_refl _) _
  have bM := BoxAt.new w #[.int .i64 (many : Int)] 3
  obtain ⟨w1, hw1⟩ : ∃ w1, w.alloc (.cells #[.int .i64 (many : Int)] 3) = w1 := ⟨_, rfl⟩
  have hsz : w1.heap.size = w.heap.size + 1 := by rw [← hw1, World.size_alloc]
  obtain ⟨mb, hmb⟩ : ∃ mb, w.heap.size = mb := ⟨_, rfl⟩
  rw [hw1] at hb0 bM
  rw [hmb] at bM
  have hb1 := h.below hb0
  have hln := fun (y : Later w1.heap.size w1) => blen_b (hb1.below y.ok)
  have hcn := fun (y : Later w1.heap.size w1) => bcount_b (hb1.below y.ok)
  rw [hcte] at hcn hfl hct
  have cM := bM.cell 0
  have hml := bM.lt
  have q0 : (0 : Int) ≤ (many : Int) := Int.natCast_nonneg _
  have q1 : (1 : Int) ≤ (many : Int) := by omega
  have q2 : (many : Int) ≤ (n : Int) - (ct : Int) := by omega
  have q3 : (n : Int) ≤ 60000 := by omega
  have q4 : (ct : Int) ≤ (n : Int) := by omega
  have f1 : decide ((many : Int) < 1) = false := decide_eq_false (by omega)
  have f2 : decide ((many : Int) > (n : Int) - (ct : Int)) = false := decide_eq_false (by omega)
  have f3 : IntKind.i64.wrap ((n : Int) - (ct : Int)) = (n : Int) - (ct : Int) := by rw [IntKind.wrap_i64]; omega
  have H1 := Lib.hid hb1
  have BM := Lib.hid bM
  have HB0 := Lib.hid hb0
  have HH := Lib.hid h
  have HMB := Lib.hid hmb
  have hmk := fun w => makeInts0 many (by omega) w
  have HM := Lib.hid hm
  clear h hb1 bM hb0 hfl hct hcte hm
  go_enter Tryz.func215, Tryz.ntmps215
  go_wp2_with fail
  refine wp_region_later (by kernel_rfl) (by kernel_rfl) ?_
  repeat (go_big_quiet_step (first | (go_at_call 114; exact Later.call _ (hln _) (Nat.le_refl _)) | (go_at_call 115; exact Later.call _ (hcn _) (Nat.le_refl _))))
  refine wpQuiet_nil ?_
  rintro _ ⟨z, rfl⟩
  clear hln hcn
  have bMz := BM.out.below z.ok
  have Hz := Lib.hid (H1.out.below z.ok)
  have HBz := Lib.hid (HB0.out.trans (z.ok.mono (by omega)))
  have hmz := bMz.lt
  have hoz := Hz.out.box.lt
  have hgz := Hz.out.row.lt
  have cz := bMz.cell 0
  have ow := OwnL.made (R := IntR) (E := 3) (s := 1) (base := z.to.heap.size) (S := fun _ => False) (w := z.to) (Array.replicate many (.int .i64 0)) many (Nat.le_refl _) (by unfold maxLen; omega) (by simp)
  have hmk2 := hmk z.to
  have hbm : Below z.to.heap.size z.to (z.to.alloc (.cells (Array.replicate many (.int .i64 0)) 3)) := (Below.refl _ _).alloc (Nat.le_refl _) _
  obtain ⟨w2, hw2⟩ : ∃ w2, z.to.alloc (.cells (Array.replicate many (.int .i64 0)) 3) = w2 := ⟨_, rfl⟩
  have hs2 : w2.heap.size = z.to.heap.size + 1 := by rw [← hw2, World.size_alloc]
  rw [hw2] at ow hmk2 hbm
  obtain ⟨g0, hg0⟩ : ∃ g0, z.to.heap.size = g0 := ⟨_, rfl⟩
  rw [hg0] at ow hmk2 hs2
  have bL := BoxAt.new w2 #[.slice (some ⟨g0, 0, none⟩) 0 many] 46
  have ow3 := ow.alloc IntR.stable (.cells #[.slice (some ⟨g0, 0, none⟩) 0 many] 46)
  have hb3 : Below z.to.heap.size z.to (w2.alloc (.cells #[.slice (some ⟨g0, 0, none⟩) 0 many] 46)) := hbm.alloc (by omega) _
  obtain ⟨w3, hw3⟩ : ∃ w3, w2.alloc (.cells #[.slice (some ⟨g0, 0, none⟩) 0 many] 46) = w3 := ⟨_, rfl⟩
  obtain ⟨lb, hlb⟩ : ∃ lb, w2.heap.size = lb := ⟨_, rfl⟩
  rw [hw3] at bL ow3 hb3
  rw [hlb] at bL
  obtain rfl : lb = g0 + 1 := by omega
  have hJ : LsJ (g0 + 1) mb g0 many [] (.slice (some ⟨g0, 0, none⟩) 0 many) w3 := ⟨bL, bMz.below hb3, ow3, by simp only [Value.ownBlock, ne_eq, Option.some.injEq]; omega, by omega, by omega, by have := hb3.size; omega⟩
  have hwk := walk_least (Hz.out.below hb3) (by omega) (by omega) hJ h1 HM.out
  have HZB := Lib.hid hb3
  have HG0 := Lib.hid hg0
  rw [HXS.out] at hwk
  clear ow ow3 hbm hJ Hz bMz
  go_wp2_with fail
  refine hwk.mono ?_
  clear hwk hmk hmk2 hw2 hw3
  rintro e w4 ⟨rfl, ⟨v', hJ⟩, hb4⟩
  obtain ⟨A, c, rfl, hc⟩ := hJ.own.form
  have c4 := hJ.out.cell 0
  have HJ := Lib.hid hJ
  have HB4 := Lib.hid (HBz.out.trans ((HZB.out.trans (hb4.mono (by omega))).mono HBz.out.size))
  clear hJ hb4 hg0
  go_wp2_with fail
  go_ret
  obtain ⟨A', c', e, _, hr⟩ := HJ.out.own.rd (S' := fun j => w.heap.size ≤ j) (fun j hj => by have := HBz.out.size; have := HG0.out; omega) (fun cs x hx => hx)
  injection e with e1 _ e2
  subst e1; subst e2
  exact ⟨A, c, rfl, hc, hr, HB4.out⟩
set_option maxRecDepth 100000 in
set_option maxHeartbeats 4000000 in
theorem least_zero (o : Nat) : Calls Tryz.prog 215 #[.pointer (some ⟨o, 0, none⟩), .int .i64 0] w fun e w' => LeastE w [] e w' := by
  have hb0 : Below w.heap.size w (w.alloc (.cells #[.int .i64 0] 3)) := (Below.refl _ _).alloc (Nat.le_refl _) _
  have bM := BoxAt.new w #[.int .i64 0] 3
  obtain ⟨w1, hw1⟩ : ∃ w1, w.alloc (.cells #[.int .i64 0] 3) = w1 := ⟨_, rfl⟩
  obtain ⟨mb, hmb⟩ : ∃ mb, w.heap.size = mb := ⟨_, rfl⟩
  rw [hw1] at hb0 bM
  rw [hmb] at bM
  have cM := bM.cell 0
  have hml := bM.lt
  have HB0 := Lib.hid hb0
  have HMB := Lib.hid hmb
  clear hb0 bM
  go_enter Tryz.func215, Tryz.ntmps215
  go_wp2_with fail
  refine wp_region_later (by kernel_rfl) (by kernel_rfl) ?_
  repeat (go_big_quiet_step (fail))
  refine wpQuiet_nil ?_
  rintro _ ⟨z, rfl⟩
  go_wp2_with fail
  go_ret
  exact ⟨none, 0, rfl, Nat.le_refl _, RdL.nil, HB0.out.trans (z.ok.mono HB0.out.size)⟩
theorem least_all (h : BmAt w o g n ws) {many : Nat} (hm : many ≤ (freeL ws n).length) : Calls Tryz.prog 215 #[.pointer (some ⟨o, 0, none⟩), .int .i64 (many : Int)] w fun e w' => LeastE w ((frI ws n).take many) e w' := by
  by_cases h0 : many = 0
  · subst h0
    exact least_zero o
  · exact least_any h (by omega) hm
end
end Go.Proofs.YtcliejdiaohamaaGreat

set_option linter.unusedSimpArgs false
set_option linter.unusedVariables false
namespace Go.Proofs.YtcliejdiaohamaaGreat
open Go.RowKit Go.Cib
attribute [local go_sem] cell_set Later.cell Later.frozen Grw.cell Grw.frozen
/-- A pool in memory. -/
structure PoolAt (w : World) (p o l go gl ep ct fs n : Nat) (wo wl : List Nat) : Prop where
  box : BoxAt w p #[.int .u64 (ep : Int), .int .i64 (ct : Int), .int .i64 (fs : Int), .pointer (some ⟨o, 0, none⟩), .pointer (some ⟨l, 0, none⟩)]
  out : BmAt w o go n wo
  lim : BmAt w l gl n wl
  ne : p ≠ o ∧ p ≠ go ∧ p ≠ l ∧ p ≠ gl ∧ go ≠ l ∧ go ≠ gl ∧ gl ≠ o
  fsn : fs + n ≤ 600
  n1 : 1 ≤ n
def PoolB (p o l go gl : Nat) (j : Nat) : Prop := j = p ∨ j = o ∨ j = l ∨ j = go ∨ j = gl
section
variable {w w' : World} {p o l go gl ep ct fs n : Nat} {wo wl : List Nat}
theorem PoolAt.keep {F : Nat → Prop} (h : PoolAt w p o l go gl ep ct fs n wo wl) (hK : Keep F w w') (hF : ∀ j, PoolB p o l go gl j → ¬ F j) : PoolAt w' p o l go gl ep ct fs n wo wl :=
  ⟨h.box.keeps hK (hF p (.inl rfl)), h.out.keep hK (hF o (.inr (.inl rfl))) (hF go (.inr (.inr (.inr (.inl rfl))))), h.lim.keep hK (hF l (.inr (.inr (.inl rfl)))) (hF gl (.inr (.inr (.inr (.inr rfl))))), h.ne, h.fsn, h.n1⟩
theorem PoolAt.below (h : PoolAt w p o l go gl ep ct fs n wo wl) (hb : Below w.heap.size w w') : PoolAt w' p o l go gl ep ct fs n wo wl := ⟨h.box.below hb, h.out.below hb, h.lim.below hb, h.ne, h.fsn, h.n1⟩
theorem PoolAt.kp {X : Nat → Prop} (h : PoolAt w p o l go gl ep ct fs n wo wl) (hK : ∀ j, X j → w'.heap[j]? = w.heap[j]?) (hX : ∀ j, PoolB p o l go gl j → X j) : PoolAt w' p o l go gl ep ct fs n wo wl :=
  ⟨h.box.keep (hK p (hX p (.inl rfl))), h.out.kp hK (hX o (.inr (.inl rfl))) (hX go (.inr (.inr (.inr (.inl rfl))))), h.lim.kp hK (hX l (.inr (.inr (.inl rfl)))) (hX gl (.inr (.inr (.inr (.inr rfl))))), h.ne, h.fsn, h.n1⟩
theorem PoolAt.cells (h : PoolAt w p o l go gl ep ct fs n wo wl) : w.cell? ⟨p, 0, none⟩ = some (.int .u64 (ep : Int)) ∧ w.cell? ⟨p, 1, none⟩ = some (.int .i64 (ct : Int)) ∧ w.cell? ⟨p, 2, none⟩ = some (.int .i64 (fs : Int)) ∧ w.cell? ⟨p, 3, none⟩ = some (.pointer (some ⟨o, 0, none⟩)) ∧ w.cell? ⟨p, 4, none⟩ = some (.pointer (some ⟨l, 0, none⟩)) := ⟨h.box.cell 0, h.box.cell 1, h.box.cell 2, h.box.cell 3, h.box.cell 4⟩
set_option maxRecDepth 100000 in
theorem pnone_any (h : PoolAt w p o l go gl ep ct fs n wo wl) : Calls Tryz.prog 113 #[.pointer (some ⟨p, 0, none⟩)] w fun e w' => e = .returned (.bool false) ∧ w' = w := by
  obtain ⟨k0, k1, k2, k3, k4⟩ := h.cells
  clear h
  go_enter Tryz.func113, Tryz.ntmps113
  go_wp2_with fail
  go_ret
  exact ⟨rfl, rfl⟩
def freeN (wo : List Nat) (n : Nat) : Nat := n - cntT wo n
set_option maxRecDepth 100000 in
set_option maxHeartbeats 4000000 in
theorem pfree_any (h : PoolAt w p o l go gl ep ct fs n wo wl) : Calls Tryz.prog 42 #[.pointer (some ⟨p, 0, none⟩)] w fun e w' => e = .returned (.int .i64 (freeN wo n : Nat)) ∧ Below w.heap.size w w' := by
  obtain ⟨k0, k1, k2, k3, k4⟩ := h.cells
  have hno := pnone_any h
  have hln := fun (y : Later w.heap.size w) => blen_b (h.out.below y.ok)
  have hcn := fun (y : Later w.heap.size w) => bcount_b (h.out.below y.ok)
  have hct := cntT_le wo n
  have hn1 := h.out.n1
  have hpl := h.box.lt
  obtain ⟨c, hc⟩ : ∃ c, cntT wo n = c := ⟨_, rfl⟩
  have HF := Lib.hid (show (n : Int) - (c : Int) = (freeN wo n : Nat) by unfold freeN; omega)
  rw [hc] at hcn hct
  have q3 : (n : Int) ≤ 60000 := by omega
  have q4 : (c : Int) ≤ (n : Int) := by omega
  have f3 : IntKind.i64.wrap ((n : Int) - (c : Int)) = (n : Int) - (c : Int) := by rw [IntKind.wrap_i64]; omega
  clear h hc
  go_enter Tryz.func42, Tryz.ntmps42
  go_wp2_with fail
  refine hno.mono ?_
  rintro e w1 ⟨rfl, hw1⟩
  rw [hw1]
  clear hw1 hno
  go_wp2_with fail
  refine wp_region_later (by kernel_rfl) (by kernel_rfl) ?_
  repeat (go_big_quiet_step (first | (go_at_call 114; exact Later.call _ (hln _) (Nat.le_refl _)) | (go_at_call 115; exact Later.call _ (hcn _) (Nat.le_refl _))))
  refine wpQuiet_nil ?_
  rintro _ ⟨z, rfl⟩
  clear hln hcn
  go_wp2_with fail
  go_ret
  exact ⟨by rw [← HF.out]; rfl, z.ok⟩
set_option maxRecDepth 100000 in
set_option maxHeartbeats 4000000 in
theorem places_any (h : PoolAt w p o l go gl ep ct fs n wo wl) {A : Option Addr} {g c : Nat} {S : Nat → Prop} {xs : List Int} (R : RdL IntR 1 S w A g xs) (hg : g ≤ 100000) (hx : ∀ x ∈ xs, 0 ≤ x ∧ x ≤ 60000) :
    Calls Tryz.prog 216 #[.pointer (some ⟨p, 0, none⟩), .slice A g c] w fun e w' => LeastE w (xs.map fun x => x + (fs : Int)) e w' := by
  obtain ⟨k0, k1, k2, k3, k4⟩ := h.cells
  have hpl := h.box.lt
  have HH := Lib.hid h
  have HR := Lib.hid R
  have hgl := R.1
  have HX := Lib.hid hx
  have hfs := h.fsn
  have HGL := Lib.hid hgl
  have hmk := makeInts0 g (by omega) w
  have ow := OwnL.made (R := IntR) (E := 3) (s := 1) (base := w.heap.size) (S := fun _ => False) (w := w) (Array.replicate g (.int .i64 0)) g (Nat.le_refl _) (by unfold maxLen; omega) (by simp)
  have hbm : Below w.heap.size w (w.alloc (.cells (Array.replicate g (.int .i64 0)) 3)) := (Below.refl _ _).alloc (Nat.le_refl _) _
  obtain ⟨w1, hw1⟩ : ∃ w1, w.alloc (.cells (Array.replicate g (.int .i64 0)) 3) = w1 := ⟨_, rfl⟩
  rw [hw1] at hmk ow hbm
  have HOW := Lib.hid ow
  have HBM := Lib.hid hbm
  have q2 : (g : Int) ≤ 100000 := by omega
  have q5 : (fs : Int) ≤ 600 := by omega
  have q6 : (0 : Int) ≤ (fs : Int) := Int.natCast_nonneg _
  clear h R hgl hx ow hbm
  go_enter Tryz.func216, Tryz.ntmps216
  go_wp2_with fail
  clear hmk hw1
  go_loopw [5, 13] (fun vo vi wr => ∃ (i : Nat) (A2 : Option Addr) (c2 : Nat), i ≤ g ∧ vi = .int .i64 (i : Int) ∧ vo = .slice A2 i c2 ∧ i ≤ c2 ∧ Hid (OwnL IntR 3 1 w.heap.size (fun _ => False) wr (.slice A2 i c2) i ((xs.take i).map fun x => x + (fs : Int))) ∧ Hid (Below w.heap.size w wr)) (fun _ vi _ => g - (intOf vi).toNat)
  case atStart => exact ⟨0, _, _, Nat.zero_le _, rfl, rfl, Nat.zero_le _, HOW, HBM⟩
  case round =>
    obtain ⟨i, A2, c2, hi, rfl, rfl, hc2, HO, HB⟩ := hrel
    have p0 : (0 : Int) ≤ (i : Int) := Int.natCast_nonneg _
    by_cases hlt : i < g
    · have p1 : (i : Int) < (g : Int) := by omega
      obtain ⟨ba, oa, rfl, _, hba⟩ := HR.out.addr hlt
      obtain ⟨x, hxx, v1⟩ := int_at1 HR.out hlt
      have v1' := (HB.out.cell (p := ⟨ba, oa + i, none⟩) hba).trans v1
      have hbx := HX.out x (List.mem_of_getElem? hxx)
      have kr := (HB.out.cell (p := ⟨p, 2, none⟩) hpl).trans k2
      have hszr := HB.out.size
      have HTK := Lib.hid (show (xs.take (i + 1)).map (fun x => x + (fs : Int)) = (xs.take i).map (fun x => x + (fs : Int)) ++ [x + (fs : Int)] by rw [List.take_add_one, hxx, List.map_append]; rfl)
      have f3 : IntKind.i64.wrap (x + (fs : Int)) = x + (fs : Int) := by rw [IntKind.wrap_i64]; omega
      clear v1 hxx HOW HBM
      go_wp2_with (at_builtin; go_must (refine wpList_push1 IntR.stable IntR.one sl_intB (by rfl) (by rfl) (base := w.heap.size) (S := fun _ => False) (cs := #[.int .i64 (x + (fs : Int))]) (y := x + (fs : Int)) (by rfl) (by rfl) HO.out (by rfl) (by rfl) (by unfold maxLen; omega) (by omega) hszr ?_); intro A8 c8 ug hc8 own9 hlt8 hb8 hat8; rw [← HTK.out] at own9; have HO9 := Lib.hid own9; have HB9 := Lib.hid (HB.out.trans hb8); clear own9 hb8 hat8 hlt8)
      exact ⟨⟨i + 1, A8, c8, by omega, by go_num, rfl, hc8, HO9, HB9⟩, by simp [intOf]; omega⟩
    · have p1 : ¬ (i : Int) < (g : Int) := by omega
      obtain rfl : i = g := by omega
      have HT := Lib.hid (List.take_of_length_le (l := xs) (i := i) (by have := HGL.out; omega))
      go_wp2_with fail
      go_ret
      rw [HT.out] at HO
      obtain ⟨A', c', e, _, hr⟩ := HO.out.rd (S' := fun j => w.heap.size ≤ j) (fun j hj => hj) (fun cs x hx => hx)
      injection e with e1 _ e2
      subst e1; subst e2
      have hml : (xs.map fun x => x + (fs : Int)).length = i := by rw [List.length_map, HGL.out]
      exact ⟨A2, c2, by rw [hml]; rfl, by rw [hml]; exact hc2, by rw [hml]; exact hr, HB.out⟩
end
end Go.Proofs.YtcliejdiaohamaaGreat

set_option linter.unusedSimpArgs false
set_option linter.unusedVariables false
namespace Go.Proofs.YtcliejdiaohamaaGreat
open Go.RowKit Go.Cib
attribute [local go_sem] cell_set Later.cell Later.frozen Grw.cell Grw.frozen
theorem or_b64 {a c : Nat} (ha : a < 2 ^ 64) (hc : c < 2 ^ 64) : bits .or .u64 (a : Int) (c : Int) = ((a ||| c : Nat) : Int) := by
  unfold bits
  have h := Nat.or_lt_two_pow (n := 64) ha hc
  have e : (BitVec.ofInt 64 (a : Int) ||| BitVec.ofInt 64 (c : Int)).toNat = a ||| c := by
    rw [BitVec.toNat_or, BitVec.ofInt_natCast, BitVec.ofInt_natCast, BitVec.toNat_ofNat, BitVec.toNat_ofNat, Nat.mod_eq_of_lt ha, Nat.mod_eq_of_lt hc]
  show IntKind.u64.wrap ((BitVec.ofInt 64 (a : Int) ||| BitVec.ofInt 64 (c : Int)).toNat : Int) = _
  rw [e, IntKind.wrap_u64]
  omega
theorem or_gen {ep ct : Nat} (hc : ct < 1048576) : (ep * 1048576) ||| ct = ep * 1048576 + ct := by
  have h := Nat.shiftLeft_add_eq_or_of_lt (a := ep) (b := ct) (i := 20) hc
  rw [Nat.shiftLeft_eq] at h
  exact h.symm
set_option maxRecDepth 100000 in
theorem gen_any {w : World} {ep ct : Nat} (he : ep < 1099511627776) (hc : ct < 1048576) : Calls Tryz.prog 81 #[.int .u64 (ep : Int), .int .i64 (ct : Int)] w fun e w' => e = .returned (.tuple #[.int .u64 ((ep * 1048576 + ct : Nat) : Int), .int .i64 0]) ∧ w' = w := by
  have h1 := or_b64 (a := ep * 1048576) (c := ct) (by omega) (by omega)
  rw [or_gen hc] at h1
  have q0 : (0 : Int) ≤ (ep : Int) := Int.natCast_nonneg _
  have g1 : decide ((ep : Int) ≥ 1099511627776) = false := decide_eq_false (by omega)
  have HE := Lib.hid he
  have q2 : (0 : Int) ≤ (ct : Int) := Int.natCast_nonneg _
  have g3 : decide ((ct : Int) ≥ 1048576) = false := decide_eq_false (by omega)
  have HC := Lib.hid hc
  have f1 : IntKind.u64.wrap ((ep : Int) * 1048576) = ((ep * 1048576 : Nat) : Int) := by rw [IntKind.wrap_u64]; omega
  have f2 : IntKind.u64.wrap (ct : Int) = (ct : Int) := by rw [IntKind.wrap_u64]; omega
  have f1' : IntKind.u64.wrap ((ep : Int) * 2 ^ 20) = ((ep * 1048576 : Nat) : Int) := f1
  obtain ⟨x, hx⟩ : ∃ x, ep * 1048576 = x := ⟨_, rfl⟩
  obtain ⟨y, hy⟩ : ∃ y, ep * 1048576 + ct = y := ⟨_, rfl⟩
  rw [hy] at h1 ⊢
  rw [hx] at f1 f1' h1
  clear hx hy he hc
  go_enter Tryz.func81, Tryz.ntmps81
  go_wp2_with fail
  go_ret2
  exact ⟨rfl, rfl⟩
section
variable {w w' : World} {p o l go gl ep ct fs n : Nat} {wo wl : List Nat}
/-- The count turned. -/
theorem PoolAt.count (h : PoolAt w p o l go gl ep ct fs n wo wl) (c : Nat) : PoolAt (w.setCell ⟨p, 1, none⟩ (.int .i64 (c : Int))) p o l go gl ep c fs n wo wl := by
  obtain ⟨n1, n2, n3, n4, n5, n6, n7⟩ := h.ne
  refine ⟨h.box.set 1 _, ⟨h.out.box.set_other (p := ⟨p, 1, none⟩) (fun e => n1 e.symm) _, h.out.row.set_other (p := ⟨p, 1, none⟩) (fun e => n2 e.symm) _, h.out.ok, h.out.ne, h.out.n1⟩, ⟨h.lim.box.set_other (p := ⟨p, 1, none⟩) (fun e => n3 e.symm) _, h.lim.row.set_other (p := ⟨p, 1, none⟩) (fun e => n4 e.symm) _, h.lim.ok, h.lim.ne, h.lim.n1⟩, h.ne, h.fsn, h.n1⟩
set_option maxRecDepth 100000 in
theorem pnext_any (h : PoolAt w p o l go gl ep ct fs n wo wl) {m : Nat} (he : ep < 1099511627776) (hm : ct + m ≤ 1048576) :
    Calls Tryz.prog 217 #[.pointer (some ⟨p, 0, none⟩), .int .i64 (m : Int)] w fun e w' => e = .returned (.tuple #[.int .u64 ((ep * 1048576 + ct : Nat) : Int), .int .i64 0]) ∧ PoolAt w' p o l go gl ep (ct + m) fs n wo wl ∧ Keep (fun j => j = p) w w' := by
  obtain ⟨k0, k1, k2, k3, k4⟩ := h.cells
  have hf1 := h.box.frozen 1
  have hpl := h.box.lt
  have hge := gen_any (w := w) (ct := 0) he (by omega)
  have HFIN := Lib.hid (h.count (ct + m))
  have q0 : (0 : Int) ≤ (ep : Int) := Int.natCast_nonneg _
  have q2 : (0 : Int) ≤ (ct : Int) := Int.natCast_nonneg _
  have q3 : (0 : Int) ≤ (m : Int) := Int.natCast_nonneg _
  have f1 : IntKind.i64.wrap (1048576 - (ct : Int)) = 1048576 - (ct : Int) := by rw [IntKind.wrap_i64]; omega
  have f2 : decide ((m : Int) > 1048576 - (ct : Int)) = false := decide_eq_false (by omega)
  have f3 : IntKind.u64.wrap (ct : Int) = (ct : Int) := by rw [IntKind.wrap_u64]; omega
  have f4 : IntKind.u64.wrap (((ep * 1048576 + 0 : Nat) : Int) + (ct : Int)) = ((ep * 1048576 + ct : Nat) : Int) := by rw [IntKind.wrap_u64]; omega
  have f5 : IntKind.i64.wrap ((ct : Int) + (m : Int)) = ((ct + m : Nat) : Int) := by rw [IntKind.wrap_i64]; omega
  have f6 : decide ((m : Int) < 0) = false := decide_eq_false (by omega)
  obtain ⟨x, hx⟩ : ∃ x, ep * 1048576 + 0 = x := ⟨_, rfl⟩
  obtain ⟨y, hy⟩ : ∃ y, ep * 1048576 + ct = y := ⟨_, rfl⟩
  obtain ⟨z, hz⟩ : ∃ z, ct + m = z := ⟨_, rfl⟩
  rw [hx] at hge f4
  rw [hy] at f4 ⊢
  rw [hz] at f5 HFIN ⊢
  clear h hx hy hz he hm
  have hge2 : Calls Tryz.prog 81 #[.int .u64 (ep : Int), .int .i64 0] w fun e w' => e = .returned (.tuple #[.int .u64 (x : Int), .int .i64 0]) ∧ w' = w := hge
  clear hge
  go_enter Tryz.func217, Tryz.ntmps217
  go_wp2_with fail
  refine hge2.mono ?_
  clear hge2
  rintro e w1 ⟨rfl, hw1⟩
  rw [hw1]
  clear hw1
  go_wp2_with fail
  go_ret2
  exact ⟨rfl, HFIN.out, Keep.setCell (Keep.refl (fun j => j = p) w) (p := ⟨p, 1, none⟩) (fun _ => rfl) _⟩
set_option maxRecDepth 100000 in
theorem gens_any (h : PoolAt w p o l go gl ep ct fs n wo wl) {m : Nat} (he : ep < 1099511627776) (hm : ct + m ≤ 1048576) :
    Calls Tryz.prog 174 #[.pointer (some ⟨p, 0, none⟩), .int .i64 (m : Int)] w fun e w' => e = .returned (.tuple #[.int .u64 ((ep * 1048576 + ct : Nat) : Int), .int .i64 0]) ∧ PoolAt w' p o l go gl ep (ct + m) fs n wo wl ∧ Keep (fun j => j = p) w w' := by
  obtain ⟨k0, k1, k2, k3, k4⟩ := h.cells
  have hno := pnone_any h
  have hnx := pnext_any h he hm
  obtain ⟨y, hy⟩ : ∃ y, ep * 1048576 + ct = y := ⟨_, rfl⟩
  rw [hy] at hnx ⊢
  clear h he hm hy
  go_enter Tryz.func174, Tryz.ntmps174
  go_wp2_with fail
  refine hno.mono ?_
  clear hno
  rintro e w1 ⟨rfl, hw1⟩
  rw [hw1]
  clear hw1
  go_wp2_with fail
  refine hnx.mono ?_
  clear hnx
  rintro e w1 ⟨rfl, hP, hK⟩
  have HP := Lib.hid hP
  have HK := Lib.hid hK
  clear hP hK
  go_wp2_with fail
  go_ret2
  exact ⟨rfl, HP.out, HK.out⟩
end
end Go.Proofs.YtcliejdiaohamaaGreat

set_option linter.unusedSimpArgs false
set_option linter.unusedVariables false
namespace Go.Proofs.YtcliejdiaohamaaGreat
open Go.RowKit Go.Cib
attribute [local go_sem] cell_set Later.cell Later.frozen Grw.cell Grw.frozen
/-- Places that are taken, one after another. -/
def takeW (n : Nat) (ws : List Nat) : List Int → List Nat
  | [] => ws
  | x :: l => takeW n (setW n ws x true) l
theorem takeW_snoc (n : Nat) : ∀ (l : List Int) (ws : List Nat) (x : Int), takeW n ws (l ++ [x]) = setW n (takeW n ws l) x true
  | [], _, _ => rfl
  | y :: l, ws, x => takeW_snoc n l (setW n ws y true) x
section
variable {w w' : World} {p o l go gl ep ct fs n : Nat} {wo wl : List Nat}
theorem PoolAt.withOut (h : PoolAt w p o l go gl ep ct fs n wo wl) {wo' : List Nat} (hb : BmAt w' o go n wo') (hK : Keep (fun j => j = go) w w') : PoolAt w' p o l go gl ep ct fs n wo' wl := by
  obtain ⟨n1, n2, n3, n4, n5, n6, n7⟩ := h.ne
  exact ⟨h.box.keeps hK n2, hb, h.lim.keep hK (fun e => n5 e.symm) (fun e => n6 e.symm), h.ne, h.fsn, h.n1⟩
def TakeE (w : World) (p o l go gl ep ct fs n m : Nat) (wo wl : List Nat) (e : Ending) (w' : World) : Prop :=
  ∃ A c, e = .returned (.tuple #[.slice A m c, .int .i64 0]) ∧ m ≤ c ∧ RdL IntR 1 (fun j => w.heap.size ≤ j) w' A m (((frI wo n).take m).map fun x => x + (fs : Int)) ∧ PoolAt w' p o l go gl ep ct fs n (takeW n wo ((frI wo n).take m)) wl ∧ Keep (fun j => j = go) w w'
set_option maxRecDepth 100000 in
set_option maxHeartbeats 8000000 in
theorem ptake_any (h : PoolAt w p o l go gl ep ct fs n wo wl) {m : Nat} (hm : m ≤ (freeL wo n).length) :
    Calls Tryz.prog 173 #[.pointer (some ⟨p, 0, none⟩), .int .i64 (m : Int)] w fun e w' => TakeE w p o l go gl ep ct fs n m wo wl e w' := by
  obtain ⟨k0, k1, k2, k3, k4⟩ := h.cells
  have hno := pnone_any h
  have hfr := pfree_any h
  have hfl := freeL_len wo n
  have hn1 := h.out.n1
  have hpl := h.box.lt
  obtain ⟨f, hf⟩ : ∃ f, freeN wo n = f := ⟨_, rfl⟩
  have hmf : m ≤ f := by rw [← hf]; unfold freeN; omega
  rw [hf] at hfr
  have H := Lib.hid h
  have hlt := fun (w1 : World) (hb : Below w.heap.size w w1) => least_all (h.out.below hb) hm
  have HLT := Lib.hid hlt
  obtain ⟨xs, hxs⟩ : ∃ xs, (frI wo n).take m = xs := ⟨_, rfl⟩
  have hxl : xs.length = m := by rw [← hxs, List.length_take, frI_len]; omega
  have hxb : ∀ x ∈ xs, 0 ≤ x ∧ x ≤ 60000 := fun x hx => by
    rw [← hxs] at hx
    obtain ⟨j, hj, rfl⟩ := List.mem_map.1 (List.mem_of_mem_take hx)
    have := List.mem_range.1 (List.mem_filter.1 hj).1
    omega
  unfold TakeE
  rw [hxs]
  have HXS := Lib.hid hxs
  have HXL := Lib.hid hxl
  have HXB := Lib.hid hxb
  have q0 : (0 : Int) ≤ (m : Int) := Int.natCast_nonneg _
  have q1 : ¬ (m : Int) > (f : Int) := by omega
  have q2 : (m : Int) ≤ 60000 := by omega
  have q3 : ¬ (m : Int) < 0 := by omega
  clear h hlt hxs hxl hxb hfl hm hf
  go_enter Tryz.func173, Tryz.ntmps173
  go_wp2_with fail
  refine hno.mono ?_
  clear hno
  rintro e w1 ⟨rfl, hw1⟩
  rw [hw1]
  clear hw1
  go_wp2_with fail
  refine hfr.mono ?_
  clear hfr
  rintro e w2 ⟨rfl, hb2⟩
  have HB2 := Lib.hid hb2
  have hl2 := HLT.out w2 hb2
  rw [HXS.out] at hl2
  have kb3 := (hb2.cell (p := ⟨p, 3, none⟩) hpl).trans k3
  clear hb2
  go_wp2_with fail
  refine hl2.mono ?_
  clear hl2
  rintro e w3 ⟨A, c, rfl, hc, hr, hb3⟩
  rw [HXL.out] at hc hr ⊢
  have HR3 := Lib.hid (RdL.bound1 IntR.stable hr)
  have HB3 := Lib.hid (HB2.out.trans (hb3.mono HB2.out.size))
  have hsz2 := HB2.out.size
  clear hr hb3 kb3
  go_wp2_with fail
  go_loopw [28] (fun vi wr => ∃ i : Nat, i ≤ m ∧ vi = .int .i64 (i : Int) ∧ Hid (PoolAt wr p o l go gl ep ct fs n (takeW n wo (xs.take i)) wl) ∧ Hid (Keep (fun j => j = go) w3 wr)) (fun vi _ => m - (intOf vi).toNat)
  case atStart => exact ⟨0, Nat.zero_le _, rfl, Lib.hid (H.out.below HB3.out), Lib.hid (Keep.refl _ _)⟩
  case round =>
    obtain ⟨i, hi, rfl, HP, HK⟩ := hrel
    have p0 : (0 : Int) ≤ (i : Int) := Int.natCast_nonneg _
    have hgw : go < w.heap.size := H.out.out.row.lt
    have hrd := HR3.out.keep IntR.stable HK.out (fun j hj => by omega)
    have HRD := Lib.hid hrd
    by_cases hlt : i < m
    · have p1 : (i : Int) < (m : Int) := by omega
      obtain ⟨ba, oa, rfl, _, hba⟩ := hrd.addr hlt
      obtain ⟨x, hxx, v1⟩ := int_at1 hrd hlt
      obtain ⟨r0, r1, r2, r3, r4⟩ := HP.out.cells
      have hse := bset_any HP.out.out x true
      have HTK := Lib.hid (show takeW n wo (xs.take (i + 1)) = setW n (takeW n wo (xs.take i)) x true by rw [List.take_add_one, hxx]; exact takeW_snoc ..)
      clear hrd hxx HRD
      go_wp2_with fail
      refine hse.mono ?_
      clear hse
      rintro e w4 ⟨rfl, hb4, hK4⟩
      rw [← HTK.out] at hb4
      have HP4 := Lib.hid (HP.out.withOut hb4 hK4)
      have HK4 := Lib.hid (HK.out.trans hK4 (fun j hj _ => hj))
      clear hb4 hK4 HP HK
      go_wp2_with fail
      exact ⟨⟨i + 1, by omega, by go_num, HP4, HK4⟩, by simp [intOf]; omega⟩
    · have p1 : ¬ (i : Int) < (m : Int) := by omega
      obtain rfl : i = m := by omega
      have hpa := places_any (c := c) HP.out HRD.out (by omega) HXB.out
      have htk : xs.take i = xs := List.take_of_length_le (by rw [HXL.out]; exact Nat.le_refl _)
      rw [htk] at HP
      obtain ⟨ys, hys⟩ : ∃ ys, xs.map (fun x => x + (fs : Int)) = ys := ⟨_, rfl⟩
      have hyl : ys.length = i := by rw [← hys, List.length_map, HXL.out]
      rw [hys] at hpa
      have HYS := Lib.hid hys
      have HYL := Lib.hid hyl
      clear hrd htk hys hyl
      go_wp2_with fail
      refine hpa.mono ?_
      clear hpa
      rintro e w5 ⟨A5, c5, rfl, hc5, hr5, hb5⟩
      rw [HYL.out] at hc5 hr5 ⊢
      have HP5 := Lib.hid (HP.out.below hb5)
      have hsr := HK.out.size
      have hs3 := HB3.out.size
      have HK5 := Lib.hid (show Keep (fun j => j = go) w w5 from (Keep.of_below (F := fun j => j = go) HB3.out).trans (HK.out.trans (Keep.of_below (F := fun j => j = go) hb5) (fun j hj _ => hj)) (fun j hj _ => hj))
      have HR5 := Lib.hid (hr5.weaken IntR.stable (S' := fun j => w.heap.size ≤ j) (fun j hj => by have hj2 : wr.heap.size ≤ j := hj; show w.heap.size ≤ j; omega))
      clear hr5 hb5
      go_wp2_with fail
      go_ret2
      exact ⟨A5, c5, rfl, hc5, by rw [HYS.out]; exact HR5.out, HP5.out, HK5.out⟩
end
end Go.Proofs.YtcliejdiaohamaaGreat

set_option linter.unusedSimpArgs false
set_option linter.unusedVariables false
namespace Go.Proofs.YtcliejdiaohamaaGreat
open Go.RowKit Go.Cib
attribute [local go_sem] cell_set Later.cell Later.frozen Grw.cell Grw.frozen
section
variable {w w' : World}
set_option maxRecDepth 100000 in
set_option maxHeartbeats 4000000 in
theorem pnew_any {fs n : Nat} (h1 : 1 ≤ n) (h4 : n ≤ 400) (hf : fs + n ≤ 600) : Calls Tryz.prog 106 #[.int .i64 (fs : Int), .int .i64 (n : Int)] w fun e w' => ∃ p o l go gl, e = .returned (.pointer (some ⟨p, 0, none⟩)) ∧ PoolAt w' p o l go gl 0 0 fs n (List.replicate ((n + 63) / 64) 0) (List.replicate ((n + 63) / 64) 0) ∧ (∀ j, PoolB p o l go gl j → w.heap.size ≤ j ∧ j < w'.heap.size) ∧ Below w.heap.size w w' := by
  have hbn := fun w => bnew_any (w := w) (n := n) (by omega)
  have q0 : (0 : Int) ≤ (fs : Int) := Int.natCast_nonneg _
  have q1 : (1 : Int) ≤ (n : Int) := by omega
  have q2 : (n : Int) ≤ 400 := by omega
  have q3 : (fs : Int) ≤ 600 - (n : Int) := by omega
  have f3 : IntKind.i64.wrap (600 - (n : Int)) = 600 - (n : Int) := by rw [IntKind.wrap_i64]; omega
  have f1 : decide ((fs : Int) < 0) = false := decide_eq_false (by omega)
  have f2 : decide ((n : Int) < 1) = false := decide_eq_false (by omega)
  have f4 : decide ((n : Int) > 400) = false := decide_eq_false (by omega)
  have f5 : decide ((fs : Int) > 600 - (n : Int)) = false := decide_eq_false (by omega)
  have HF := Lib.hid hf
  have HN := Lib.hid h1
  clear hf h1 h4
  go_enter Tryz.func106, Tryz.ntmps106
  go_wp2_with fail
  refine (hbn _).mono ?_
  rintro e w1 ⟨o, go, rfl, hB1, ho, hg, hb1⟩
  have HB1 := Lib.hid hB1
  have HW1 := Lib.hid hb1
  clear hB1 hb1
  go_wp2_with fail
  refine (hbn _).mono ?_
  rintro e w2 ⟨l, gl, rfl, hB2, hl, hgl, hb2⟩
  have HO := Lib.hid (HB1.out.below hb2)
  have HL := Lib.hid hB2
  have HW2 := Lib.hid (HW1.out.trans (hb2.mono HW1.out.size))
  have hs1 := HW1.out.size
  have hs2 := hb2.size
  have ol := HB1.out.box.lt
  have gll := HB1.out.row.lt
  clear hB2 hb2 hbn
  go_wp2_with fail
  go_ret
  have hbx := BoxAt.new w2 #[.int .u64 0, .int .i64 0, .int .i64 (fs : Int), .pointer (some ⟨o, 0, none⟩), .pointer (some ⟨l, 0, none⟩)] 211
  have hal : Below w2.heap.size w2 (w2.alloc (.cells #[.int .u64 0, .int .i64 0, .int .i64 (fs : Int), .pointer (some ⟨o, 0, none⟩), .pointer (some ⟨l, 0, none⟩)] 211)) := (Below.refl _ _).alloc (Nat.le_refl _) _
  have o2 := HO.out.box.lt
  have g2 := HO.out.row.lt
  have l2 := HL.out.box.lt
  have gl2 := HL.out.row.lt
  have n1 := HL.out.ne
  refine ⟨w2.heap.size, o, l, go, gl, rfl, ⟨hbx, HO.out.below hal, HL.out.below hal, ⟨by omega, by omega, by omega, by omega, by omega, by omega, by omega⟩, HF.out, HN.out⟩, fun j hj => ?_, HW2.out.trans (hal.mono HW2.out.size)⟩
  rw [World.size_alloc]
  rcases hj with h | h | h | h | h <;> omega
theorem words_rd {g : Nat} {ws : List Nat} (h : BoxAt w g (ws.map fun v : Nat => Value.int .u64 (v : Int)).toArray) : RdL U64R 1 (fun _ => True) w (some ⟨g, 0, none⟩) ws.length (ws.map fun v : Nat => (v : Int)) := by
  refine ⟨by rw [List.length_map], fun _ => ⟨g, 0, rfl, trivial, h.lt, fun i x hi => ⟨[.int .u64 x], rfl, rfl, fun j v hj => ?_⟩⟩⟩
  rcases j with _ | j
  · simp at hj; subst hj
    rw [show 0 + i * 1 + 0 = i by omega, h.cell i]
    rw [List.getElem?_map] at hi
    simp
    cases hw : ws[i]? with
    | none => rw [hw] at hi; cases hi
    | some y => rw [hw] at hi; injection hi with hi; exact ⟨y, rfl, by rw [← hi]⟩
  · simp at hj
theorem sl_u64B : SlTy Tryz.prog 221 22 (.int .u64 0) 1 8 := ⟨by kernel_rfl, by kernel_rfl, rfl, by decide⟩
set_option maxRecDepth 100000 in
set_option maxHeartbeats 4000000 in
theorem bcopy_any {o g n : Nat} {ws : List Nat} (h : BmAt w o g n ws) : Calls Tryz.prog 172 #[.pointer (some ⟨o, 0, none⟩)] w fun e w' => ∃ z, e = .returned (.pointer (some ⟨z, 0, none⟩)) ∧ Below w.heap.size w w' := by
  obtain ⟨k0, k1, k2⟩ := h.cells
  have hno := bnone_any h
  have hr := words_rd h.row
  have HR := Lib.hid hr
  obtain ⟨m, hm⟩ : ∃ m, ws.length = m := ⟨_, rfl⟩
  have hm2 : m ≤ 1000 := by have := h.n1; rw [← hm, h.ok.len]; omega
  rw [hm] at k1 HR
  have s0 : w.drew.cell? ⟨o, 0, none⟩ = some (.int .i64 (n : Int)) ∧ w.drew.cell? ⟨o, 1, none⟩ = some (.slice (some ⟨g, 0, none⟩) m m) := ⟨k0, k1⟩
  have hol := h.box.lt
  clear h hr hm
  go_enter Tryz.func172, Tryz.ntmps172
  go_wp2_with fail
  refine hno.mono ?_
  clear hno
  rintro e w1 ⟨rfl, hw1⟩
  rw [hw1]
  clear hw1
  go_wp2_with fail
  have HRD := Lib.hid (HR.out.below U64R.stable (w' := w.drew) (Below.refl _ _).drew)
  refine wp_region_held_drew (S := fun w' => w'.cell? ⟨o, 0, none⟩ = some (.int .i64 (n : Int)) ∧ w'.cell? ⟨o, 1, none⟩ = some (.slice (some ⟨g, 0, none⟩) m m)) (by kernel_rfl) (by first | exact s0 | exact s5 | exact s6 _) (fun hHeld => ?_)
  refine wpAnyH_take (i := 0) (v := ?_) rfl (by kernel_rfl) (by kernel_rfl) (by kernel_rfl) (fun _ _ _ h => h) (Or.inl ⟨by first | kernel_rfl | rfl, ?_⟩) (by assumption) ?_
  rotate_left
  · (intro wq hSw; (try dsimp only at hSw); (try simp (maxSteps := 2000000) only [zz1, zz2, zz3]); go_simp); try with_reducible rfl
  try simp (maxSteps := 2000000) only [zz1, zz2, zz3, Act.put, zz4, zz5, zz6]
  refine wpAnyH_take (i := 1) (v := ?_) rfl (by kernel_rfl) (by kernel_rfl) (by kernel_rfl) (fun _ _ _ h => h) (Or.inl ⟨by first | kernel_rfl | rfl, ?_⟩) (by assumption) ?_
  rotate_left
  · (intro wq hSw; (try dsimp only at hSw); (try simp (maxSteps := 2000000) only [zz1, zz2, zz3]); go_simp); try with_reducible rfl
  try simp (maxSteps := 2000000) only [zz1, zz2, zz3, Act.put, zz4, zz5, zz6]
  refine wpAnyH_take (i := 2) (v := ?_) rfl (by kernel_rfl) (by kernel_rfl) (by kernel_rfl) (fun _ _ _ h => h) (Or.inl ⟨by first | kernel_rfl | rfl, ?_⟩) (by assumption) ?_
  rotate_left
  · (intro wq hSw; (try dsimp only at hSw); (try simp (maxSteps := 2000000) only [zz1, zz2, zz3]); go_simp); try with_reducible rfl
  try simp (maxSteps := 2000000) only [zz1, zz2, zz3, Act.put, zz4, zz5, zz6]
  refine wpAnyH_take (i := 3) (v := ?_) rfl (by kernel_rfl) (by kernel_rfl) (by kernel_rfl) (fun _ _ _ h => h) (Or.inl ⟨by first | kernel_rfl | rfl, ?_⟩) (by assumption) ?_
  rotate_left
  · (intro wq hSw; (try dsimp only at hSw); (try simp (maxSteps := 2000000) only [zz1, zz2, zz3]); go_simp); try with_reducible rfl
  try simp (maxSteps := 2000000) only [zz1, zz2, zz3, Act.put, zz4, zz5, zz6]
  refine wpAnyH_take (i := 4) (v := ?_) rfl (by kernel_rfl) (by kernel_rfl) (by kernel_rfl) (fun _ _ _ h => h) (Or.inl ⟨by first | kernel_rfl | rfl, ?_⟩) (by assumption) ?_
  rotate_left
  · (intro wq hSw; (try dsimp only at hSw); (try simp (maxSteps := 2000000) only [zz1, zz2, zz3]); go_simp); try with_reducible rfl
  try simp (maxSteps := 2000000) only [zz1, zz2, zz3, Act.put, zz4, zz5, zz6]
  refine wpAnyH_take (i := 5) (v := ?_) rfl (by kernel_rfl) (by kernel_rfl) (by kernel_rfl) (fun _ _ _ h => h) (Or.inl ⟨by first | kernel_rfl | rfl, ?_⟩) (by assumption) ?_
  rotate_left
  · (intro wq hSw; (try dsimp only at hSw); (try simp (maxSteps := 2000000) only [zz1, zz2, zz3]); go_simp); try with_reducible rfl
  try simp (maxSteps := 2000000) only [zz1, zz2, zz3, Act.put, zz4, zz5, zz6]
  refine wpAnyH_take (i := 6) (v := ?_) rfl (by kernel_rfl) (by kernel_rfl) (by kernel_rfl) (fun _ _ _ h => h) (Or.inl ⟨by first | kernel_rfl | rfl, ?_⟩) (by assumption) ?_
  rotate_left
  · (intro wq hSw; (try dsimp only at hSw); (try simp (maxSteps := 2000000) only [zz1, zz2, zz3]); go_simp); try with_reducible rfl
  try simp (maxSteps := 2000000) only [zz1, zz2, zz3, Act.put, zz4, zz5, zz6]
  refine wpAnyH_take (i := 7) (v := ?_) rfl (by kernel_rfl) (by kernel_rfl) (by kernel_rfl) (fun _ _ _ h => h) (Or.inl ⟨by first | kernel_rfl | rfl, ?_⟩) (by assumption) ?_
  rotate_left
  · (intro wq hSw; (try dsimp only at hSw); (try simp (maxSteps := 2000000) only [zz1, zz2, zz3]); go_simp); try with_reducible rfl
  try simp (maxSteps := 2000000) only [zz1, zz2, zz3, Act.put, zz4, zz5, zz6]
  refine wpAnyH_ready (rs := [8]) (by kernel_rfl) (by simp) ?_
  refine AllReadyH.cons rfl (fun K hK => ?_) AllReadyH.nil
  refine step_law (by rfl) (wpList_appL U64R.stable U64R.one sl_u64B (by rfl) (by rfl) (base := w.drew.heap.size) (S := fun _ => True) (n := 0) (v := .slice none 0 0) (xs := []) (by exact rfl) OwnL.nil_ (by exact rfl) HRD.out (fun _ _ h => h) (by unfold maxLen; omega) (by omega) (Nat.le_refl _) ?_)
  intro A3 c3 w5 hc3 hown hg3 hat
  refine ⟨rfl, ?_⟩
  have hb5 : Below w.drew.heap.size w.drew w5 := (Below.refl _ _).grown hg3 (Nat.le_refl _) (fun k hk => by cases hk)
  have s5 : w5.cell? ⟨o, 0, none⟩ = some (.int .i64 (n : Int)) ∧ w5.cell? ⟨o, 1, none⟩ = some (.slice (some ⟨g, 0, none⟩) m m) := ⟨(hb5.cell (p := ⟨o, 0, none⟩) hol).trans s0.1, (hb5.cell (p := ⟨o, 1, none⟩) hol).trans s0.2⟩
  have s6 : ∀ ob : Obj, (w5.alloc ob).cell? ⟨o, 0, none⟩ = some (.int .i64 (n : Int)) ∧ (w5.alloc ob).cell? ⟨o, 1, none⟩ = some (.slice (some ⟨g, 0, none⟩) m m) := fun ob => by
    have hb6 := hb5.alloc hb5.size ob
    exact ⟨(hb6.cell (p := ⟨o, 0, none⟩) hol).trans s0.1, (hb6.cell (p := ⟨o, 1, none⟩) hol).trans s0.2⟩
  have HB5 := Lib.hid hb5
  clear hown hg3 hat hb5
  rw [Nat.zero_add]
  refine hK.out _ _ (by first | exact s0 | exact s5 | exact s6 _) (fun hHeld => ?_)
  clear hK K
  try simp (maxSteps := 2000000) only [zz1, zz2, zz3, Act.put, zz4, zz5, zz6]
  refine wpAnyH_take (i := 9) (v := ?_) rfl (by kernel_rfl) (by kernel_rfl) (by kernel_rfl) (fun _ _ _ h => h) (Or.inl ⟨by first | kernel_rfl | rfl, ?_⟩) (by assumption) ?_
  rotate_left
  · (intro wq hSw; (try dsimp only at hSw); (try simp (maxSteps := 2000000) only [zz1, zz2, zz3]); go_simp); try with_reducible rfl
  try simp (maxSteps := 2000000) only [zz1, zz2, zz3, Act.put, zz4, zz5, zz6]
  refine wpAnyH_ready (rs := [10]) (by kernel_rfl) (by simp) ?_
  refine AllReadyH.cons rfl (fun K hK => ?_) AllReadyH.nil
  try simp (maxSteps := 2000000) only [zz1, zz2, zz3]
  go_simp
  refine hK.out _ _ (by first | exact s0 | exact s5 | exact s6 _) (fun hHeld => ?_)
  clear hK K
  try simp (maxSteps := 2000000) only [zz1, zz2, zz3, Act.put, zz4, zz5, zz6]
  refine wpAnyH_take (i := 11) (v := ?_) rfl (by kernel_rfl) (by kernel_rfl) (by kernel_rfl) (fun _ _ _ h => h) (Or.inl ⟨by first | kernel_rfl | rfl, ?_⟩) (by assumption) ?_
  rotate_left
  · (intro wq hSw; (try dsimp only at hSw); (try simp (maxSteps := 2000000) only [zz1, zz2, zz3]); go_simp); try with_reducible rfl
  try simp (maxSteps := 2000000) only [zz1, zz2, zz3, Act.put, zz4, zz5, zz6]
  refine wpAnyH_done (by kernel_rfl) ?_ _
  clear s0 s5 s6 hHeld
  go_wp2_with fail
  go_ret
  exact ⟨_, rfl, ((Below.refl w.heap.size w).drew.trans HB5.out).alloc HB5.out.size _⟩
section
variable {p o l go gl ep ct fs n : Nat} {wo wl : List Nat}
set_option maxRecDepth 100000 in
set_option maxHeartbeats 4000000 in
theorem pcopy_any (h : PoolAt w p o l go gl ep ct fs n wo wl) : Calls Tryz.prog 108 #[.pointer (some ⟨p, 0, none⟩)] w fun e w' => ∃ z, e = .returned (.pointer (some ⟨z, 0, none⟩)) ∧ Below w.heap.size w w' := by
  obtain ⟨k0, k1, k2, k3, k4⟩ := h.cells
  have hno := pnone_any h
  have hco := fun (W : World) (hb : Below w.heap.size w W) => bcopy_any (h.out.below hb)
  have hcl := fun (W : World) (hb : Below w.heap.size w W) => bcopy_any (h.lim.below hb)
  have hpl := h.box.lt
  have mk : ∀ W, Below w.heap.size w W → W.cell? ⟨p, 0, none⟩ = some (.int .u64 (ep : Int)) ∧ W.cell? ⟨p, 1, none⟩ = some (.int .i64 (ct : Int)) ∧ W.cell? ⟨p, 2, none⟩ = some (.int .i64 (fs : Int)) ∧ W.cell? ⟨p, 3, none⟩ = some (.pointer (some ⟨o, 0, none⟩)) ∧ W.cell? ⟨p, 4, none⟩ = some (.pointer (some ⟨l, 0, none⟩)) := fun W hb =>
    ⟨(hb.cell (p := ⟨p, 0, none⟩) hpl).trans k0, (hb.cell (p := ⟨p, 1, none⟩) hpl).trans k1, (hb.cell (p := ⟨p, 2, none⟩) hpl).trans k2, (hb.cell (p := ⟨p, 3, none⟩) hpl).trans k3, (hb.cell (p := ⟨p, 4, none⟩) hpl).trans k4⟩
  have hb0 : Below w.heap.size w w.drew := (Below.refl _ _).drew
  have s0 := mk _ hb0
  have MK := Lib.hid mk
  clear h mk
  go_enter Tryz.func108, Tryz.ntmps108
  go_wp2_with fail
  refine hno.mono ?_
  clear hno
  rintro e w1 ⟨rfl, hw1⟩
  rw [hw1]
  clear hw1
  go_wp2_with fail
  refine wp_region_held_drew (S := fun w' => w'.cell? ⟨p, 0, none⟩ = some (.int .u64 (ep : Int)) ∧ w'.cell? ⟨p, 1, none⟩ = some (.int .i64 (ct : Int)) ∧ w'.cell? ⟨p, 2, none⟩ = some (.int .i64 (fs : Int)) ∧ w'.cell? ⟨p, 3, none⟩ = some (.pointer (some ⟨o, 0, none⟩)) ∧ w'.cell? ⟨p, 4, none⟩ = some (.pointer (some ⟨l, 0, none⟩))) (by kernel_rfl) (by first | exact s0 | exact s1 | exact s2 | exact s3 _) (fun hHeld => ?_)
  refine wpAnyH_take (i := 0) (v := ?_) rfl (by kernel_rfl) (by kernel_rfl) (by kernel_rfl) (fun _ _ _ h => h) (Or.inl ⟨by first | kernel_rfl | rfl, ?_⟩) (by assumption) ?_
  rotate_left
  · (intro wq hSw; (try dsimp only at hSw); (try simp (maxSteps := 2000000) only [zz1, zz2, zz3]); go_simp); try with_reducible rfl
  try simp (maxSteps := 2000000) only [zz1, zz2, zz3, Act.put, zz4, zz5, zz6]
  refine wpAnyH_take (i := 1) (v := ?_) rfl (by kernel_rfl) (by kernel_rfl) (by kernel_rfl) (fun _ _ _ h => h) (Or.inl ⟨by first | kernel_rfl | rfl, ?_⟩) (by assumption) ?_
  rotate_left
  · (intro wq hSw; (try dsimp only at hSw); (try simp (maxSteps := 2000000) only [zz1, zz2, zz3]); go_simp); try with_reducible rfl
  try simp (maxSteps := 2000000) only [zz1, zz2, zz3, Act.put, zz4, zz5, zz6]
  refine wpAnyH_take (i := 2) (v := ?_) rfl (by kernel_rfl) (by kernel_rfl) (by kernel_rfl) (fun _ _ _ h => h) (Or.inl ⟨by first | kernel_rfl | rfl, ?_⟩) (by assumption) ?_
  rotate_left
  · (intro wq hSw; (try dsimp only at hSw); (try simp (maxSteps := 2000000) only [zz1, zz2, zz3]); go_simp); try with_reducible rfl
  try simp (maxSteps := 2000000) only [zz1, zz2, zz3, Act.put, zz4, zz5, zz6]
  refine wpAnyH_take (i := 3) (v := ?_) rfl (by kernel_rfl) (by kernel_rfl) (by kernel_rfl) (fun _ _ _ h => h) (Or.inl ⟨by first | kernel_rfl | rfl, ?_⟩) (by assumption) ?_
  rotate_left
  · (intro wq hSw; (try dsimp only at hSw); (try simp (maxSteps := 2000000) only [zz1, zz2, zz3]); go_simp); try with_reducible rfl
  try simp (maxSteps := 2000000) only [zz1, zz2, zz3, Act.put, zz4, zz5, zz6]
  refine wpAnyH_take (i := 4) (v := ?_) rfl (by kernel_rfl) (by kernel_rfl) (by kernel_rfl) (fun _ _ _ h => h) (Or.inl ⟨by first | kernel_rfl | rfl, ?_⟩) (by assumption) ?_
  rotate_left
  · (intro wq hSw; (try dsimp only at hSw); (try simp (maxSteps := 2000000) only [zz1, zz2, zz3]); go_simp); try with_reducible rfl
  try simp (maxSteps := 2000000) only [zz1, zz2, zz3, Act.put, zz4, zz5, zz6]
  refine wpAnyH_take (i := 5) (v := ?_) rfl (by kernel_rfl) (by kernel_rfl) (by kernel_rfl) (fun _ _ _ h => h) (Or.inl ⟨by first | kernel_rfl | rfl, ?_⟩) (by assumption) ?_
  rotate_left
  · (intro wq hSw; (try dsimp only at hSw); (try simp (maxSteps := 2000000) only [zz1, zz2, zz3]); go_simp); try with_reducible rfl
  try simp (maxSteps := 2000000) only [zz1, zz2, zz3, Act.put, zz4, zz5, zz6]
  refine wpAnyH_take (i := 6) (v := ?_) rfl (by kernel_rfl) (by kernel_rfl) (by kernel_rfl) (fun _ _ _ h => h) (Or.inl ⟨by first | kernel_rfl | rfl, ?_⟩) (by assumption) ?_
  rotate_left
  · (intro wq hSw; (try dsimp only at hSw); (try simp (maxSteps := 2000000) only [zz1, zz2, zz3]); go_simp); try with_reducible rfl
  try simp (maxSteps := 2000000) only [zz1, zz2, zz3, Act.put, zz4, zz5, zz6]
  refine wpAnyH_take (i := 7) (v := ?_) rfl (by kernel_rfl) (by kernel_rfl) (by kernel_rfl) (fun _ _ _ h => h) (Or.inl ⟨by first | kernel_rfl | rfl, ?_⟩) (by assumption) ?_
  rotate_left
  · (intro wq hSw; (try dsimp only at hSw); (try simp (maxSteps := 2000000) only [zz1, zz2, zz3]); go_simp); try with_reducible rfl
  try simp (maxSteps := 2000000) only [zz1, zz2, zz3, Act.put, zz4, zz5, zz6]
  refine wpAnyH_take (i := 8) (v := ?_) rfl (by kernel_rfl) (by kernel_rfl) (by kernel_rfl) (fun _ _ _ h => h) (Or.inl ⟨by first | kernel_rfl | rfl, ?_⟩) (by assumption) ?_
  rotate_left
  · (intro wq hSw; (try dsimp only at hSw); (try simp (maxSteps := 2000000) only [zz1, zz2, zz3]); go_simp); try with_reducible rfl
  try simp (maxSteps := 2000000) only [zz1, zz2, zz3, Act.put, zz4, zz5, zz6]
  refine wpAnyH_take (i := 9) (v := ?_) rfl (by kernel_rfl) (by kernel_rfl) (by kernel_rfl) (fun _ _ _ h => h) (Or.inl ⟨by first | kernel_rfl | rfl, ?_⟩) (by assumption) ?_
  rotate_left
  · (intro wq hSw; (try dsimp only at hSw); (try simp (maxSteps := 2000000) only [zz1, zz2, zz3]); go_simp); try with_reducible rfl
  try simp (maxSteps := 2000000) only [zz1, zz2, zz3, Act.put, zz4, zz5, zz6]
  refine wpAnyH_take (i := 10) (v := ?_) rfl (by kernel_rfl) (by kernel_rfl) (by kernel_rfl) (fun _ _ _ h => h) (Or.inl ⟨by first | kernel_rfl | rfl, ?_⟩) (by assumption) ?_
  rotate_left
  · (intro wq hSw; (try dsimp only at hSw); (try simp (maxSteps := 2000000) only [zz1, zz2, zz3]); go_simp); try with_reducible rfl
  try simp (maxSteps := 2000000) only [zz1, zz2, zz3, Act.put, zz4, zz5, zz6]
  refine wpAnyH_take (i := 11) (v := ?_) rfl (by kernel_rfl) (by kernel_rfl) (by kernel_rfl) (fun _ _ _ h => h) (Or.inl ⟨by first | kernel_rfl | rfl, ?_⟩) (by assumption) ?_
  rotate_left
  · (intro wq hSw; (try dsimp only at hSw); (try simp (maxSteps := 2000000) only [zz1, zz2, zz3]); go_simp); try with_reducible rfl
  try simp (maxSteps := 2000000) only [zz1, zz2, zz3, Act.put, zz4, zz5, zz6]
  refine wpAnyH_take (i := 13) (v := ?_) rfl (by kernel_rfl) (by kernel_rfl) (by kernel_rfl) (fun _ _ _ h => h) (Or.inl ⟨by first | kernel_rfl | rfl, ?_⟩) (by assumption) ?_
  rotate_left
  · (intro wq hSw; (try dsimp only at hSw); (try simp (maxSteps := 2000000) only [zz1, zz2, zz3]); go_simp); try with_reducible rfl
  try simp (maxSteps := 2000000) only [zz1, zz2, zz3, Act.put, zz4, zz5, zz6]
  refine wpAnyH_take (i := 14) (v := ?_) rfl (by kernel_rfl) (by kernel_rfl) (by kernel_rfl) (fun _ _ _ h => h) (Or.inl ⟨by first | kernel_rfl | rfl, ?_⟩) (by assumption) ?_
  rotate_left
  · (intro wq hSw; (try dsimp only at hSw); (try simp (maxSteps := 2000000) only [zz1, zz2, zz3]); go_simp); try with_reducible rfl
  try simp (maxSteps := 2000000) only [zz1, zz2, zz3, Act.put, zz4, zz5, zz6]
  refine wpAnyH_take (i := 15) (v := ?_) rfl (by kernel_rfl) (by kernel_rfl) (by kernel_rfl) (fun _ _ _ h => h) (Or.inl ⟨by first | kernel_rfl | rfl, ?_⟩) (by assumption) ?_
  rotate_left
  · (intro wq hSw; (try dsimp only at hSw); (try simp (maxSteps := 2000000) only [zz1, zz2, zz3]); go_simp); try with_reducible rfl
  try simp (maxSteps := 2000000) only [zz1, zz2, zz3, Act.put, zz4, zz5, zz6]
  refine wpAnyH_take (i := 16) (v := ?_) rfl (by kernel_rfl) (by kernel_rfl) (by kernel_rfl) (fun _ _ _ h => h) (Or.inl ⟨by first | kernel_rfl | rfl, ?_⟩) (by assumption) ?_
  rotate_left
  · (intro wq hSw; (try dsimp only at hSw); (try simp (maxSteps := 2000000) only [zz1, zz2, zz3]); go_simp); try with_reducible rfl
  try simp (maxSteps := 2000000) only [zz1, zz2, zz3, Act.put, zz4, zz5, zz6]
  refine wpAnyH_ready (rs := [12]) (by kernel_rfl) (by simp) ?_
  refine AllReadyH.cons rfl (fun K hK => ?_) AllReadyH.nil
  try simp (maxSteps := 2000000) only [zz1, zz2, zz3]
  go_simp
  refine (hco _ hb0).mono ?_
  rintro e v1 ⟨z1, rfl, hc1⟩
  have hb1 := hb0.trans (hc1.mono hb0.size)
  have s1 := MK.out _ hb1
  clear hc1
  try (go_wp2_with fail)
  refine hK.out _ _ (by first | exact s0 | exact s1 | exact s2 | exact s3 _) (fun hHeld => ?_)
  clear hK K
  try simp (maxSteps := 2000000) only [zz1, zz2, zz3, Act.put, zz4, zz5, zz6]
  refine wpAnyH_ready (rs := [17]) (by kernel_rfl) (by simp) ?_
  refine AllReadyH.cons rfl (fun K hK => ?_) AllReadyH.nil
  try simp (maxSteps := 2000000) only [zz1, zz2, zz3]
  go_simp
  refine (hcl _ hb1).mono ?_
  rintro e v2 ⟨z2, rfl, hc2⟩
  have hb2 := hb1.trans (hc2.mono hb1.size)
  have s2 := MK.out _ hb2
  clear hc2
  try (go_wp2_with fail)
  refine hK.out _ _ (by first | exact s0 | exact s1 | exact s2 | exact s3 _) (fun hHeld => ?_)
  clear hK K
  try simp (maxSteps := 2000000) only [zz1, zz2, zz3, Act.put, zz4, zz5, zz6]
  refine wpAnyH_take (i := 18) (v := ?_) rfl (by kernel_rfl) (by kernel_rfl) (by kernel_rfl) (fun _ _ _ h => h) (Or.inl ⟨by first | kernel_rfl | rfl, ?_⟩) (by assumption) ?_
  rotate_left
  · (intro wq hSw; (try dsimp only at hSw); (try simp (maxSteps := 2000000) only [zz1, zz2, zz3]); go_simp); try with_reducible rfl
  try simp (maxSteps := 2000000) only [zz1, zz2, zz3, Act.put, zz4, zz5, zz6]
  have s3 : ∀ ob : Obj, _ := fun ob => MK.out _ (hb2.alloc hb2.size ob)
  refine wpAnyH_ready (rs := [19]) (by kernel_rfl) (by simp) ?_
  refine AllReadyH.cons rfl (fun K hK => ?_) AllReadyH.nil
  try simp (maxSteps := 2000000) only [zz1, zz2, zz3]
  go_simp
  refine hK.out _ _ (by first | exact s0 | exact s1 | exact s2 | exact s3 _) (fun hHeld => ?_)
  clear hK K
  try simp (maxSteps := 2000000) only [zz1, zz2, zz3, Act.put, zz4, zz5, zz6]
  refine wpAnyH_take (i := 20) (v := ?_) rfl (by kernel_rfl) (by kernel_rfl) (by kernel_rfl) (fun _ _ _ h => h) (Or.inl ⟨by first | kernel_rfl | rfl, ?_⟩) (by assumption) ?_
  rotate_left
  · (intro wq hSw; (try dsimp only at hSw); (try simp (maxSteps := 2000000) only [zz1, zz2, zz3]); go_simp); try with_reducible rfl
  try simp (maxSteps := 2000000) only [zz1, zz2, zz3, Act.put, zz4, zz5, zz6]
  refine wpAnyH_done (by kernel_rfl) ?_ _
  clear s0 s1 s2 s3 hHeld
  have HB2 := Lib.hid hb2
  clear hb0 hb1 hb2
  go_wp2_with fail
  go_ret
  exact ⟨_, rfl, HB2.out.alloc HB2.out.size _⟩
end
end
end Go.Proofs.YtcliejdiaohamaaGreat

set_option linter.unusedSimpArgs false
set_option linter.unusedVariables false
namespace Go.Proofs.YtcliejdiaohamaaGreat
open Go.RowKit Go.Cib
attribute [local go_sem] cell_set Later.cell Later.frozen Grw.cell Grw.frozen
theorem piece_mid {T E : TypeId} {z : Value} {s b : Nat} (st : SlTy Tryz.prog T E z s b) {A : Option Addr} {N c k j : Nat} (hk : k ≤ j) (hj : j ≤ c) (w : World) : (Instr.slice T (.slice A N c) (some (.int .i64 (k : Int))) (some (.int .i64 (j : Int))) none).run Tryz.prog w = .ok (.slice (if c = k then A else A.map (fun x : Addr => x.add (k * s))) (j - k) (c - k)) w := by
  obtain ⟨i, hi, hz, hsz, hby⟩ := info_parts st.info
  have hel : Tryz.prog.elem T = E := by simp [Program.elem, st.und]
  have ht : Tryz.prog.underlying T = some (.slice (Tryz.prog.elem T)) := by rw [hel]; exact st.und
  rw [run_slice_lh (t := T) (ht := ht) (h0 := Int.natCast_nonneg _) (h1 := by omega) (h2 := by omega)]
  have hs : (sizeOf (Tryz.prog.elem T)).run Tryz.prog w = .ok s w := by
    rw [hel]; simp [sizeOf, typeInfo, hi, hsz]
  rw [hs]
  simp only [Result.andThen, sliced, Int.toNat_natCast]
theorem piece_one {S : Nat → Prop} {w : World} {A : Option Addr} {n c : Nat} {xs : List Nat} (h : RdL ByR 1 S w A n xs) (hn : n ≤ c) {k j : Nat} (hk : k ≤ j) (hj : j ≤ n) : RdL ByR 1 S w (if c = k then A else A.map (fun x : Addr => x.add (k * 1))) (j - k) ((xs.drop k).take (j - k)) := by
  exact RdL.take (piece_rd h hn (k := k) (by omega)) (k := j - k) (by omega)
attribute [local go_sem ↓] run_min_b
end Go.Proofs.YtcliejdiaohamaaGreat

set_option linter.unusedSimpArgs false
set_option linter.unusedVariables false
namespace Go.Proofs.YtcliejdiaohamaaGreat
open Go.RowKit Go.Cib
attribute [local go_sem] cell_set Later.cell Later.frozen Grw.cell Grw.frozen
def cntN (k size : Nat) : Nat := (size + k * 44 - 1) / (k * 44)
section
variable {w w' : World} {p o l go gl ep ct fs n cb bf k m : Nat} {wo wl : List Nat}
end
end Go.Proofs.YtcliejdiaohamaaGreat

set_option linter.unusedSimpArgs false
set_option linter.unusedVariables false
namespace Go.Proofs.YtcliejdiaohamaaGreat
open Go.RowKit Go.Cib
attribute [local go_sem] cell_set Later.cell Later.frozen Grw.cell Grw.frozen
def bRef (ps : List Int) (gen : Nat) (i : Nat) : Ref := ⟨3, (ps.getD i 0).toNat, gen + i⟩
def bPc (k : Nat) (xs : List Nat) (i : Nat) : List Nat := (xs.drop (i * (k * 44))).take (k * 44)
/-- The drives behind the first i stripes. -/
def putB (n k N : Nat) (ps : List Int) (gen : Nat) (xs : List Nat) (sts : List DSt) : Nat → List DSt
  | 0 => sts
  | i + 1 => (putB n k N ps gen xs sts i).mapIdx (putQ n k N (bRef ps gen i) (bPc k xs i))
section
variable {P X S : Nat → Prop} {w0 w w' : World} {a p o l go gl ep ct fs np n cb bf k m : Nat} {wo wl : List Nat} {sts : List DSt}
end
end Go.Proofs.YtcliejdiaohamaaGreat

set_option linter.unusedSimpArgs false
set_option linter.unusedVariables false
namespace Go.Proofs.YtcliejdiaohamaaGreat
open Go.RowKit Go.Cib
attribute [local go_sem] cell_set Later.cell Later.frozen Grw.cell Grw.frozen
section
variable {w w' : World} {cb bf k m : Nat}
attribute [local go_sem ↓] run_min_b
end
end Go.Proofs.YtcliejdiaohamaaGreat

set_option linter.unusedSimpArgs false
set_option linter.unusedVariables false
namespace Go.Proofs.YtcliejdiaohamaaGreat
open Go.RowKit Go.Cib
attribute [local go_sem] cell_set Later.cell Later.frozen Grw.cell Grw.frozen
section
variable {w0 w w' : World} {a n cb bf k m : Nat} {sts : List DSt} {S : Nat → Prop}
theorem an_s (h : SMid w0 w a cb bf k m n sts) : Calls Tryz.prog 86 #[.pointer (some ⟨a, 0, none⟩)] w fun e w' => e = .returned (.int .i64 ((k + m : Nat) : Int)) ∧ Below w.heap.size w w' := by
  have hk := h.k1
  have hl := h.len
  obtain ⟨U, C, ⟨v, Fs, ps, hA⟩, hC, hU, hd⟩ := h.ex
  have := an_any (Lib.hid hA) (by omega)
  rw [hl] at this
  exact this
end
end Go.Proofs.YtcliejdiaohamaaGreat

set_option linter.unusedSimpArgs false
set_option linter.unusedVariables false
namespace Go.Proofs.YtcliejdiaohamaaGreat
open Go.RowKit Go.Cib
attribute [local go_sem] cell_set Later.cell Later.frozen Grw.cell Grw.frozen
def baseC (k m f c : Int) : Array Value := #[.int .i64 k, .int .i64 m, .int .i64 f, .int .i64 c]
end Go.Proofs.YtcliejdiaohamaaGreat

set_option linter.unusedSimpArgs false
set_option linter.unusedVariables false
namespace Go.Proofs.YtcliejdiaohamaaGreat
open Go.RowKit Go.Cib
attribute [local go_sem] cell_set Later.cell Later.frozen Grw.cell Grw.frozen
set_option maxRecDepth 100000 in
set_option maxHeartbeats 8000000 in
theorem bmade_any {w0 w : World} {k m f c : Nat} (hbel : Below w0.heap.size w0 w) (k1 : 1 ≤ k) (m1 : 1 ≤ m) (km : k + m ≤ 255) (c1 : 1 ≤ c) (c2 : c ≤ 400) (hfc : f + c ≤ 600) :
    Calls Tryz.prog 39 #[.agg (baseC k m f c)] w fun e w' => ∃ a cb bf p o l go gl, e = .returned (.tuple #[.pointer (some ⟨a, 0, none⟩), .pointer (some ⟨cb, 0, none⟩), .pointer (some ⟨p, 0, none⟩)]) ∧ MidP (PoolB p o l go gl) (fun j => j < w.heap.size) w0 w' a cb bf k m (f + c) (List.replicate (k + m) (DSt.new (f + c))) ∧ PoolAt w' p o l go gl 0 0 f c (List.replicate ((c + 63) / 64) 0) (List.replicate ((c + 63) / 64) 0) ∧ Below w.heap.size w w' := by
  have hb0 : Below w.heap.size w (w.alloc (.cells (baseC k m f c) 76)) := (Below.refl _ _).alloc (Nat.le_refl _) _
  have bG := BoxAt.new w (baseC k m f c) 76
  obtain ⟨N, hN⟩ : ∃ N, k + m = N := ⟨_, rfl⟩
  obtain ⟨n, hn⟩ : ∃ n, f + c = n := ⟨_, rfl⟩
  have hnw := fun w => anew_any N n (by omega) (by omega) (by omega) (by omega) w
  have hfn := fun w => fldnew_any (w := w)
  have hcn := fun w b base F hb => new_anyS (w := w) (b := b) (base := base) (k := k) (m := m) F hb k1 m1 km
  have hpn := fun w => pnew_any (w := w) (fs := f) (n := c) c1 c2 hfc
  have q0 : (k : Int) + (m : Int) = (N : Int) := by omega
  have q1 : IntKind.i64.wrap (N : Int) = (N : Int) := by rw [IntKind.wrap_i64]; omega
  have q2 : (f : Int) + (c : Int) = (n : Int) := by omega
  have q3 : IntKind.i64.wrap (n : Int) = (n : Int) := by rw [IntKind.wrap_i64]; omega
  have HN := Lib.hid hN
  have Hn := Lib.hid hn
  have HR := Lib.hid (show 1 ≤ n ∧ n ≤ 600 from ⟨by omega, by omega⟩)
  unfold baseC at hb0 bG ⊢
  go_enter Tryz.func39, Tryz.ntmps39
  go_wp2_with fail
  obtain ⟨wA, hwA⟩ : ∃ wA, w.alloc (.cells #[.int .i64 (k : Int), .int .i64 (m : Int), .int .i64 (f : Int), .int .i64 (c : Int)] 76) = wA := ⟨_, rfl⟩
  rw [hwA] at hb0 bG ⊢
  obtain ⟨q, hq⟩ : ∃ q, w.heap.size = q := ⟨_, rfl⟩
  have HQ := Lib.hid hq
  rw [hq] at bG ⊢
  clear hwA hN hn hq c1 c2 hfc
  have bGd : BoxAt wA.drew q #[.int .i64 (k : Int), .int .i64 (m : Int), .int .i64 (f : Int), .int .i64 (c : Int)] := bG.keep rfl
  have hd : Below w.heap.size w wA.drew := hb0.drew
  have s0 : wA.drew.cell? ⟨q, 0, none⟩ = some (.int .i64 (k : Int)) ∧ wA.drew.cell? ⟨q, 1, none⟩ = some (.int .i64 (m : Int)) ∧ wA.drew.cell? ⟨q, 2, none⟩ = some (.int .i64 (f : Int)) ∧ wA.drew.cell? ⟨q, 3, none⟩ = some (.int .i64 (c : Int)) := ⟨bGd.cell 0, bGd.cell 1, bGd.cell 2, bGd.cell 3⟩
  refine wp_region_held_drew (S := fun w' => w'.cell? ⟨q, 0, none⟩ = some (.int .i64 (k : Int)) ∧ w'.cell? ⟨q, 1, none⟩ = some (.int .i64 (m : Int)) ∧ w'.cell? ⟨q, 2, none⟩ = some (.int .i64 (f : Int)) ∧ w'.cell? ⟨q, 3, none⟩ = some (.int .i64 (c : Int))) (by kernel_rfl) (by first | exact s0 | exact s5 | exact s6 | exact s7 | exact s8) (fun hHeld => ?_)
  refine wpAnyH_take (i := 0) (v := ?_) rfl (by kernel_rfl) (by kernel_rfl) (by kernel_rfl) (fun _ _ _ h => h) (Or.inl ⟨by first | kernel_rfl | rfl, ?_⟩) (by assumption) ?_
  rotate_left
  · (intro wq hSw; (try dsimp only at hSw); (try simp (maxSteps := 2000000) only [zz1, zz2, zz3]); go_simp); try with_reducible rfl
  try simp (maxSteps := 2000000) only [zz1, zz2, zz3, Act.put, zz4, zz5, zz6]
  refine wpAnyH_take (i := 1) (v := ?_) rfl (by kernel_rfl) (by kernel_rfl) (by kernel_rfl) (fun _ _ _ h => h) (Or.inl ⟨by first | kernel_rfl | rfl, ?_⟩) (by assumption) ?_
  rotate_left
  · (intro wq hSw; (try dsimp only at hSw); (try simp (maxSteps := 2000000) only [zz1, zz2, zz3]); go_simp); try with_reducible rfl
  try simp (maxSteps := 2000000) only [zz1, zz2, zz3, Act.put, zz4, zz5, zz6]
  refine wpAnyH_take (i := 2) (v := ?_) rfl (by kernel_rfl) (by kernel_rfl) (by kernel_rfl) (fun _ _ _ h => h) (Or.inl ⟨by first | kernel_rfl | rfl, ?_⟩) (by assumption) ?_
  rotate_left
  · (intro wq hSw; (try dsimp only at hSw); (try simp (maxSteps := 2000000) only [zz1, zz2, zz3]); go_simp); try with_reducible rfl
  try simp (maxSteps := 2000000) only [zz1, zz2, zz3, Act.put, zz4, zz5, zz6]
  refine wpAnyH_take (i := 3) (v := ?_) rfl (by kernel_rfl) (by kernel_rfl) (by kernel_rfl) (fun _ _ _ h => h) (Or.inl ⟨by first | kernel_rfl | rfl, ?_⟩) (by assumption) ?_
  rotate_left
  · (intro wq hSw; (try dsimp only at hSw); (try simp (maxSteps := 2000000) only [zz1, zz2, zz3]); go_simp); try with_reducible rfl
  try simp (maxSteps := 2000000) only [zz1, zz2, zz3, Act.put, zz4, zz5, zz6]
  refine wpAnyH_take (i := 4) (v := ?_) rfl (by kernel_rfl) (by kernel_rfl) (by kernel_rfl) (fun _ _ _ h => h) (Or.inl ⟨by first | kernel_rfl | rfl, ?_⟩) (by assumption) ?_
  rotate_left
  · (intro wq hSw; (try dsimp only at hSw); (try simp (maxSteps := 2000000) only [zz1, zz2, zz3]); go_simp); try with_reducible rfl
  try simp (maxSteps := 2000000) only [zz1, zz2, zz3, Act.put, zz4, zz5, zz6]
  refine wpAnyH_take (i := 5) (v := ?_) rfl (by kernel_rfl) (by kernel_rfl) (by kernel_rfl) (fun _ _ _ h => h) (Or.inl ⟨by first | kernel_rfl | rfl, ?_⟩) (by assumption) ?_
  rotate_left
  · (intro wq hSw; (try dsimp only at hSw); (try simp (maxSteps := 2000000) only [zz1, zz2, zz3]); go_simp); try with_reducible rfl
  try simp (maxSteps := 2000000) only [zz1, zz2, zz3, Act.put, zz4, zz5, zz6]
  refine wpAnyH_take (i := 6) (v := ?_) rfl (by kernel_rfl) (by kernel_rfl) (by kernel_rfl) (fun _ _ _ h => h) (Or.inl ⟨by first | kernel_rfl | rfl, ?_⟩) (by assumption) ?_
  rotate_left
  · (intro wq hSw; (try dsimp only at hSw); (try simp (maxSteps := 2000000) only [zz1, zz2, zz3]); go_simp); try with_reducible rfl
  try simp (maxSteps := 2000000) only [zz1, zz2, zz3, Act.put, zz4, zz5, zz6]
  refine wpAnyH_take (i := 7) (v := ?_) rfl (by kernel_rfl) (by kernel_rfl) (by kernel_rfl) (fun _ _ _ h => h) (Or.inl ⟨by first | kernel_rfl | rfl, ?_⟩) (by assumption) ?_
  rotate_left
  · (intro wq hSw; (try dsimp only at hSw); (try simp (maxSteps := 2000000) only [zz1, zz2, zz3]); go_simp); try with_reducible rfl
  try simp (maxSteps := 2000000) only [zz1, zz2, zz3, Act.put, zz4, zz5, zz6]
  refine wpAnyH_take (i := 8) (v := ?_) rfl (by kernel_rfl) (by kernel_rfl) (by kernel_rfl) (fun _ _ _ h => h) (Or.inl ⟨by first | kernel_rfl | rfl, ?_⟩) (by assumption) ?_
  rotate_left
  · (intro wq hSw; (try dsimp only at hSw); (try simp (maxSteps := 2000000) only [zz1, zz2, zz3]); go_simp); try with_reducible rfl
  try simp (maxSteps := 2000000) only [zz1, zz2, zz3, Act.put, zz4, zz5, zz6]
  refine wpAnyH_take (i := 9) (v := ?_) rfl (by kernel_rfl) (by kernel_rfl) (by kernel_rfl) (fun _ _ _ h => h) (Or.inl ⟨by first | kernel_rfl | rfl, ?_⟩) (by assumption) ?_
  rotate_left
  · (intro wq hSw; (try dsimp only at hSw); (try simp (maxSteps := 2000000) only [zz1, zz2, zz3]); go_simp); try with_reducible rfl
  try simp (maxSteps := 2000000) only [zz1, zz2, zz3, Act.put, zz4, zz5, zz6]
  refine wpAnyH_take (i := 12) (v := ?_) rfl (by kernel_rfl) (by kernel_rfl) (by kernel_rfl) (fun _ _ _ h => h) (Or.inl ⟨by first | kernel_rfl | rfl, ?_⟩) (by assumption) ?_
  rotate_left
  · (intro wq hSw; (try dsimp only at hSw); (try simp (maxSteps := 2000000) only [zz1, zz2, zz3]); go_simp); try with_reducible rfl
  try simp (maxSteps := 2000000) only [zz1, zz2, zz3, Act.put, zz4, zz5, zz6]
  refine wpAnyH_take (i := 13) (v := ?_) rfl (by kernel_rfl) (by kernel_rfl) (by kernel_rfl) (fun _ _ _ h => h) (Or.inl ⟨by first | kernel_rfl | rfl, ?_⟩) (by assumption) ?_
  rotate_left
  · (intro wq hSw; (try dsimp only at hSw); (try simp (maxSteps := 2000000) only [zz1, zz2, zz3]); go_simp); try with_reducible rfl
  try simp (maxSteps := 2000000) only [zz1, zz2, zz3, Act.put, zz4, zz5, zz6]
  refine wpAnyH_take (i := 14) (v := ?_) rfl (by kernel_rfl) (by kernel_rfl) (by kernel_rfl) (fun _ _ _ h => h) (Or.inl ⟨by first | kernel_rfl | rfl, ?_⟩) (by assumption) ?_
  rotate_left
  · (intro wq hSw; (try dsimp only at hSw); (try simp (maxSteps := 2000000) only [zz1, zz2, zz3]); go_simp); try with_reducible rfl
  try simp (maxSteps := 2000000) only [zz1, zz2, zz3, Act.put, zz4, zz5, zz6]
  refine wpAnyH_take (i := 15) (v := ?_) rfl (by kernel_rfl) (by kernel_rfl) (by kernel_rfl) (fun _ _ _ h => h) (Or.inl ⟨by first | kernel_rfl | rfl, ?_⟩) (by assumption) ?_
  rotate_left
  · (intro wq hSw; (try dsimp only at hSw); (try simp (maxSteps := 2000000) only [zz1, zz2, zz3]); go_simp); try with_reducible rfl
  try simp (maxSteps := 2000000) only [zz1, zz2, zz3, Act.put, zz4, zz5, zz6]
  refine wpAnyH_take (i := 17) (v := ?_) rfl (by kernel_rfl) (by kernel_rfl) (by kernel_rfl) (fun _ _ _ h => h) (Or.inl ⟨by first | kernel_rfl | rfl, ?_⟩) (by assumption) ?_
  rotate_left
  · (intro wq hSw; (try dsimp only at hSw); (try simp (maxSteps := 2000000) only [zz1, zz2, zz3]); go_simp); try with_reducible rfl
  try simp (maxSteps := 2000000) only [zz1, zz2, zz3, Act.put, zz4, zz5, zz6]
  refine wpAnyH_take (i := 18) (v := ?_) rfl (by kernel_rfl) (by kernel_rfl) (by kernel_rfl) (fun _ _ _ h => h) (Or.inl ⟨by first | kernel_rfl | rfl, ?_⟩) (by assumption) ?_
  rotate_left
  · (intro wq hSw; (try dsimp only at hSw); (try simp (maxSteps := 2000000) only [zz1, zz2, zz3]); go_simp); try with_reducible rfl
  try simp (maxSteps := 2000000) only [zz1, zz2, zz3, Act.put, zz4, zz5, zz6]
  refine wpAnyH_take (i := 19) (v := ?_) rfl (by kernel_rfl) (by kernel_rfl) (by kernel_rfl) (fun _ _ _ h => h) (Or.inl ⟨by first | kernel_rfl | rfl, ?_⟩) (by assumption) ?_
  rotate_left
  · (intro wq hSw; (try dsimp only at hSw); (try simp (maxSteps := 2000000) only [zz1, zz2, zz3]); go_simp); try with_reducible rfl
  try simp (maxSteps := 2000000) only [zz1, zz2, zz3, Act.put, zz4, zz5, zz6]
  refine wpAnyH_take (i := 20) (v := ?_) rfl (by kernel_rfl) (by kernel_rfl) (by kernel_rfl) (fun _ _ _ h => h) (Or.inl ⟨by first | kernel_rfl | rfl, ?_⟩) (by assumption) ?_
  rotate_left
  · (intro wq hSw; (try dsimp only at hSw); (try simp (maxSteps := 2000000) only [zz1, zz2, zz3]); go_simp); try with_reducible rfl
  try simp (maxSteps := 2000000) only [zz1, zz2, zz3, Act.put, zz4, zz5, zz6]
  refine wpAnyH_ready (rs := [10]) (by kernel_rfl) (by simp) ?_
  refine AllReadyH.cons rfl (fun K hK => ?_) AllReadyH.nil
  try simp (maxSteps := 2000000) only [zz1, zz2, zz3]
  go_simp
  go_at_call 68
  refine (hnw _).mono ?_
  clear hnw
  rintro e w5 ⟨a, U, rfl, hA, hU, hb5⟩
  have bG5 := bGd.below hb5
  have s5 : w5.cell? ⟨q, 0, none⟩ = some (.int .i64 (k : Int)) ∧ w5.cell? ⟨q, 1, none⟩ = some (.int .i64 (m : Int)) ∧ w5.cell? ⟨q, 2, none⟩ = some (.int .i64 (f : Int)) ∧ w5.cell? ⟨q, 3, none⟩ = some (.int .i64 (c : Int)) := ⟨bG5.cell 0, bG5.cell 1, bG5.cell 2, bG5.cell 3⟩
  have hw5 : Below w.heap.size w w5 := hd.trans (hb5.mono hd.size)
  have HA5 := Lib.hid hA
  have HU5 := Lib.hid hU
  clear hA hU
  try (go_wp2_with fail)
  refine hK.out _ _ (by first | exact s0 | exact s5 | exact s6 | exact s7 | exact s8) (fun hHeld => ?_)
  clear hK K
  try simp (maxSteps := 2000000) only [zz1, zz2, zz3, Act.put, zz4, zz5, zz6]
  refine wpAnyH_ready (rs := [11]) (by kernel_rfl) (by simp) ?_
  refine AllReadyH.cons rfl (fun K hK => ?_) AllReadyH.nil
  try simp (maxSteps := 2000000) only [zz1, zz2, zz3]
  go_simp
  go_at_call 30
  refine (hfn _).mono ?_
  clear hfn
  rintro e w6 ⟨rfl, hF, hb6⟩
  have bG6 := bG5.below hb6
  have s6 : w6.cell? ⟨q, 0, none⟩ = some (.int .i64 (k : Int)) ∧ w6.cell? ⟨q, 1, none⟩ = some (.int .i64 (m : Int)) ∧ w6.cell? ⟨q, 2, none⟩ = some (.int .i64 (f : Int)) ∧ w6.cell? ⟨q, 3, none⟩ = some (.int .i64 (c : Int)) := ⟨bG6.cell 0, bG6.cell 1, bG6.cell 2, bG6.cell 3⟩
  have hw6 : Below w.heap.size w w6 := hw5.trans (hb6.mono hw5.size)
  have HF6 := Lib.hid hF
  clear hF
  try (go_wp2_with fail)
  refine hK.out _ _ (by first | exact s0 | exact s5 | exact s6 | exact s7 | exact s8) (fun hHeld => ?_)
  clear hK K
  try simp (maxSteps := 2000000) only [zz1, zz2, zz3, Act.put, zz4, zz5, zz6]
  refine wpAnyH_ready (rs := [16]) (by kernel_rfl) (by simp) ?_
  refine AllReadyH.cons rfl (fun K hK => ?_) AllReadyH.nil
  try simp (maxSteps := 2000000) only [zz1, zz2, zz3]
  go_simp
  go_at_call 29
  refine (hcn _ _ w5.heap.size HF6.out (Nat.le_refl _)).mono ?_
  clear hcn
  rintro e w7 ⟨cb, rfl, hC, hkp⟩
  have hk57 : Keep (fun j => w5.heap.size ≤ j) w5 w7 := (Keep.of_below (F := fun j => w5.heap.size ≤ j) hb6).trans hkp (fun j e _ => by rw [e]; exact Nat.le_refl _)
  have hb57 : Below w5.heap.size w5 w7 := hk57.below (Nat.le_refl _) (fun j h => h)
  have bG7 := bG5.below hb57
  have s7 : w7.cell? ⟨q, 0, none⟩ = some (.int .i64 (k : Int)) ∧ w7.cell? ⟨q, 1, none⟩ = some (.int .i64 (m : Int)) ∧ w7.cell? ⟨q, 2, none⟩ = some (.int .i64 (f : Int)) ∧ w7.cell? ⟨q, 3, none⟩ = some (.int .i64 (c : Int)) := ⟨bG7.cell 0, bG7.cell 1, bG7.cell 2, bG7.cell 3⟩
  have hw7 : Below w.heap.size w w7 := hw5.trans (hb57.mono hw5.size)
  have HC7 := Lib.hid hC
  clear hC
  try (go_wp2_with fail)
  refine hK.out _ _ (by first | exact s0 | exact s5 | exact s6 | exact s7 | exact s8) (fun hHeld => ?_)
  clear hK K
  try simp (maxSteps := 2000000) only [zz1, zz2, zz3, Act.put, zz4, zz5, zz6]
  refine wpAnyH_ready (rs := [21]) (by kernel_rfl) (by simp) ?_
  refine AllReadyH.cons rfl (fun K hK => ?_) AllReadyH.nil
  try simp (maxSteps := 2000000) only [zz1, zz2, zz3]
  go_simp
  go_at_call 106
  refine (hpn _).mono ?_
  clear hpn
  rintro e w8 ⟨p, o, l, go, gl, rfl, hP, hPB, hb8⟩
  have bG8 := bG7.below hb8
  have s8 : w8.cell? ⟨q, 0, none⟩ = some (.int .i64 (k : Int)) ∧ w8.cell? ⟨q, 1, none⟩ = some (.int .i64 (m : Int)) ∧ w8.cell? ⟨q, 2, none⟩ = some (.int .i64 (f : Int)) ∧ w8.cell? ⟨q, 3, none⟩ = some (.int .i64 (c : Int)) := ⟨bG8.cell 0, bG8.cell 1, bG8.cell 2, bG8.cell 3⟩
  have hw8 : Below w.heap.size w w8 := hw7.trans (hb8.mono hw7.size)
  have HP8 := Lib.hid hP
  have HPB8 := Lib.hid hPB
  clear hP hPB
  try (go_wp2_with fail)
  refine hK.out _ _ (by first | exact s0 | exact s5 | exact s6 | exact s7 | exact s8) (fun hHeld => ?_)
  clear hK K
  try simp (maxSteps := 2000000) only [zz1, zz2, zz3, Act.put, zz4, zz5, zz6]
  refine wpAnyH_take (i := 22) (v := ?_) rfl (by kernel_rfl) (by kernel_rfl) (by kernel_rfl) (fun _ _ _ h => h) (Or.inl ⟨by first | kernel_rfl | rfl, ?_⟩) (by assumption) ?_
  rotate_left
  · (intro wq hSw; (try dsimp only at hSw); (try simp (maxSteps := 2000000) only [zz1, zz2, zz3]); go_simp); try with_reducible rfl
  try simp (maxSteps := 2000000) only [zz1, zz2, zz3, Act.put, zz4, zz5, zz6]
  refine wpAnyH_take (i := 23) (v := ?_) rfl (by kernel_rfl) (by kernel_rfl) (by kernel_rfl) (fun _ _ _ h => h) (Or.inl ⟨by first | kernel_rfl | rfl, ?_⟩) (by assumption) ?_
  rotate_left
  · (intro wq hSw; (try dsimp only at hSw); (try simp (maxSteps := 2000000) only [zz1, zz2, zz3]); go_simp); try with_reducible rfl
  try simp (maxSteps := 2000000) only [zz1, zz2, zz3, Act.put, zz4, zz5, zz6]
  refine wpAnyH_take (i := 24) (v := ?_) rfl (by kernel_rfl) (by kernel_rfl) (by kernel_rfl) (fun _ _ _ h => h) (Or.inl ⟨by first | kernel_rfl | rfl, ?_⟩) (by assumption) ?_
  rotate_left
  · (intro wq hSw; (try dsimp only at hSw); (try simp (maxSteps := 2000000) only [zz1, zz2, zz3]); go_simp); try with_reducible rfl
  try simp (maxSteps := 2000000) only [zz1, zz2, zz3, Act.put, zz4, zz5, zz6]
  refine wpAnyH_done (by kernel_rfl) ?_ _
  have hsz0 : w.heap.size ≤ wA.drew.heap.size := hd.size
  have hsz5 : w5.heap.size ≤ w7.heap.size := hb57.size
  have hsz7 : w7.heap.size ≤ w8.heap.size := hb8.size
  have hszb : w0.heap.size ≤ w.heap.size := hbel.size
  have hsz05 : w.heap.size ≤ w5.heap.size := hw5.size
  have HFIN := Lib.hid (show MidP (PoolB p o l go gl) (fun j => j < w.heap.size) w0 w8 a cb w5.heap.size k m n (List.replicate N (DSt.new n)) from
    ⟨hbel.trans (hw8.mono hbel.size), ⟨U, fun j => w5.heap.size ≤ j ∧ j < w7.heap.size, (HA5.out.below hb57).below hb8, HC7.out.bound.below hb8,
      fun j hj => by have h1 := HU5.out j hj; omega,
      fun j hj => ⟨fun hu => by have := HA5.out.lt hu; omega, by omega⟩,
      fun j hj => ⟨fun hu => by have := HU5.out j hu; omega, fun hc => by omega, by omega⟩,
      fun j hj => by have h1 := HPB8.out j hj; exact ⟨fun hu => by have := HA5.out.lt hu; omega, fun hc => by omega, by omega, by omega⟩⟩,
      fun j hj hx => by have h1 := HPB8.out j hj; omega, by rw [List.length_replicate, HN.out], HR.out.1, HR.out.2⟩)
  have HB8 := Lib.hid hw8
  clear s0 s5 s6 s7 s8 bG bGd bG5 bG6 bG7 bG8 hHeld hb5 hb6 hkp hk57 hb57 hb8 hw5 hw6 hw7 hw8 hd hb0
  go_wp2_with fail
  go_ret3
  exact ⟨a, cb, _, p, o, l, go, gl, rfl, by rw [HN.out, Hn.out]; exact HFIN.out, HP8.out, HB8.out⟩
end Go.Proofs.YtcliejdiaohamaaGreat

set_option linter.unusedSimpArgs false
set_option linter.unusedVariables false
namespace Go.Proofs.YtcliejdiaohamaaGreat
open Go.RowKit Go.Cib
attribute [local go_sem] cell_set Later.cell Later.frozen Grw.cell Grw.frozen
section
variable {P X S : Nat → Prop} {w0 w w' : World} {a p o l go gl ep ct fs n np cb bf k m : Nat} {wo wl : List Nat} {sts : List DSt}
end
end Go.Proofs.YtcliejdiaohamaaGreat

set_option linter.unusedSimpArgs false
set_option linter.unusedVariables false
namespace Go.Proofs.YtcliejdiaohamaaGreat
open Go.RowKit Go.Cib
attribute [local go_sem] cell_set Later.cell Later.frozen Grw.cell Grw.frozen
section
variable {w : World}
end
section
variable {P X S : Nat → Prop} {w0 w : World} {a cb bf k m n : Nat} {sts : List DSt}
end
end Go.Proofs.YtcliejdiaohamaaGreat
