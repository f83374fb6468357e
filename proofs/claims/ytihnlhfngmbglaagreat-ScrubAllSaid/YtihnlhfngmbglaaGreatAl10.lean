/-
  A stripe is put.
  Which shards of a stripe are whole.
  A stripe is mended.
  Which shard lies on which drive; what whole shards of one stripe give: plain.
  What a drive's sector gives as a shard: plain.
  The drives behind the writes of a stripe's shards: plain.
  Drives and a coder in the midst of a law.
  A law's drives and coder are made.
  A stripe in a law: what Get, Whole and Put give.
  Drives that have a stripe's shard, and drives that lost it.
  Rot of a drive among others, whatever is asked, and the code that it answers.
  Drives and a coder in the midst of a law, beside blocks that stay as they are.
  Drives that die, one after another: plain; how many are left.
  Drives that lost a place: plain.
  A stripe that was put; another one put at its place: plain.
  A stripe that was put and flushed; drives that lost a place: plain.
  Mend, by which drives have their shard.
  A stripe's shards on the drives, whatever happens to them: plain.
  Drives that live, with nothing under way and nothing spoilt: plain.
-/
import Derived.Test.YtihnlhfngmbglaaGreatAl9
import Derived.Test.YtihnlhfngmbglaaGreatAl3
set_option linter.unusedSimpArgs false
set_option linter.unusedVariables false
namespace Go.Proofs.YtihnlhfngmbglaaGreat
open Go.RowKit Go.Cib
attribute [local go_sem] cell_set Later.cell Later.frozen Grw.cell Grw.frozen
section
theorem call_p1 (args : Array Value) (w : World) : (callFunc 97 args).run Tryz.prog w = .ok (.enter 97 args) w := by go_simp
theorem call_p2 (args : Array Value) (w : World) : (callFunc 98 args).run Tryz.prog w = .ok (.enter 98 args) w := by go_simp
set_option maxRecDepth 100000 in
theorem put1_any {w : World} {i : Nat} : Calls Tryz.prog 97 #[.int .i64 (i : Int)] w fun e w' => e = .returned (.bool true) ∧ Below w.heap.size w w' := by
  go_enter Tryz.func97, Tryz.ntmps97
  go_wp2_with fail
  go_ret
  exact ⟨rfl, Below.refl _ _⟩
set_option maxRecDepth 100000 in
theorem put2_any {w : World} {i p N c : Nat} {A : Option Addr} {S : Nat → Prop} {ss : Rws} (hb : BoxAt w p #[.slice A N c]) (R : RdL RowR 1 S w A N ss) (hi : i < N) {l : Nat} (hl : (ra ss i).length = l) :
    Calls Tryz.prog 98 #[.int .i64 (i : Int), .pointer (some ⟨p, 0, none⟩)] w fun e w' => ∃ A c, e = .returned (.slice A l c) ∧ RdL ByR 1 (fun _ => True) w' A l (ra ss i) ∧ Below w.heap.size w w' := by
  obtain ⟨bb, o, rfl, _, hbb⟩ := R.addr hi
  obtain ⟨A1, m1, c1, v1, hmc1, r1⟩ := row_at R hi
  have c0 : w.cell? ⟨p, 0, none⟩ = some (.slice (some ⟨bb, o, none⟩) N c) := hb.cell 0
  have p0 : (0 : Int) ≤ (i : Int) := Int.natCast_nonneg _
  have p1 : (i : Int) < (N : Int) := by omega
  have hm : m1 = l := by rw [← hl]; exact r1.1.symm
  subst hm
  have HR := Lib.hid r1
  clear r1 R hb hl
  go_enter Tryz.func98, Tryz.ntmps98
  go_wp2_with fail
  go_ret
  exact ⟨A1, c1, rfl, HR.out.weaken ByR.stable (fun _ _ => trivial), Below.refl _ _⟩
section
variable {U : Nat → Prop} {w : World} {a n cb b k m len : Nat} {sts : List DSt} {r : Ref}
set_option maxRecDepth 100000 in
set_option maxHeartbeats 8000000 in
theorem sput_any (hA : ArrAt U w a n sts) (HC : CodAt w cb b k m) (hlen : sts.length = k + m) (hr : r.ok n) (hn : n ≤ 60000) (hg : Hid (r.gen < 2 ^ 64)) (hcl : ∀ st ∈ sts, st.cache.length < 900000)
    {A : Option Addr} {c : Nat} {S : Nat → Prop} {xs : List Nat} (R : RdL ByR 1 S w A len xs) (hc : len ≤ c) (hlx : len ≤ k * 44) :
    Calls Tryz.prog 43 #[.pointer (some ⟨a, 0, none⟩), .pointer (some ⟨cb, 0, none⟩), .agg (refC r), .slice A len c] w fun e w' =>
      e = .returned (.tuple #[.int .i64 ((wrS n r len (fun _ => true) (codeRow k 44 (splF 44 xs k k)) sts (k + m)).2 : Int), .int .i64 0]) ∧ AUpd U w w' a n (wrS n r len (fun _ => true) (codeRow k 44 (splF 44 xs k k)) sts (k + m)).1 := by
  have hk1 := HC.k1
  have hkm := HC.km
  have hbx := by_byt R
  have hD := splF_shp (width := 44) hbx k
  have hgo : goodB k k (splF 44 xs k k) = true := by
    unfold goodB
    rw [decide_eq_true rfl, Bool.true_and]
    unfold evB
    rw [List.all_eq_true]
    intro x hx
    rw [decide_eq_true_eq]
    rw [(hD.2 x hx).1, (hD.row (i := 0) (by omega)).1]
  have hl0 : lenF0 (splF 44 xs k k) = 44 := (hD.row (i := 0) (by omega)).1
  have hb0 : Below w.heap.size w (w.alloc (.cells (refC r) 38)) := (Below.refl _ _).alloc (Nat.le_refl _) _
  obtain ⟨v, Fs, ps, hAB⟩ := hA
  have hme := meant_good (Lib.hid (hAB.below hb0)) (HC.below hb0) hlen hr
  have hro := fun w' (hb : Below w.heap.size w w') => room_any (HC.below hb)
  have hsp := fun w' (hb : Below w.heap.size w w') => split_any (w := w') (width := 44) (HC.below hb) (R.below ByR.stable hb) hc (by omega) (by omega) hlx
  have hca := fun w' cs As (S : Nat → Prop) (hb : Below w.heap.size w w') hr5 => call2_any (w := w') (cs := cs) (As := As) (S := S) (N := k) (ss := splF 44 xs k k) (HC.below hb) hr5 (by omega) (fun i => by
    by_cases hi : i < k
    · rw [(hD.row hi).1]; omega
    · unfold ra
      rw [List.getD_eq_getElem?_getD, List.getElem?_eq_none (by rw [hD.1]; omega)]
      exact Nat.zero_le _)
  have hws := fun w' s p A' c' (hb : Below w.heap.size w w') (hS : BoxAt w' s (setC a cb r)) (hs : w.heap.size ≤ s) (hp : BoxAt w' p #[.slice A' (k + m) c']) (hpw : w.heap.size ≤ p) (hr6 : RdL RowR 1 (fun j => w.heap.size ≤ j) w' A' (k + m) (allR k 44 (splF 44 xs k k) (k + m))) =>
    writes_any (w := w') (s := s) (size := len) hS (show ArrAt U w' a n sts from ⟨v, Fs, ps, hAB.below hb⟩) (HC.below hb) hlen hr hn hg (by omega) hcl (fun hu => by have := hAB.lt s hu; omega)
      (g := 97) (f := 98) (cap1 := #[]) (cap2 := #[.pointer (some ⟨p, 0, none⟩)]) (wh := fun _ => true) (rw := codeRow k 44 (splF 44 xs k k)) (Lib.hid call_p1) (Lib.hid call_p2)
      (Lib.hid fun i W hi hK => put1_any (w := W) (i := i))
      (Lib.hid fun i W hi _ hK => by
        have h9 := put2_any (i := i) (hp.keeps hK (fun hu => by have := hAB.lt p hu; omega)) (hr6.keep RowR.stable hK (fun j hj hu => by have := hAB.lt j hu; omega)) hi (l := 44) (by rw [allR_ra hi]; exact (codeRow_ok hD i).1)
        rw [allR_ra hi] at h9
        exact h9)
  have hen : splF 44 xs k k ++ encU k (splF 44 xs k k) (lenF0 (splF 44 xs k k)) m = allR k 44 (splF 44 xs k k) (k + m) := by rw [hl0]; exact allR_enc hD
  have HEN := Lib.hid hen
  have HGO := Lib.hid hgo
  have hlk : ¬ (len : Int) > ((k * 44 : Nat) : Int) := by omega
  have hAlt := hAB.lt
  have HWS := Lib.hid hws
  have HCA := Lib.hid hca
  have HSP := Lib.hid hsp
  clear hAB HC hlen hr hcl R hbx hD hgo hl0 hen hws hca hsp
  obtain ⟨ww, hww⟩ : ∃ ww, ww = wrS n r len (fun _ => true) (codeRow k 44 (splF 44 xs k k)) sts (k + m) := ⟨_, rfl⟩
  rw [← hww] at HWS ⊢
  clear hww
  unfold refC at hme hb0 ⊢
  go_enter Tryz.func43, Tryz.ntmps43
  go_wp2_with fail
  obtain ⟨wA, hwA⟩ : ∃ wA, w.alloc (.cells #[.int .u8 (r.kind : Int), .int .i64 (r.place : Int), .int .u64 (r.gen : Int)] 38) = wA := ⟨_, rfl⟩
  rw [hwA] at hme hb0 ⊢
  refine hme.mono ?_
  clear hme hwA
  rintro e w1 ⟨s, rfl, hs1, bS1, hb1⟩
  have hw1 := hb0.trans (hb1.mono hb0.size)
  have hs : w.heap.size ≤ s := by have := hb0.size; omega
  have hro1 := hro w1 hw1
  have hsp1 := HSP.out w1 hw1
  have HW1 := Lib.hid hw1
  have HS1 := Lib.hid bS1
  clear hb0 hb1 hs1 hro hw1 bS1
  go_wp2_with (go_at_call 93; refine hro1.mono ?_; rintro e w2 ⟨rfl, hw2⟩; rw [hw2]; clear hw2 hro1)
  refine hsp1.mono ?_
  clear hsp1
  rintro e w3 ⟨g3, rfl, hr3, hb3⟩
  have hw3 := HW1.out.trans (hb3.mono HW1.out.size)
  have hca3 := HCA.out w3 k _ _ hw3 hr3
  have HS3 := Lib.hid (HS1.out.below hb3)
  have HW3 := Lib.hid hw3
  clear hw3 hr3 hb3
  go_wp2_with fail
  refine hca3.mono ?_
  clear hca3
  rintro e w4 ⟨hb4, ⟨hB, rfl⟩ | ⟨_, A4, c4, rfl, hc4, hr4⟩⟩
  · exact absurd (hB.symm.trans HGO.out) (by decide)
  rw [HEN.out] at hr4
  have hw4 := HW3.out.trans (hb4.mono HW3.out.size)
  have hsz3 := HW3.out.size
  have hS4 := HS3.out.below hb4
  have b5 := BoxAt.new w4 #[.slice A4 (k + m) c4] 151
  have hb45 : Below w4.heap.size w4 (w4.alloc (.cells #[.slice A4 (k + m) c4] 151)) := (Below.refl _ _).alloc (Nat.le_refl _) _
  have hw5 := hw4.trans (hb45.mono hw4.size)
  obtain ⟨W5, hW5⟩ : ∃ W, w4.alloc (.cells #[.slice A4 (k + m) c4] 151) = W := ⟨_, rfl⟩
  rw [hW5] at b5 hw5 hb45
  have hws5 := HWS.out W5 s w4.heap.size A4 c4 hw5 (hS4.below hb45) hs b5 hw4.size ((hr4.below RowR.stable hb45).weaken RowR.stable (fun j hj => Nat.le_trans hsz3 hj))
  have HW5 := Lib.hid hw5
  obtain ⟨p4, hp4⟩ : ∃ p4, w4.heap.size = p4 := ⟨_, rfl⟩
  rw [hp4] at hws5
  clear b5 hw5 hb45 hr4 hS4 hw4 hb4 HWS HCA HSP HS3 HS1
  go_wp2_with fail
  refine hws5.mono ?_
  clear hws5
  rintro e w6 ⟨rfl, hup⟩
  have HUP := Lib.hid (AUpd.pre HW5.out hup)
  clear hup
  go_wp2_with fail
  go_ret2
  exact ⟨rfl, HUP.out⟩
end
end
section
def wsU (l : List (Nat × Shd)) (N i : Nat) : List Bool := (List.range N).map fun j => if j < i then (lookS l j).isSome else false
theorem wsU_len (l : List (Nat × Shd)) (N i : Nat) : (wsU l N i).length = N := by unfold wsU; simp
theorem wsU_zero (l : List (Nat × Shd)) (N : Nat) : List.replicate N false = wsU l N 0 := by
  unfold wsU
  apply List.ext_getElem
  · simp
  · intro j h1 h2; simp
theorem wsU_next {l : List (Nat × Shd)} {N i : Nat} (h : i < N) : (wsU l N i).set i (lookS l i).isSome = wsU l N (i + 1) := by
  apply List.ext_getElem?
  intro j
  by_cases hj : j < N
  · by_cases e : i = j
    · subst e
      rw [List.getElem?_set_self (by rw [wsU_len]; exact h)]
      unfold wsU
      rw [List.getElem?_map, List.getElem?_range h]
      simp
    · rw [List.getElem?_set_ne e]
      unfold wsU
      rw [List.getElem?_map, List.getElem?_map, List.getElem?_range hj]
      simp only [Option.map_some]
      by_cases h1 : j < i
      · rw [if_pos h1, if_pos (by omega)]
      · rw [if_neg h1, if_neg (by omega)]
  · rw [List.getElem?_eq_none (by rw [List.length_set, wsU_len]; omega), List.getElem?_eq_none (by rw [wsU_len]; omega)]
theorem box_bool {w : World} {g i : Nat} {xs : List Bool} (h : BoxAt w g (xs.map Value.bool).toArray) (b : Bool) : BoxAt (w.setCell ⟨g, i, none⟩ (.bool b)) g ((xs.set i b).map Value.bool).toArray := by
  have h1 := h.set i (.bool b)
  have e : (xs.map Value.bool).toArray.setIfInBounds i (.bool b) = ((xs.set i b).map Value.bool).toArray := by simp
  rw [e] at h1
  exact h1
attribute [local go_sem ↓] shut_loadS shut_zeroS shut_buildS shut_storeS
attribute [local go_sem] run_zeroS run_build0
section
variable {U : Nat → Prop} {w : World} {a n cb b k m : Nat} {v : Value} {Fs : Nat → Nat → Prop} {ps : List Nat} {sts : List DSt} {r : Ref}
set_option maxRecDepth 100000 in
set_option maxHeartbeats 8000000 in
theorem swholes_any (h : Hid (ArrB U w a v Fs ps n sts)) (HC : CodAt w cb b k m) (hlen : sts.length = k + m) (hr : r.ok n) (hR : RdOk sts r.place) :
    Calls Tryz.prog 64 #[.pointer (some ⟨a, 0, none⟩), .pointer (some ⟨cb, 0, none⟩), .agg (refC r)] w fun e w' => ∃ g, e = .returned (.slice (some ⟨g, 0, none⟩) (k + m) (k + m)) ∧ RdL BoolR 1 (fun j => w.heap.size ≤ j) w' (some ⟨g, 0, none⟩) (k + m) (wsU (wholeF (stR sts k r) (k + m)).1 (k + m) (k + m)) ∧ Below w.heap.size w w' := by
  have hk1 := HC.k1
  have hkm := HC.km
  have hb0 : Below w.heap.size w (w.alloc (.cells (refC r) 38)) := (Below.refl _ _).alloc (Nat.le_refl _) _
  have hme := meant_good (Lib.hid (h.out.below hb0)) (HC.below hb0) hlen hr
  have hwh := fun w' s (hb : Below w.heap.size w w') hS => swhole_any (w := w') (s := s) hS (Lib.hid (h.out.below hb)) (HC.below hb) hlen hr.p hR
  have hcn := fun w' (hb : Below w.heap.size w w') => cn_any (HC.below hb)
  have hlok := wholeF_ok (stR sts k r) (fun i x hx => (stR_ok hR i x hx).1) (k + m)
  obtain ⟨N, hN⟩ : ∃ N, k + m = N := ⟨_, rfl⟩
  obtain ⟨lz, hlz⟩ : ∃ lz, (wholeF (stR sts k r) (k + m)) = lz := ⟨_, rfl⟩
  rw [hlz] at hwh hlok ⊢
  rw [hN] at hcn ⊢
  have hN2 : N ≤ 255 := by omega
  have HL := Lib.hid hlok
  clear h HC hlen hR hN hlz hlok
  unfold refC at hme hb0 ⊢
  go_enter Tryz.func64, Tryz.ntmps64
  go_wp2_with fail
  obtain ⟨wA, hwA⟩ : ∃ wA, w.alloc (.cells #[.int .u8 (r.kind : Int), .int .i64 (r.place : Int), .int .u64 (r.gen : Int)] 38) = wA := ⟨_, rfl⟩
  rw [hwA] at hme hb0 ⊢
  refine hme.mono ?_
  clear hme hwA
  rintro e w1 ⟨s, rfl, _, bS1, hb1⟩
  have hw1 := hb0.trans (hb1.mono hb0.size)
  have hwh1 := hwh w1 s hw1 bS1
  clear hwh hb0 hb1 bS1
  go_wp2_with fail
  refine hwh1.mono ?_
  clear hwh1
  rintro e w2 ⟨mb, rfl, hM, hb2, _⟩
  have hw2 := hw1.trans (hb2.mono hw1.size)
  have hcn2 := hcn w2 hw2
  clear hcn hw1 hb2
  have HM2 := Lib.hid hM
  have HW2 := Lib.hid hw2
  clear hM hw2
  go_wp2_with fail
  refine hcn2.mono ?_
  clear hcn2
  rintro e w3 ⟨rfl, hb3⟩
  have hm3 := HM2.out.below hb3
  have hw3 := HW2.out.trans (hb3.mono HW2.out.size)
  have hmk := makeBoolsL N (by omega) w3
  have b4 := BoxAt.new w3 ((List.replicate N false).map Value.bool).toArray 4
  have hw4 : Below w.heap.size w (w3.alloc (.cells ((List.replicate N false).map Value.bool).toArray 4)) := hw3.alloc hw3.size _
  have hm4 := hm3.alloc (.cells ((List.replicate N false).map Value.bool).toArray 4)
  obtain ⟨W4, hW4⟩ : ∃ W, w3.alloc (.cells ((List.replicate N false).map Value.bool).toArray 4) = W := ⟨_, rfl⟩
  rw [hW4] at hmk b4 hw4 hm4
  have hg3 := hw3.size
  have hmg0 := hm3.lt
  obtain ⟨g, hg⟩ : ∃ g, w3.heap.size = g := ⟨_, rfl⟩
  rw [hg] at hmk b4
  have HG := Lib.hid (show w.heap.size ≤ g by omega)
  have hmg : mb ≠ g := by omega
  rw [wsU_zero lz.1 N] at b4
  have HO := Lib.hid b4
  have HM := Lib.hid hm4
  have HB := Lib.hid hw4
  clear b4 hw4 hm4 hW4 hb3 hm3 hw3 hg3 hmg0 HM2 HW2 hg
  go_wp2_with fail
  clear hmk
  go_loopw [32] (fun vi wr => ∃ i : Nat, i ≤ N ∧ vi = .int .i64 i ∧ Hid (BoxAt wr g ((wsU lz.1 N i).map Value.bool).toArray) ∧ Hid (MapAt (Value.int .i64) wr mb (mapE lz.1)) ∧ Hid (Below w.heap.size w wr)) (fun vi _ => N - (intOf vi).toNat)
  case atStart => exact ⟨0, Nat.zero_le _, rfl, HO, HM, HB⟩
  case round =>
    clear HO HM HB
    obtain ⟨i, hi, rfl, HO, HM, HB⟩ := hrel
    have p0 : (0 : Int) ≤ (i : Int) := Int.natCast_nonneg _
    by_cases hlt : i < N
    · have p1 : (i : Int) < (N : Int) := by omega
      have hla : ∀ wq, MapAt (Value.int .i64) wq mb (mapE lz.1) → (Instr.lookup 148 (.map (some mb)) (.int .i64 (i : Int)) true).run Tryz.prog wq = .ok (.tuple #[(mlook (mapE lz.1) (i : Int)).getD (.agg (shC sh0)), .bool (mlook (mapE lz.1) (i : Int)).isSome]) wq := fun wq hm => run_lookup kt_intS un_smap (fun w => run_zeroS w) hm (i : Int) true
      rw [mlook_mapE] at hla
      have his : ((lookS lz.1 i).map fun x => Value.agg (shC x)).isSome = (lookS lz.1 i).isSome := by cases lookS lz.1 i <;> rfl
      rw [his] at hla
      have hnx := wsU_next (l := lz.1) hlt
      have hb7 := box_bool (i := i) HO.out (lookS lz.1 i).isSome
      rw [hnx] at hb7
      have hm7 : MapAt (Value.int .i64) (wr.setCell ⟨g, i, none⟩ (.bool (lookS lz.1 i).isSome)) mb (mapE lz.1) := HM.out.keep (Below.heap_setCell _ _ _ _ (by show mb ≠ g; exact hmg))
      have hw7 := HB.out.setCell (p := ⟨g, i, none⟩) HG.out (.bool (lookS lz.1 i).isSome)
      obtain ⟨lv, hlv⟩ : ∃ lv, ((lookS lz.1 i).map fun x => Value.agg (shC x)).getD (.agg (shC sh0)) = lv := ⟨_, rfl⟩
      obtain ⟨lb, hlb⟩ : ∃ lb, (lookS lz.1 i).isSome = lb := ⟨_, rfl⟩
      rw [hlb, hlv] at hla
      rw [hlb] at hb7 hm7 hw7
      obtain ⟨old, hold⟩ : ∃ old, wr.cell? ⟨g, i, none⟩ = some old := by
        have := HO.out.cell i
        rw [this]
        exact ⟨_, Array.getElem?_eq_getElem (by simp [wsU_len, hlt])⟩
      have hfr := HO.out.frozen i
      have HB7 := Lib.hid hb7
      have HM7 := Lib.hid hm7
      have HW7 := Lib.hid hw7
      have hl0 := hla _ HM.out
      clear hb7 hm7 hw7 his hnx hlv hlb hla
      go_wp2_with fail
      exact ⟨⟨i + 1, by omega, by go_num, HB7, HM7, HW7⟩, by simp [intOf]; omega⟩
    · have p1 : ¬ (i : Int) < (N : Int) := by omega
      obtain rfl : N = i := by omega
      go_wp2_with fail
      go_ret
      have h9 := BoxAt.bools HO.out (S := fun j => w.heap.size ≤ j) HG.out
      rw [wsU_len] at h9
      exact ⟨g, rfl, h9, HB.out⟩
end
end
section
theorem call_m1 (args : Array Value) (w : World) : (callFunc 136 args).run Tryz.prog w = .ok (.enter 136 args) w := by go_simp
theorem call_m2 (args : Array Value) (w : World) : (callFunc 137 args).run Tryz.prog w = .ok (.enter 137 args) w := by go_simp
set_option maxRecDepth 100000 in
theorem mend2_any {w : World} {i p N c : Nat} {A : Option Addr} {S : Nat → Prop} {ss : Rws} (hb : BoxAt w p #[.slice A N c]) (R : RdL RowR 1 S w A N ss) (hi : i < N) {l : Nat} (hl : (ra ss i).length = l) :
    Calls Tryz.prog 137 #[.int .i64 (i : Int), .pointer (some ⟨p, 0, none⟩)] w fun e w' => ∃ A c, e = .returned (.slice A l c) ∧ RdL ByR 1 (fun _ => True) w' A l (ra ss i) ∧ Below w.heap.size w w' := by
  obtain ⟨bb, o, rfl, _, hbb⟩ := R.addr hi
  obtain ⟨A1, m1, c1, v1, hmc1, r1⟩ := row_at R hi
  have c0 : w.cell? ⟨p, 0, none⟩ = some (.slice (some ⟨bb, o, none⟩) N c) := hb.cell 0
  have p0 : (0 : Int) ≤ (i : Int) := Int.natCast_nonneg _
  have p1 : (i : Int) < (N : Int) := by omega
  have hm : m1 = l := by rw [← hl]; exact r1.1.symm
  subst hm
  have HR := Lib.hid r1
  clear r1 R hb hl
  go_enter Tryz.func137, Tryz.ntmps137
  go_wp2_with fail
  go_ret
  exact ⟨A1, c1, rfl, HR.out.weaken ByR.stable (fun _ _ => trivial), Below.refl _ _⟩
attribute [local go_sem ↓] shut_loadS shut_zeroS shut_buildS shut_storeS
attribute [local go_sem] run_zeroS run_build0
set_option maxRecDepth 100000 in
theorem mend1_any {w : World} {i p mb : Nat} {l : List (Nat × Shd)} (hb : BoxAt w p #[.map (some mb)]) (hM : MapAt (Value.int .i64) w mb (mapE l)) (hl : ∀ p ∈ l, p.2.ok) :
    Calls Tryz.prog 136 #[.int .i64 (i : Int), .pointer (some ⟨p, 0, none⟩)] w fun e w' => e = .returned (.bool (!(lookS l i).isSome)) ∧ Below w.heap.size w w' := by
  have hla : (Instr.lookup 148 (.map (some mb)) (.int .i64 (i : Int)) true).run Tryz.prog w = .ok (.tuple #[(mlook (mapE l) (i : Int)).getD (.agg (shC sh0)), .bool (mlook (mapE l) (i : Int)).isSome]) w := run_lookup kt_intS un_smap (fun w => run_zeroS w) hM (i : Int) true
  rw [mlook_mapE] at hla
  have c0 : w.cell? ⟨p, 0, none⟩ = some (.map (some mb)) := hb.cell 0
  obtain ⟨y, hyl, hy⟩ : ∃ y : Shd, y.body.length = 44 ∧ ((lookS l i).map fun x => Value.agg (shC x)).getD (.agg (shC sh0)) = .agg (shC y) := by
    cases hlo : lookS l i with
    | none => exact ⟨sh0, sh0_ok.l, rfl⟩
    | some x => exact ⟨x, (lookS_ok hl hlo).l, rfl⟩
  have his : ((lookS l i).map fun x => Value.agg (shC x)).isSome = (lookS l i).isSome := by cases lookS l i <;> rfl
  rw [hy, his] at hla
  have hst := run_storeS (y := y) (BoxAt.new w (shC sh0) 193) sh0_ok.l hyl
  have hbr : Below w.heap.size w ((w.alloc (.cells (shC sh0) 193)).setCells w.heap.size 0 (shV y)) := setS_below ((Below.refl _ _).alloc (Nat.le_refl _) _) (Nat.le_refl _) _
  obtain ⟨W6, hW6⟩ : ∃ W, (w.alloc (.cells (shC sh0) 193)).setCells w.heap.size 0 (shV y) = W := ⟨_, rfl⟩
  rw [hW6] at hst hbr
  obtain ⟨lb, hlb⟩ : ∃ lb, (lookS l i).isSome = lb := ⟨_, rfl⟩
  rw [hlb] at hla ⊢
  have HB := Lib.hid hbr
  clear hy his hlb hbr hb hM hl
  go_enter Tryz.func136, Tryz.ntmps136
  go_wp2_with fail
  go_ret
  exact ⟨rfl, HB.out⟩
def mendR (R : Nat → Option Shd) (k N : Nat) : Nat → List Nat := ra (outF k N N (rowsS (wholeF R N).1 N))
def mendW (R : Nat → Option Shd) (N : Nat) (i : Nat) : Bool := !(lookS (wholeF R N).1 i).isSome
def MendE (U : Nat → Prop) (w : World) (a n k N : Nat) (r : Ref) (sts : List DSt) (R : Nat → Option Shd) (e : Ending) (w' : World) : Prop :=
  ((wholeF R N).1.length < k ∧ e = .returned (.tuple #[.int .i64 0, .int .i64 130]) ∧ AUpd U w w' a n sts) ∨
  (¬ (wholeF R N).1.length < k ∧ e = .returned (.tuple #[.int .i64 ((wrS n r (wholeF R N).2 (mendW R N) (mendR R k N) sts N).2 : Int), .int .i64 0]) ∧ AUpd U w w' a n (wrS n r (wholeF R N).2 (mendW R N) (mendR R k N) sts N).1)
section
variable {U : Nat → Prop} {w : World} {a n cb b k m : Nat} {sts : List DSt} {r : Ref}
set_option maxRecDepth 100000 in
set_option maxHeartbeats 8000000 in
theorem smend_any (hA : ArrAt U w a n sts) (HC : CodAt w cb b k m) (hlen : sts.length = k + m) (hr : r.ok n) (hn : n ≤ 60000) (hg : Hid (r.gen < 2 ^ 64)) (hcl : ∀ st ∈ sts, st.cache.length < 900000) (hR : RdOk sts r.place) :
    Calls Tryz.prog 85 #[.pointer (some ⟨a, 0, none⟩), .pointer (some ⟨cb, 0, none⟩), .agg (refC r)] w fun e w' => MendE U w a n k (k + m) r sts (stR sts k r) e w' := by
  have hk1 := HC.k1
  have hkm := HC.km
  obtain ⟨v, Fs, ps, hAB⟩ := hA
  have hok := fun i x hx => (stR_ok (k := k) hR i x hx).1
  have hwl := wholeF_len (stR sts k r) (k + m)
  have hws := wholeF_size2 (stR sts k r) (fun i x hx => (stR_ok hR i x hx).2) (k + m)
  have hb0 : Below w.heap.size w (w.alloc (.cells (refC r) 38)) := (Below.refl _ _).alloc (Nat.le_refl _) _
  have hme := meant_good (Lib.hid (hAB.below hb0)) (HC.below hb0) hlen hr
  have hwh := fun w' s (hb : Below w.heap.size w w') hS => swhole_any (w := w') (s := s) hS (Lib.hid (hAB.below hb)) (HC.below hb) hlen hr.p hR
  have hth := rowsS_thU (R := stR sts k r) (N := k + m) hok
  have hbd := rowsS_bad (R := stR sts k r) (N := k + m) (k := k) (m := m) hok rfl
  have hl1 := rowsS_len1 (R := stR sts k r) (N := k + m) hok
  have hkl : (keysF (stR sts k r) (k + m)).length = (wholeF (stR sts k r) (k + m)).1.length := by unfold keysF; rw [List.length_map]
  have hrw := fun w' s mb (hb : Below w.heap.size w w') hS hM => rows_any (w := w') (s := s) (a := a) (r := r) (mb := mb) hS (HC.below hb) hM (wholeF_ok (stR sts k r) hok (k + m))
  have hda := fun w' cs A (S : Nat → Prop) (hb : Below w.heap.size w w') hr5 => dall_any (w := w') (cs := cs) (As := A) (S := S) (N := k + m) (HC.below hb) hr5 (by omega) hl1 (Lib.hid fun h1 h2 => inj_useT h1 h2 hk1 hkm)
  have hout := fun hf i (hi : i < k + m) => rowsS_out (nr := k + m) hok (N := k + m) rfl hk1 hkm hf (by omega) hi
  have hlo := wholeF_ok (stR sts k r) hok (k + m)
  have hwr := fun hf w' s p q mb A' c' (hb : Below w.heap.size w w') (hS : BoxAt w' s (setC a cb r)) (hs : w.heap.size ≤ s) (hp : BoxAt w' p #[.map (some mb)]) (hpw : w.heap.size ≤ p) (hq : BoxAt w' q #[.slice A' (k + m) c']) (hqw : w.heap.size ≤ q) (hM : MapAt (Value.int .i64) w' mb (mapE (wholeF (stR sts k r) (k + m)).1)) (hmw : w.heap.size ≤ mb) (hr6 : RdL RowR 1 (fun j => w.heap.size ≤ j) w' A' (k + m) (outF k (k + m) (k + m) (rowsS (wholeF (stR sts k r) (k + m)).1 (k + m)))) =>
    writes_any (w := w') (s := s) (size := (wholeF (stR sts k r) (k + m)).2) hS (show ArrAt U w' a n sts from ⟨v, Fs, ps, hAB.below hb⟩) (HC.below hb) hlen hr hn hg (by omega) hcl (fun hu => by have := hAB.lt s hu; omega)
      (g := 136) (f := 137) (cap1 := #[.pointer (some ⟨p, 0, none⟩)]) (cap2 := #[.pointer (some ⟨q, 0, none⟩)]) (wh := mendW (stR sts k r) (k + m)) (rw := mendR (stR sts k r) k (k + m)) (Lib.hid call_m1) (Lib.hid call_m2)
      (Lib.hid fun i W hi hK => mend1_any (i := i) (hp.keeps hK (fun hu => by have := hAB.lt p hu; omega)) (hM.keep (hK.block mb hM.lt (fun hu => by have := hAB.lt mb hu; omega))) hlo)
      (Lib.hid fun i W hi _ hK => mend2_any (i := i) (hq.keeps hK (fun hu => by have := hAB.lt q hu; omega)) (hr6.keep RowR.stable hK (fun j hj hu => by have := hAB.lt j hu; omega)) hi (l := 44) (hout hf i hi))
  have hck := fun w' (hb : Below w.heap.size w w') => ck_any (HC.below hb)
  have HHT := Lib.hid hth
  have HBD := Lib.hid hbd
  have HKL := Lib.hid hkl
  have hup := fun w' (hb : Below w.heap.size w w') => (show ArrAt U w a n sts from ⟨v, Fs, ps, hAB⟩).upd hb
  have HUP := Lib.hid hup
  clear hAB HC hlen hR hok hth hbd hl1 hkl hout hlo hup
  unfold refC at hme hb0 ⊢
  go_enter Tryz.func85, Tryz.ntmps85
  go_wp2_with fail
  obtain ⟨wA, hwA⟩ : ∃ wA, w.alloc (.cells #[.int .u8 (r.kind : Int), .int .i64 (r.place : Int), .int .u64 (r.gen : Int)] 38) = wA := ⟨_, rfl⟩
  rw [hwA] at hme hb0 ⊢
  refine hme.mono ?_
  clear hme hwA
  rintro e w1 ⟨s, rfl, hs1, bS1, hb1⟩
  have hw1 := hb0.trans (hb1.mono hb0.size)
  have hs : w.heap.size ≤ s := by have := hb0.size; omega
  have hwh1 := hwh w1 s hw1 bS1
  clear hwh hb0 hb1 hs1
  go_wp2_with fail
  refine hwh1.mono ?_
  clear hwh1
  rintro e w2 ⟨mb, rfl, hM, hb2, hmb⟩
  have hw2 := hw1.trans (hb2.mono hw1.size)
  have hmw : w.heap.size ≤ mb := by have := hw1.size; omega
  have bS2 := bS1.below hb2
  have b3 := BoxAt.new w2 #[.map (some mb)] 148
  have hb23 : Below w2.heap.size w2 (w2.alloc (.cells #[.map (some mb)] 148)) := (Below.refl _ _).alloc (Nat.le_refl _) _
  have hw3 := hw2.trans (hb23.mono hw2.size)
  have hM3 := hM.below hb23
  have hS3 := bS2.below hb23
  have hp3 := hw2.size
  obtain ⟨W3, hW3⟩ : ∃ W, w2.alloc (.cells #[.map (some mb)] 148) = W := ⟨_, rfl⟩
  rw [hW3] at b3 hw3 hM3 hS3
  obtain ⟨p, hp⟩ : ∃ p, w2.heap.size = p := ⟨_, rfl⟩
  rw [hp] at b3 hp3
  have hml := fun ty => run_lenMap (P := Tryz.prog) un_smap hM3 ty
  have hmel : (mapE (wholeF (stR sts k r) (k + m)).1).length = (wholeF (stR sts k r) (k + m)).1.length := by unfold mapE; rw [List.length_map]
  rw [hmel] at hml
  have c3 : W3.cell? ⟨p, 0, none⟩ = some (.map (some mb)) := b3.cell 0
  have HM := Lib.hid hM3
  have HS3 := Lib.hid hS3
  have HW3 := Lib.hid hw3
  have HP3 := Lib.hid b3
  clear bS1 hw1 hb2 hmel hM hw2 bS2 b3 hb23 hw3 hM3 hS3 hmb
  obtain ⟨l, hl⟩ : ∃ l, (wholeF (stR sts k r) (k + m)).1.length = l := ⟨_, rfl⟩
  rw [hl] at hml hwl
  have HL := Lib.hid hl
  obtain ⟨z, hz⟩ : ∃ z, (wholeF (stR sts k r) (k + m)).2 = z := ⟨_, rfl⟩
  rw [hz] at hws hwr ⊢
  have HZ := Lib.hid hz
  clear hl hz
  have HWR := Lib.hid hwr
  have HDA := Lib.hid hda
  have HRW := Lib.hid hrw
  have hck3 := hck _ HW3.out
  clear hwr hda hrw hck
  by_cases hlt : l < k
  · have p1 : (l : Int) < (k : Int) := by omega
    have HLT := Lib.hid hlt
    clear hlt
    go_wp2_with (go_at_call 88; refine hck3.mono ?_; rintro e w3 ⟨rfl, hw3⟩; rw [hw3]; clear hw3 hck3)
    go_ret2
    exact .inl ⟨by rw [HL.out]; exact HLT.out, rfl, HUP.out _ HW3.out⟩
  · have p1 : ¬ (l : Int) < (k : Int) := by omega
    have hf : ¬ (thU (rowsS (wholeF (stR sts k r) (k + m)).1 (k + m)) (k + m)).length < k := by rw [HHT.out, HKL.out, HL.out]; exact hlt
    have HF := Lib.hid hf
    have HLT := Lib.hid hlt
    have hrw2 := HRW.out _ s mb HW3.out HS3.out HM.out
    clear hf hlt
    go_wp2_with (go_at_call 88; refine hck3.mono ?_; rintro e w3 ⟨rfl, hw3⟩; rw [hw3]; clear hw3 hck3)
    refine hrw2.mono ?_
    clear hrw2
    rintro e w4 ⟨g, rfl, hr4, hb4⟩
    have hw4 := HW3.out.trans (hb4.mono HW3.out.size)
    have hda4 := HDA.out _ (k + m) _ _ hw4 hr4
    have hM4 := HM.out.below hb4
    have hS4 := HS3.out.below hb4
    have hP4 := HP3.out.below hb4
    have HW4 := Lib.hid hw4
    clear hb4 hr4 hw4
    go_wp2_with fail
    refine hda4.mono ?_
    clear hda4
    rintro e w5 ⟨hb5, ⟨hB, rfl⟩ | ⟨hB, hF, rfl⟩ | ⟨hB, hF, g5, rfl, hr5⟩⟩
    · exact absurd (HBD.out.symm.trans hB) (by decide)
    · exact absurd hF HF.out
    · have hw5 := HW4.out.trans (hb5.mono HW4.out.size)
      have hsz4 := HW4.out.size
      have b6 := BoxAt.new w5 #[.slice (some ⟨g5, 0, none⟩) (k + m) (k + m)] 151
      have hb56 : Below w5.heap.size w5 (w5.alloc (.cells #[.slice (some ⟨g5, 0, none⟩) (k + m) (k + m)] 151)) := (Below.refl _ _).alloc (Nat.le_refl _) _
      have hw6 := hw5.trans (hb56.mono hw5.size)
      have hb46 := hb5.trans (hb56.mono hb5.size)
      obtain ⟨W6, hW6⟩ : ∃ W, w5.alloc (.cells #[.slice (some ⟨g5, 0, none⟩) (k + m) (k + m)] 151) = W := ⟨_, rfl⟩
      rw [hW6] at b6 hw6 hb46 hb56
      have hwr6 := HWR.out HF.out W6 s p w5.heap.size mb _ (k + m) hw6 (hS4.below hb46) hs (hP4.below hb46) hp3 b6 hw5.size (hM4.below hb46) hmw ((hr5.below RowR.stable hb56).weaken RowR.stable (fun j hj => Nat.le_trans hsz4 hj))
      have HW6 := Lib.hid hw6
      obtain ⟨q, hq⟩ : ∃ q, w5.heap.size = q := ⟨_, rfl⟩
      rw [hq] at hwr6
      clear hB hF hb5 hr5 hw5 b6 hb56 hw6 hb46 hM4 hS4 hP4 HWR HDA HRW
      go_wp2_with fail
      refine hwr6.mono ?_
      clear hwr6
      rintro e w7 ⟨rfl, hup⟩
      have HU7 := Lib.hid (AUpd.pre HW6.out hup)
      clear hup
      go_wp2_with fail
      go_ret2
      exact .inr ⟨by rw [HL.out]; exact HLT.out, by rw [HZ.out]; rfl, by rw [HZ.out]; exact HU7.out⟩
end
end
section
theorem add_mod_lt {n q i : Nat} (hq : q < n) (hi : i < n) : (q + i) % n = if q + i < n then q + i else q + i - n := by
  split
  · rename_i h; exact Nat.mod_eq_of_lt h
  · rename_i h
    rw [Nat.mod_eq_sub_mod (by omega), Nat.mod_eq_of_lt (by omega)]
/-- The shard that lies on a drive. -/
def ixN (n place d : Nat) : Nat := (n - place % n + d) % n
theorem homeN_eq {n p i : Nat} (hn : 1 ≤ n) (hi : i < n) : homeN n p i = if p % n + i < n then p % n + i else p % n + i - n := by
  unfold homeN
  rw [Nat.mod_eq_of_lt hi, add_mod_lt (Nat.mod_lt _ hn) hi]
theorem ixN_eq {n p d : Nat} (hn : 1 ≤ n) (hd : d < n) : ixN n p d = if p % n ≤ d then d - p % n else d + n - p % n := by
  have hq : p % n < n := Nat.mod_lt _ hn
  unfold ixN
  by_cases h0 : p % n = 0
  · rw [h0, Nat.sub_zero, Nat.add_mod_left, Nat.mod_eq_of_lt hd, if_pos (Nat.zero_le _)]; rfl
  · rw [add_mod_lt (by omega) hd]
    split <;> split <;> omega
theorem ixN_lt {n p d : Nat} (hn : 1 ≤ n) : ixN n p d < n := Nat.mod_lt _ hn
theorem home_ix {n p d : Nat} (hn : 1 ≤ n) (hd : d < n) : homeN n p (ixN n p d) = d := by
  have hq : p % n < n := Nat.mod_lt _ hn
  rw [homeN_eq hn (ixN_lt hn), ixN_eq hn hd]
  split <;> split <;> omega
theorem ix_home {n p i : Nat} (hn : 1 ≤ n) (hi : i < n) : ixN n p (homeN n p i) = i := by
  have hq : p % n < n := Nat.mod_lt _ hn
  rw [ixN_eq hn (homeN_lt hn), homeN_eq hn hi]
  split <;> split <;> omega
theorem home_map {n p : Nat} (hn : 1 ≤ n) : (List.range n).map (homeN n p) = (List.range (n - p % n)).map (fun i => p % n + i) ++ List.range (p % n) := by
  have hq : p % n < n := Nat.mod_lt _ hn
  apply List.ext_getElem
  · simp; omega
  · intro j h1 h2
    have hj : j < n := by simpa using h1
    rw [List.getElem_map, List.getElem_range, homeN_eq hn hj]
    by_cases hc : j < n - p % n
    · rw [List.getElem_append_left (by simpa using hc), List.getElem_map, List.getElem_range, if_pos (by omega)]
    · rw [List.getElem_append_right (by simp; omega), List.getElem_range, if_neg (by omega)]
      simp; omega
theorem range_cut (n q : Nat) (h : q ≤ n) : List.range n = List.range q ++ (List.range (n - q)).map (fun i => q + i) := by
  conv => lhs; rw [show n = q + (n - q) by omega, List.range_add]
/-- As many shards are good as drives are. -/
theorem home_count {n p : Nat} (hn : 1 ≤ n) (g : Nat → Bool) : ((List.range n).filter fun i => g (homeN n p i)).length = ((List.range n).filter g).length := by
  have hq : p % n < n := Nat.mod_lt _ hn
  have h1 : (((List.range n).map (homeN n p)).filter g).length = ((List.range n).filter fun i => g (homeN n p i)).length := by
    rw [List.filter_map, List.length_map]; rfl
  rw [← h1, home_map hn, List.filter_append, List.length_append, range_cut n (p % n) (by omega), List.filter_append, List.length_append]
  omega
section
variable {N size : Nat} {R : Nat → Option Shd} {P : Nat → Bool} {r : Ref} {row : Nat → List Nat}
def stdL (P : Nat → Bool) (r : Ref) (size : Nat) (row : Nat → List Nat) (i : Nat) : List (Nat × Shd) := ((List.range i).filter P).map fun j => (j, shR r j size (row j))
theorem stdL_next (i : Nat) : stdL P r size row (i + 1) = stdL P r size row i ++ if P i = true then [(i, shR r i size (row i))] else [] := by
  unfold stdL
  rw [List.range_succ, List.filter_append, List.map_append]
  by_cases h : P i = true
  · rw [if_pos h, List.filter_cons_of_pos h]; rfl
  · rw [if_neg h, List.filter_cons_of_neg h]; rfl
theorem whole_std (hR : ∀ i, i < N → R i = if P i = true then some (shR r i size (row i)) else none) : ∀ i, i ≤ N → (wholeF R i).1 = stdL P r size row i ∧ (0 < (wholeF R i).1.length → (wholeF R i).2 = size)
  | 0, _ => ⟨rfl, fun h => by simp [wholeF] at h⟩
  | i + 1, hi => by
    obtain ⟨h1, h2⟩ := whole_std hR i (by omega)
    have hr := hR i (by omega)
    rw [stdL_next]
    by_cases hp : P i = true
    · rw [if_pos hp] at hr ⊢
      have e : wholeF R (i + 1) = ((wholeF R i).1 ++ [(i, shR r i size (row i))], size) := by
        rw [wholeF, hr]
        dsimp only
        rw [if_neg (fun h => h.2 (h2 h.1).symm)]
        rfl
      rw [e, h1]
      exact ⟨rfl, fun _ => rfl⟩
    · rw [if_neg hp] at hr ⊢
      have e : wholeF R (i + 1) = wholeF R i := by rw [wholeF, hr]
      rw [e, List.append_nil]
      exact ⟨h1, h2⟩
theorem stdL_look (N j : Nat) : lookS (stdL P r size row N) j = if j < N ∧ P j = true then some (shR r j size (row j)) else none := by
  have gen : ∀ l : List Nat, lookS (l.map fun j => (j, shR r j size (row j))) j = if j ∈ l then some (shR r j size (row j)) else none := fun l => by
    induction l with
    | nil => rfl
    | cons x l ih =>
      unfold lookS at ih ⊢
      rw [List.map_cons]
      by_cases h : x = j
      · subst h
        rw [List.find?_cons_of_pos (by simp), if_pos (List.mem_cons_self ..)]; rfl
      · rw [List.find?_cons_of_neg (by simpa using h), ih]
        by_cases h2 : j ∈ l
        · rw [if_pos h2, if_pos (List.mem_cons_of_mem _ h2)]
        · rw [if_neg h2, if_neg (fun h3 => (List.mem_cons.1 h3).elim (fun e => h e.symm) h2)]
  unfold stdL
  rw [gen]
  have e : (j ∈ (List.range N).filter P) ↔ (j < N ∧ P j = true) := by rw [List.mem_filter, List.mem_range]
  by_cases h : j < N ∧ P j = true
  · rw [if_pos h, if_pos (e.2 h)]
  · rw [if_neg h, if_neg (fun h2 => h (e.1 h2))]
theorem stdL_len (N : Nat) : (stdL P r size row N).length = ((List.range N).filter P).length := by unfold stdL; rw [List.length_map]
theorem stdL_rows (N : Nat) : rowsS (stdL P r size row N) N = (List.range N).map fun j => if P j = true then row j else [] := by
  unfold rowsS
  refine List.map_congr_left fun j hj => ?_
  rw [stdL_look]
  by_cases h : P j = true
  · rw [if_pos h, if_pos ⟨List.mem_range.1 hj, h⟩]; rfl
  · rw [if_neg h, if_neg (fun h2 => h h2.2)]; rfl
theorem stdL_whole (N : Nat) : wsU (stdL P r size row N) N N = (List.range N).map P := by
  unfold wsU
  refine List.map_congr_left fun j hj => ?_
  have hj' := List.mem_range.1 hj
  rw [if_pos hj', stdL_look]
  cases h : P j with
  | true => rw [if_pos ⟨hj', rfl⟩]; rfl
  | false => rw [if_neg (fun h2 => by simp at h2)]; rfl
end
theorem filter_both {α : Type} (P : α → Bool) : ∀ l : List α, (l.filter P).length + (l.filter fun j => !P j).length = l.length
  | [] => rfl
  | x :: l => by
    have ih := filter_both P l
    cases h : P x with
    | true => rw [List.filter_cons_of_pos h, List.filter_cons_of_neg (by simp [h]), List.length_cons, List.length_cons]; omega
    | false => rw [List.filter_cons_of_neg (by simp [h]), List.filter_cons_of_pos (by simp [h]), List.length_cons, List.length_cons]; omega
section
variable {k m n : Nat} {D : Rws} {P : Nat → Bool}
def goneL (P : Nat → Bool) (N : Nat) : List Int := ((List.range N).filter fun j => !P j).map fun j : Nat => (j : Int)
theorem goneL_mem {N j : Nat} (h : j < N) : (j : Int) ∈ goneL P N ↔ P j = false := by
  unfold goneL
  rw [List.mem_map]
  constructor
  · rintro ⟨i, hi, e⟩
    have : i = j := by omega
    subst this
    have := (List.mem_filter.1 hi).2
    simpa using this
  · intro hp
    exact ⟨j, List.mem_filter.2 ⟨List.mem_range.2 h, by simp [hp]⟩, rfl⟩
theorem goneL_len (P : Nat → Bool) (N : Nat) : (goneL P N).length + ((List.range N).filter P).length = N := by
  unfold goneL
  rw [List.length_map]
  have h := filter_both P (List.range N)
  rw [List.length_range] at h
  omega
/-- Of any k whole shards all rows come back. -/
theorem out_std (hD : Shp k n D) (hn : 0 < n) (hk : 1 ≤ k) (hkm : k + m ≤ 255) (hc : k ≤ ((List.range (k + m)).filter P).length) {nr : Nat} (hnr : nr ≤ k + m) :
    outF k (k + m) nr ((List.range (k + m)).map fun j => if P j = true then codeRow k n D j else []) = allR k n D nr := by
  have h := goneL_len P (k + m)
  rw [← left_out (gone := goneL P (k + m)) (m := m) hD hn hk hkm (by omega) hnr]
  congr 1
  unfold missF
  refine List.map_congr_left fun j hj => ?_
  have hj' := List.mem_range.1 hj
  rw [allR_ra hj']
  cases hp : P j with
  | true => rw [if_pos rfl, if_neg (fun h2 => by rw [(goneL_mem hj').1 h2] at hp; cases hp)]
  | false => rw [if_pos ((goneL_mem hj').2 hp)]; rfl
end
end
section
theorem sncS_byt {x : Shd} (h : x.ok) : Byt (sncS x) := fun y hy => by
  unfold sncS snc60 at hy
  rcases List.mem_append.1 hy with h1 | h1
  · rcases List.mem_append.1 h1 with h2 | h2
    · exact sncH_byt x y h2
    · exact h.b y h2
  · exact leN_byt _ _ y h1
theorem rdX_snc {x : Shd} (hx : x.ok) (hk : kindB x.kind = true) (k : Nat) (r : Ref) (i : Nat) : rdX (sncS x) k r i = if isB x r i = true ∧ x.size ≤ k * 44 then some x else none := by
  have h1 := dec_snc hx
  have h2 := sncS_sum (x := x) hx.l
  unfold rdX
  rw [h1.1, h1.2]
  by_cases h : isB x r i = true ∧ x.size ≤ k * 44
  · rw [if_pos h, if_pos ⟨h2, hk, h.1, h.2⟩]
  · rw [if_neg h, if_neg (fun h3 => h ⟨h3.2.2.1, h3.2.2.2⟩)]
theorem rdX_zero (k : Nat) (r : Ref) (i : Nat) : rdX (List.replicate 64 0) k r i = none := by
  unfold rdX
  rw [if_neg]
  intro h
  exact absurd h.2.1 (by decide +kernel)
theorem rdX_sum {xs : List Nat} {k : Nat} {r : Ref} {i : Nat} (h : ¬ okSum xs) : rdX xs k r i = none := by
  unfold rdX; rw [if_neg (fun h2 => h h2.1)]
theorem toNat_map (xs : List Nat) : (xs.map fun b : Nat => (b : Int)).map Int.toNat = xs := by
  rw [List.map_map]
  conv => rhs; rw [← List.map_id xs]
  exact List.map_congr_left fun x _ => rfl
/-! ### Rot -/
def rotN (x : List Nat) (off mask : Nat) : Nat → List Nat
  | 0 => x
  | i + 1 => (rotN x off mask i).set (off + i) (gt (rotN x off mask i) (off + i) ^^^ (mask / 2 ^ (8 * i) % 256))
theorem rotN_len (x : List Nat) (off mask : Nat) : ∀ i, (rotN x off mask i).length = x.length
  | 0 => rfl
  | i + 1 => by rw [rotN, List.length_set, rotN_len x off mask i]
theorem rotN_byt {x : List Nat} (hx : Byt x) (off mask : Nat) : ∀ i, Byt (rotN x off mask i)
  | 0 => hx
  | i + 1 => by
    have ih := rotN_byt hx off mask i
    intro y hy
    rcases List.mem_or_eq_of_mem_set hy with h | rfl
    · exact ih y h
    · exact Nat.xor_lt_two_pow (n := 8) (gt_lt ih _) (Nat.mod_lt _ (by omega))
theorem rotTo_nat {x : List Nat} (hx : Byt x) {off mask : Nat} (ho : off + 4 ≤ x.length) : ∀ i, i ≤ 4 → rotTo (x.map fun b : Nat => (b : Int)) off (mask : Int) i = (rotN x off mask i).map fun b : Nat => (b : Int)
  | 0, _ => rfl
  | i + 1, hi => by
    have hl := rotN_len x off mask i
    have e : ((rotN x off mask i).map fun b : Nat => (b : Int))[off + i]? = some ((gt (rotN x off mask i) (off + i) : Nat) : Int) := by
      rw [List.getElem?_map, gt_of_lt (by omega)]; rfl
    rw [rotTo, rotTo_nat hx ho i (by omega), e, rotN, List.map_set]
    congr 1
    rw [Option.getD_some, rotV_eq]
    have e2 : (mask : Int) / 2 ^ (8 * i) % 256 = ((mask / 2 ^ (8 * i) % 256 : Nat) : Int) := by rw [Int.natCast_emod, Int.natCast_ediv, Int.natCast_pow]; rfl
    rw [e2]
    exact xor_bits (gt_lt (rotN_byt hx off mask i) _) (Nat.mod_lt _ (by omega))
theorem rotN_gt {x : List Nat} {off mask : Nat} (ho : off + 4 ≤ x.length) : ∀ i, i ≤ 4 → ∀ j, j < x.length → gt (rotN x off mask i) j = gt x j ^^^ (if off ≤ j ∧ j < off + i then mask / 2 ^ (8 * (j - off)) % 256 else 0)
  | 0, _, j, _ => by rw [if_neg (by omega), Nat.xor_zero]; rfl
  | i + 1, hi, j, hj => by
    have ih := rotN_gt (mask := mask) ho i (by omega)
    have hl := rotN_len x off mask i
    rw [rotN]
    by_cases e : j = off + i
    · subst e
      have h1 : gt ((rotN x off mask i).set (off + i) (gt (rotN x off mask i) (off + i) ^^^ (mask / 2 ^ (8 * i) % 256))) (off + i) = gt (rotN x off mask i) (off + i) ^^^ (mask / 2 ^ (8 * i) % 256) := by
        unfold gt; rw [List.getD_eq_getElem?_getD, List.getElem?_set_self (by omega)]; rfl
      rw [h1, ih _ hj, if_neg (by omega), Nat.xor_zero, if_pos (by omega), show off + i - off = i by omega]
    · have h1 : gt ((rotN x off mask i).set (off + i) (gt (rotN x off mask i) (off + i) ^^^ (mask / 2 ^ (8 * i) % 256))) j = gt (rotN x off mask i) j := by
        unfold gt; rw [List.getD_eq_getElem?_getD, List.getElem?_set_ne (fun h => e h.symm), ← List.getD_eq_getElem?_getD]
      rw [h1, ih j hj]
      by_cases h2 : off ≤ j ∧ j < off + i
      · rw [if_pos h2, if_pos (by omega)]
      · rw [if_neg h2, if_neg (by omega)]
theorem xorL_gt : ∀ (l m : List Nat), l.length = m.length → ∀ j, gt (xorL l m) j = gt l j ^^^ gt m j
  | [], [], _, j => by show gt [] j = gt [] j ^^^ gt [] j; rw [Nat.xor_self]; rfl
  | [], _ :: _, h, _ => by simp at h
  | _ :: _, [], h, _ => by simp at h
  | a :: al, b :: bl, h, 0 => rfl
  | a :: al, b :: bl, h, j + 1 => xorL_gt al bl (by simpa using h) j
theorem rotD_gt {off mask : Nat} (ho : off ≤ 60) (j : Nat) : gt (rotD off mask) j = if off ≤ j ∧ j < off + 4 then mask / 2 ^ (8 * (j - off)) % 256 else 0 := by
  unfold rotD gt
  rw [List.getD_eq_getElem?_getD]
  by_cases h1 : j < off
  · rw [List.getElem?_append_left (by simpa using h1), List.getElem?_replicate, if_pos h1, if_neg (by omega)]; rfl
  · rw [List.getElem?_append_right (by simp; omega), List.length_replicate]
    obtain ⟨d, rfl⟩ : ∃ d, j = off + d := ⟨j - off, by omega⟩
    rw [show off + d - off = d by omega]
    unfold le4
    match d with
    | 0 => rw [if_pos (by omega)]; simp
    | 1 => rw [if_pos (by omega)]; simp
    | 2 => rw [if_pos (by omega)]; simp
    | 3 => rw [if_pos (by omega)]; simp
    | d + 4 =>
      rw [if_neg (by omega)]
      simp only [List.cons_append, List.nil_append, List.getElem?_cons_succ, List.getElem?_replicate]
      split <;> rfl
theorem rotN_xor {x : List Nat} (hl : x.length = 64) {off mask : Nat} (ho : off ≤ 60) : rotN x off mask 4 = xorL x (rotD off mask) := by
  have h1 := rotD_len (mask := mask) ho
  refine gt_ext (by rw [rotN_len, xorL_len _ _ (by rw [hl, h1])]) fun j hj => ?_
  rw [rotN_len] at hj
  rw [rotN_gt (by omega) 4 (Nat.le_refl _) j hj, xorL_gt _ _ (by rw [hl, h1]), rotD_gt ho]
/-- Rot of what was put is seen. -/
theorem rdX_rot {x : Shd} (hx : x.ok) {off mask : Nat} (ho : off ≤ 60) (hm0 : mask ≠ 0) (hm : mask < 4294967296) (k : Nat) (r : Ref) (i : Nat) : rdX ((rotTo (wrI x) off (mask : Int) 4).map Int.toNat) k r i = none := by
  have hl := sncS_len (x := x) hx.l
  have hb := sncS_byt hx
  unfold wrI
  rw [rotTo_nat hb (by omega) 4 (Nat.le_refl _), toNat_map, rotN_xor hl ho]
  exact rdX_sum (rot_seen hl hb ho hm0 hm (sncS_sum hx.l))
/-- What can lie in a sector. -/
def GoodV (V : List Int) : Prop := V.length = 64 ∧ ∀ x ∈ V, 0 ≤ x ∧ x < 256
theorem goodV_zero : GoodV (rep 0) := ⟨rep_len 0, fun x hx => by rw [(List.mem_replicate.1 hx).2]; omega⟩
theorem goodV_nat {xs : List Nat} (hl : xs.length = 64) (hb : Byt xs) : GoodV (xs.map fun b : Nat => (b : Int)) := ⟨by rw [List.length_map, hl], fun x hx => by
  obtain ⟨y, hy, rfl⟩ := List.mem_map.1 hx
  have := hb y hy
  omega⟩
theorem goodV_wr {x : Shd} (hx : x.ok) : GoodV (wrI x) := goodV_nat (sncS_len hx.l) (sncS_byt hx)
theorem goodV_rot {x : Shd} (hx : x.ok) {off mask : Nat} (ho : off ≤ 60) : GoodV (rotTo (wrI x) off (mask : Int) 4) := by
  have hl := sncS_len (x := x) hx.l
  have hb := sncS_byt hx
  unfold wrI
  rw [rotTo_nat hb (by omega) 4 (Nat.le_refl _)]
  exact goodV_nat (by rw [rotN_len, hl]) (rotN_byt hb off mask 4)
theorem rdOk_of {sts : List DSt} {z : Nat} (h : ∀ st ∈ sts, GoodV (st.seen z)) : RdOk sts z := ⟨fun st hst x hx => (h st hst).2 x hx, fun st hst => by unfold secN; rw [List.length_map, (h st hst).1]⟩
end
section
def deadL (sts : List DSt) (d : Nat) : Bool := ((sts[d]?).map (·.dead)).getD true
def wrG (n : Nat) (r : Ref) (size : Nat) (wh : Nat → Bool) (rw : Nat → List Nat) (N d : Nat) (st : DSt) : DSt :=
  if wh (ixN N r.place d) = true then wrDA n st (r.place : Int) (wrI (shR r (ixN N r.place d) size (rw (ixN N r.place d)))) else st
section
variable {n size : Nat} {r : Ref} {wh : Nat → Bool} {rw : Nat → List Nat} {sts : List DSt}
theorem wrS_at (hN : 1 ≤ sts.length) : ∀ i, i ≤ sts.length → (∀ d st, sts[d]? = some st → (wrS n r size wh rw sts i).1[d]? = some (if ixN sts.length r.place d < i then wrG n r size wh rw sts.length d st else st)) ∧
    (wrS n r size wh rw sts i).2 = ((List.range i).filter fun j => wh j && !deadL sts (homeN sts.length r.place j)).length
  | 0, _ => ⟨fun d st h => by rw [if_neg (by omega)]; exact h, rfl⟩
  | i + 1, hi => by
    obtain ⟨h1, h2⟩ := wrS_at hN i (by omega)
    have hlt : homeN sts.length r.place i < sts.length := homeN_lt hN
    have hix : ixN sts.length r.place (homeN sts.length r.place i) = i := ix_home hN (by omega)
    obtain ⟨s0, hs0⟩ : ∃ s0, sts[homeN sts.length r.place i]? = some s0 := ⟨_, List.getElem?_eq_getElem hlt⟩
    have hcur := h1 _ _ hs0
    rw [hix, if_neg (by omega)] at hcur
    rw [List.range_succ, List.filter_append, List.length_append]
    cases hw : wh i with
    | false =>
      rw [wrS_skip hw]
      refine ⟨fun d st hd => ?_, ?_⟩
      · rw [h1 d st hd]
        by_cases e : ixN sts.length r.place d = i
        · rw [if_neg (by omega), if_pos (by omega)]
          unfold wrG
          rw [e, hw]; rfl
        · by_cases e2 : ixN sts.length r.place d < i
          · rw [if_pos e2, if_pos (by omega)]
          · rw [if_neg e2, if_neg (by omega)]
      · rw [h2, List.filter_cons_of_neg (by simp [hw])]; rfl
    | true =>
      rw [wrS_do hw hcur]
      refine ⟨fun d st hd => ?_, ?_⟩
      · have hdl := (List.getElem?_eq_some_iff.1 hd).1
        by_cases e : ixN sts.length r.place d = i
        · have e3 : d = homeN sts.length r.place i := by rw [← e, home_ix hN hdl]
          subst e3
          have : s0 = st := Option.some.inj (hs0.symm.trans hd)
          subst this
          rw [List.getElem?_set_self (by rw [wrS_len]; exact hlt), if_pos (by omega)]
          unfold wrG
          rw [hix, if_pos hw]
        · have e3 : homeN sts.length r.place i ≠ d := fun h => e (by rw [← h]; exact hix)
          rw [List.getElem?_set_ne e3, h1 d st hd]
          by_cases e2 : ixN sts.length r.place d < i
          · rw [if_pos e2, if_pos (by omega)]
          · rw [if_neg e2, if_neg (by omega)]
      · rw [h2]
        have hdd : deadL sts (homeN sts.length r.place i) = s0.dead := by unfold deadL; rw [hs0]; rfl
        cases hb : s0.dead with
        | true => rw [if_pos rfl, List.filter_cons_of_neg (by simp [hw, hdd, hb])]; rfl
        | false => rw [if_neg (by simp), List.filter_cons_of_pos (by simp [hw, hdd, hb])]; rfl
/-- The drives behind it, each by itself. -/
theorem wrS_map (hN : 1 ≤ sts.length) : (wrS n r size wh rw sts sts.length).1 = sts.mapIdx (wrG n r size wh rw sts.length) := by
  apply List.ext_getElem?
  intro d
  rw [List.getElem?_mapIdx]
  by_cases hd : d < sts.length
  · have h := (wrS_at (n := n) (size := size) (r := r) (wh := wh) (rw := rw) hN sts.length (Nat.le_refl _)).1 d _ (List.getElem?_eq_getElem hd)
    rw [h, List.getElem?_eq_getElem hd, if_pos (ixN_lt hN)]; rfl
  · rw [List.getElem?_eq_none (by rw [wrS_len]; omega), List.getElem?_eq_none (by omega)]; rfl
theorem wrS_taken (hN : 1 ≤ sts.length) : (wrS n r size wh rw sts sts.length).2 = ((List.range sts.length).filter fun j => wh j && !deadL sts (homeN sts.length r.place j)).length := (wrS_at hN sts.length (Nat.le_refl _)).2
/-- All of a stripe: as many as aren't dead. -/
theorem wrS_all (hN : 1 ≤ sts.length) : (wrS n r size (fun _ => true) rw sts sts.length).2 = ((List.range sts.length).filter fun d => !deadL sts d).length := by
  rw [wrS_taken hN, ← home_count hN (p := r.place) (fun d => !deadL sts d)]; rfl
end
theorem wrDA_dead {n : Nat} {st : DSt} (h : st.dead = true) (z : Int) (bs : List Int) : wrDA n st z bs = st := by
  unfold wrDA
  rw [if_neg]
  intro h2
  unfold readyE at h2
  rw [h] at h2
  exact absurd h2.1 (by rw [if_pos rfl]; decide)
theorem wrDA_live {n z : Nat} {st : DSt} (h : st.dead = false) (hz : z < n) {bs : List Int} (hl : bs.length = 64) : wrDA n st (z : Int) bs = st.write (z : Int) bs := by
  unfold wrDA
  rw [if_pos]
  refine ⟨?_, hl⟩
  unfold readyE
  rw [h]
  simp [hz]
theorem wrI_len {x : Shd} (h : x.body.length = 44) : (wrI x).length = 64 := by unfold wrI; rw [List.length_map, sncS_len h]
/-! ### What is read -/
section
variable {sts : List DSt} {k i : Nat} {r : Ref} {st : DSt}
theorem stR_at (h : sts[homeN sts.length r.place i]? = some st) : stR sts k r i = rdS st k r i := by unfold stR; rw [h]
theorem rdS_dead (h : st.dead = true) : rdS st k r i = none := by unfold rdS; rw [if_pos h]
theorem rdS_zero (h : st.seen r.place = rep 0) : rdS st k r i = none := by
  unfold rdS
  split
  · rfl
  · unfold secN
    rw [h]
    exact rdX_zero k r i
theorem rdS_rot {x : Shd} (hx : x.ok) {off mask : Nat} (ho : off ≤ 60) (hm0 : mask ≠ 0) (hm : mask < 4294967296) (h : st.seen r.place = rotTo (wrI x) off (mask : Int) 4) : rdS st k r i = none := by
  unfold rdS
  split
  · rfl
  · unfold secN
    rw [h]
    exact rdX_rot hx ho hm0 hm k r i
theorem rdS_snc {x : Shd} (hx : x.ok) (hk : kindB x.kind = true) (h : st.seen r.place = wrI x) : rdS st k r i = if st.dead = false ∧ isB x r i = true ∧ x.size ≤ k * 44 then some x else none := by
  unfold rdS
  cases hd : st.dead with
  | true => rw [if_pos rfl, if_neg (by simp)]
  | false =>
    rw [if_neg (by simp)]
    unfold secN
    rw [h]
    unfold wrI
    rw [toNat_map, rdX_snc hx hk]
    by_cases h2 : isB x r i = true ∧ x.size ≤ k * 44
    · rw [if_pos h2, if_pos ⟨rfl, h2⟩]
    · rw [if_neg h2, if_neg (fun h3 => h2 h3.2)]
end
theorem isB_same (r : Ref) (i size : Nat) (row : List Nat) : isB (shR r i size row) r i = true := by unfold isB shR; simp
end
section
def mayB (k m : Int) : Bool := decide (1 ≤ k ∧ 1 ≤ m ∧ k ≤ 255 ∧ m ≤ 255 - k)
set_option maxRecDepth 100000 in
set_option maxHeartbeats 4000000 in
theorem may_any {w : World} (k m : Int) :
    Calls Tryz.prog 56 #[.int .i64 k, .int .i64 m] w fun e w' => e = .returned (.bool (mayB k m)) ∧ w' = w := by
  go_enter Tryz.func56, Tryz.ntmps56
  by_cases h1 : k ≥ 1
  · by_cases h2 : m ≥ 1
    · by_cases h3 : k ≤ 255
      · by_cases h4 : m ≤ 255 - k
        · have h5 : m ≤ 255 - k := h4
          go_wp2_with fail
          go_ret
          exact ⟨by rw [show mayB k m = true from decide_eq_true (by omega)]; simp [h4], rfl⟩
        · go_wp2_with fail
          go_ret
          exact ⟨by rw [show mayB k m = false from decide_eq_false (by omega)]; simp <;> omega, rfl⟩
      · go_wp2_with fail
        go_ret
        exact ⟨by rw [show mayB k m = false from decide_eq_false (by omega)]; simp <;> omega, rfl⟩
    · go_wp2_with fail
      go_ret
      exact ⟨by rw [show mayB k m = false from decide_eq_false (by omega)]; simp <;> omega, rfl⟩
  · go_wp2_with fail
    go_ret
    exact ⟨by rw [show mayB k m = false from decide_eq_false (by omega)]; simp <;> omega, rfl⟩

theorem CodF.bound {C : Nat → Prop} {w : World} {cb b k m : Nat} (h : CodF C w cb b k m) : CodF (fun j => C j ∧ j < w.heap.size) w cb b k m := by
  obtain ⟨A, c, h1, h2, h3⟩ := h.box
  exact ⟨⟨A, c, h1, h2, h3.stable ByR.stable fun j hj hl => ⟨⟨hj, hl⟩, rfl⟩⟩, ⟨h.cc, h1.lt⟩, ⟨h.cf, h.fld.lt⟩, h.fld, h.k1, h.m1, h.km⟩
/-- Drives and a coder, all of whose blocks are younger than the law's call. -/
structure SMid (w0 w : World) (a cb bf k m n : Nat) (sts : List DSt) : Prop where
  bel : Below w0.heap.size w0 w
  ex : ∃ U C, ArrAt U w a n sts ∧ CodF C w cb bf k m ∧ (∀ j, U j → w0.heap.size ≤ j) ∧ (∀ j, C j → ¬ U j ∧ j < w.heap.size)
  len : sts.length = k + m
  n1 : 1 ≤ n
  n2 : n ≤ 600
section
variable {w0 w w' : World} {a cb bf k m n : Nat} {sts : List DSt}
theorem SMid.cod (h : SMid w0 w a cb bf k m n sts) : CodAt w cb bf k m := by
  obtain ⟨U, C, _, hC, _⟩ := h.ex
  exact hC.at
theorem SMid.k1 (h : SMid w0 w a cb bf k m n sts) : 1 ≤ k := h.cod.k1
theorem SMid.m1 (h : SMid w0 w a cb bf k m n sts) : 1 ≤ m := h.cod.m1
theorem SMid.km (h : SMid w0 w a cb bf k m n sts) : k + m ≤ 255 := h.cod.km
theorem SMid.below (h : SMid w0 w a cb bf k m n sts) (hb : Below w.heap.size w w') : SMid w0 w' a cb bf k m n sts := by
  obtain ⟨U, C, hA, hC, hU, hd⟩ := h.ex
  exact ⟨h.bel.trans (hb.mono h.bel.size), ⟨U, C, hA.below hb, hC.below hb, hU, fun j hj => ⟨(hd j hj).1, Nat.lt_of_lt_of_le (hd j hj).2 hb.size⟩⟩, h.len, h.n1, h.n2⟩
theorem SMid.ok (h : SMid w0 w a cb bf k m n sts) : ∀ st ∈ sts, st.ok n := by
  obtain ⟨U, C, hA, _⟩ := h.ex
  exact hA.ok
/-- A call that went on with the drives. -/
theorem SMid.step {sts' : List DSt} {f : FuncId} {args : Array Value} {Q : Ending → World → Prop} (h : SMid w0 w a cb bf k m n sts) (hl : sts'.length = sts.length)
    (hc : ∀ U, ArrAt U w a n sts → (∀ j, U j → w0.heap.size ≤ j) → Calls Tryz.prog f args w fun e w' => Q e w' ∧ AUpd U w w' a n sts') :
    Calls Tryz.prog f args w fun e w' => Q e w' ∧ SMid w0 w' a cb bf k m n sts' := by
  obtain ⟨U, C, hA, hC, hU, hd⟩ := h.ex
  refine (hc U hA hU).mono ?_
  rintro e w' ⟨hq, U', hA', hU', hK⟩
  refine ⟨hq, h.bel.trans (hK.below h.bel.size hU), ⟨U', C, hA', hC.keep hK (fun j hj => (hd j hj).1), fun j hj => ?_, fun j hj => ⟨fun hu => (hd j hj).1 (hU' j hu (hd j hj).2), Nat.lt_of_lt_of_le (hd j hj).2 hK.size⟩⟩, by rw [hl, h.len], h.n1, h.n2⟩
  by_cases hlt : j < w.heap.size
  · exact hU j (hU' j hj hlt)
  · have := h.bel.size; omega
variable {r : Ref}
theorem get_mid (h : SMid w0 w a cb bf k m n sts) (hr : r.ok n) (hR : RdOk sts r.place) :
    Calls Tryz.prog 40 #[.pointer (some ⟨a, 0, none⟩), .pointer (some ⟨cb, 0, none⟩), .agg (refC r)] w fun e w' => GetE w (stR sts k r) k (k + m) e w' := by
  obtain ⟨U, C, ⟨v, Fs, ps, hA⟩, hC, hU, hd⟩ := h.ex
  exact sget_any (Lib.hid hA) hC.at h.len hr hR
theorem whole_mid (h : SMid w0 w a cb bf k m n sts) (hr : r.ok n) (hR : RdOk sts r.place) :
    Calls Tryz.prog 64 #[.pointer (some ⟨a, 0, none⟩), .pointer (some ⟨cb, 0, none⟩), .agg (refC r)] w fun e w' => ∃ g, e = .returned (.slice (some ⟨g, 0, none⟩) (k + m) (k + m)) ∧ RdL BoolR 1 (fun j => w.heap.size ≤ j) w' (some ⟨g, 0, none⟩) (k + m) (wsU (wholeF (stR sts k r) (k + m)).1 (k + m) (k + m)) ∧ Below w.heap.size w w' := by
  obtain ⟨U, C, ⟨v, Fs, ps, hA⟩, hC, hU, hd⟩ := h.ex
  exact swholes_any (Lib.hid hA) hC.at h.len hr hR
end
end
section
def smallB (k m s : Int) : Bool := decide (1 ≤ k ∧ 1 ≤ m ∧ k + m ≤ 10 ∧ 1 ≤ s ∧ s ≤ 8)
def geoC (k m s : Int) : Array Value := #[.int .i64 k, .int .i64 m, .int .i64 s]
set_option maxRecDepth 100000 in
set_option maxHeartbeats 4000000 in
theorem small_any {w : World} (k m s : Int) : Calls Tryz.prog 11 #[.agg (geoC k m s)] w fun e w' => e = .returned (.bool (smallB k m s)) ∧ Below w.heap.size w w' := by
  have hma := fun w => may_any (w := w) k m
  have hb0 : Below w.heap.size w (w.alloc (.cells (geoC k m s) 23)) := (Below.refl _ _).alloc (Nat.le_refl _) _
  unfold geoC at hb0 ⊢
  go_enter Tryz.func11, Tryz.ntmps11
  cases hm : mayB k m with
  | false =>
    rw [hm] at hma
    have hs : Hid (smallB k m s = false) := Lib.hid (by
      unfold mayB at hm
      have := of_decide_eq_false hm
      exact decide_eq_false (by omega))
    go_wp2_with (go_at_call 56; refine (hma _).mono ?_; rintro e w3 ⟨rfl, hw3⟩; rw [hw3]; clear hw3 hma)
    go_ret
    exact ⟨by rw [hs.out]; rfl, hb0⟩
  | true =>
    rw [hm] at hma
    have hm' := of_decide_eq_true hm
    have q0 : IntKind.i64.wrap (k + m) = k + m := by rw [IntKind.wrap_i64]; omega
    by_cases h1 : k + m ≤ 10
    · by_cases h2 : s ≥ 1
      · by_cases h3 : s ≤ 8
        · have hs := Lib.hid (show smallB k m s = true from decide_eq_true (by omega))
          go_wp2_with (go_at_call 56; refine (hma _).mono ?_; rintro e w3 ⟨rfl, hw3⟩; rw [hw3]; clear hw3 hma)
          go_ret
          exact ⟨by rw [hs.out]; simp [h3], hb0⟩
        · have hs := Lib.hid (show smallB k m s = false from decide_eq_false (by omega))
          go_wp2_with (go_at_call 56; refine (hma _).mono ?_; rintro e w3 ⟨rfl, hw3⟩; rw [hw3]; clear hw3 hma)
          go_ret
          exact ⟨by rw [hs.out]; simp [h3] <;> omega, hb0⟩
      · have hs := Lib.hid (show smallB k m s = false from decide_eq_false (by omega))
        go_wp2_with (go_at_call 56; refine (hma _).mono ?_; rintro e w3 ⟨rfl, hw3⟩; rw [hw3]; clear hw3 hma)
        go_ret
        exact ⟨by rw [hs.out]; simp [h2] <;> omega, hb0⟩
    · have hs := Lib.hid (show smallB k m s = false from decide_eq_false (by omega))
      go_wp2_with (go_at_call 56; refine (hma _).mono ?_; rintro e w3 ⟨rfl, hw3⟩; rw [hw3]; clear hw3 hma)
      go_ret
      exact ⟨by rw [hs.out]; simp [h1] <;> omega, hb0⟩
end
section
def cntP (P : Nat → Bool) (N : Nat) : Nat := ((List.range N).filter P).length
def GotE (w : World) (k c len : Nat) (xs : List Nat) (e : Ending) (w' : World) : Prop := Below w.heap.size w w' ∧
  ((c < k ∧ e = .returned (.tuple #[.slice none 0 0, .int .i64 130])) ∨
   (k ≤ c ∧ ∃ A cp, e = .returned (.tuple #[.slice A len cp, .int .i64 0]) ∧ len ≤ cp ∧ RdL ByR 1 (fun j => w.heap.size ≤ j) w' A len xs))
section
variable {w0 w : World} {a cb bf k m n : Nat} {sts : List DSt} {r : Ref} {P : Nat → Bool} {xs : List Nat}
theorem std_whole (hP : ∀ i, i < k + m → stR sts k r i = if P i = true then some (shR r i xs.length (codeRow k 44 (splF 44 xs k k) i)) else none) : (wholeF (stR sts k r) (k + m)).1 = stdL P r xs.length (codeRow k 44 (splF 44 xs k k)) (k + m) ∧ (0 < cntP P (k + m) → (wholeF (stR sts k r) (k + m)).2 = xs.length) := by
  obtain ⟨h1, h2⟩ := whole_std hP (k + m) (Nat.le_refl _)
  refine ⟨h1, fun hc => h2 ?_⟩
  rw [h1, stdL_len]
  exact hc
theorem get_std (h : SMid w0 w a cb bf k m n sts) (hr : r.ok n) (hV : ∀ st ∈ sts, GoodV (st.seen r.place)) (hx : Byt xs) (hl : xs.length ≤ k * 44)
    (hP : ∀ i, i < k + m → stR sts k r i = if P i = true then some (shR r i xs.length (codeRow k 44 (splF 44 xs k k) i)) else none) :
    Calls Tryz.prog 40 #[.pointer (some ⟨a, 0, none⟩), .pointer (some ⟨cb, 0, none⟩), .agg (refC r)] w fun e w' => GotE w k (cntP P (k + m)) xs.length xs e w' := by
  refine (get_mid h hr (rdOk_of hV)).mono ?_
  obtain ⟨e1, e2⟩ := std_whole hP
  have hk1 := h.k1
  have hcl : (wholeF (stR sts k r) (k + m)).1.length = cntP P (k + m) := by rw [e1, stdL_len]; rfl
  rintro e w' ⟨hb, ⟨hc, rfl⟩ | ⟨hc, A, c, rfl, hcc, hr2⟩⟩
  · exact ⟨hb, .inl ⟨by rw [← hcl]; exact hc, rfl⟩⟩
  · rw [hcl] at hc
    have e3 := e2 (by omega)
    rw [e1, e3, stdL_rows] at hr2
    have hD := splF_shp (width := 44) hx k
    rw [out_std (m := m) hD (by omega) hk1 h.km (by unfold cntP at hc; omega) (by omega), allR_data hD, spl_pre k hl] at hr2
    rw [e3] at hcc
    exact ⟨hb, .inr ⟨by omega, A, c, by rw [e3], hcc, hr2⟩⟩
theorem whole_stdM (h : SMid w0 w a cb bf k m n sts) (hr : r.ok n) (hV : ∀ st ∈ sts, GoodV (st.seen r.place))
    (hP : ∀ i, i < k + m → stR sts k r i = if P i = true then some (shR r i xs.length (codeRow k 44 (splF 44 xs k k) i)) else none) :
    Calls Tryz.prog 64 #[.pointer (some ⟨a, 0, none⟩), .pointer (some ⟨cb, 0, none⟩), .agg (refC r)] w fun e w' => ∃ g, e = .returned (.slice (some ⟨g, 0, none⟩) (k + m) (k + m)) ∧ RdL BoolR 1 (fun j => w.heap.size ≤ j) w' (some ⟨g, 0, none⟩) (k + m) ((List.range (k + m)).map P) ∧ Below w.heap.size w w' := by
  have h1 := whole_mid h hr (rdOk_of hV)
  rw [(std_whole hP).1, stdL_whole] at h1
  exact h1
end
/-- What a drive is behind a Put. -/
def putQ (n k N : Nat) (r : Ref) (xs : List Nat) (d : Nat) (st : DSt) : DSt := wrG n r xs.length (fun _ => true) (codeRow k 44 (splF 44 xs k k)) N d st
def putX (k N : Nat) (r : Ref) (xs : List Nat) (d : Nat) : Shd := shR r (ixN N r.place d) xs.length (codeRow k 44 (splF 44 xs k k) (ixN N r.place d))
theorem row44 {xs : List Nat} (hx : Byt xs) (k i : Nat) : (codeRow k 44 (splF 44 xs k k) i).length = 44 ∧ Byt (codeRow k 44 (splF 44 xs k k) i) := codeRow_ok (splF_shp (width := 44) hx k) i
theorem shR_ok {r : Ref} {n : Nat} (hr : r.ok n) (hn : n ≤ 600) (hg : Hid (r.gen < 2 ^ 64)) {i size : Nat} (hi : i < 256) (hs : size < 65536) {row : List Nat} (hl : row.length = 44) (hb : Byt row) : (shR r i size row).ok :=
  ⟨by have := hr.k4; show r.kind < 256; omega, hi, by have := hr.p; show r.place < 65536; omega, hg.out, hs, hl, hb⟩
theorem putX_ok {r : Ref} {n k N : Nat} (hr : r.ok n) (hn : n ≤ 600) (hg : Hid (r.gen < 2 ^ 64)) {xs : List Nat} (hx : Byt xs) (hl : xs.length < 65536) (hN : 1 ≤ N) (hN2 : N ≤ 255) (d : Nat) : (putX k N r xs d).ok :=
  shR_ok hr hn hg (by have := ixN_lt (n := N) (p := r.place) (d := d) hN; omega) hl (row44 hx k _).1 (row44 hx k _).2
theorem putX_kind {r : Ref} {n k N : Nat} (hr : r.ok n) (xs : List Nat) (d : Nat) : kindB (putX k N r xs d).kind = true := decide_eq_true ⟨hr.k1, hr.k4⟩
theorem putQ_live {n k N d : Nat} {r : Ref} (hr : r.ok n) {xs : List Nat} (hx : Byt xs) {st : DSt} (h : st.dead = false) : putQ n k N r xs d st = st.write (r.place : Int) (wrI (putX k N r xs d)) := by
  unfold putQ wrG
  rw [if_pos rfl]
  exact wrDA_live h hr.p (wrI_len (x := putX k N r xs d) (row44 hx k _).1)
theorem putQ_dead {n k N d : Nat} {r : Ref} {xs : List Nat} {st : DSt} (h : st.dead = true) : putQ n k N r xs d st = st := by
  unfold putQ wrG
  rw [if_pos rfl, wrDA_dead h]
theorem putQ_cache {n k N d : Nat} {r : Ref} {xs : List Nat} {st : DSt} : (putQ n k N r xs d st).cache.length ≤ st.cache.length + 1 := by
  unfold putQ wrG
  rw [if_pos rfl]
  exact wrDA_cache _ _ _
def liveC (sts : List DSt) : Nat := cntP (fun d => !deadL sts d) sts.length
section
variable {w0 w : World} {a cb bf k m n : Nat} {sts : List DSt} {r : Ref} {xs : List Nat}
end
/-! ### Drives that are dead -/
theorem gone_seen {n z : Nat} (hz : z < n) : (DSt.gone n).seen z = rep 0 := DSt.seen_new hz
end
section
def HasS (k N : Nat) (r : Ref) (xs : List Nat) (d : Nat) (st : DSt) : Prop := st.dead = false ∧ st.seen r.place = wrI (putX k N r xs d)
def LostS (k : Nat) (r : Ref) (st : DSt) : Prop := GoodV (st.seen r.place) ∧ ∀ i, rdS st k r i = none
section
variable {sts : List DSt} {k N n : Nat} {r : Ref} {xs : List Nat} {g : Nat → Bool}
theorem view_of (hr : r.ok n) (hn : n ≤ 600) (hg : Hid (r.gen < 2 ^ 64)) (hx : Byt xs) (hk : k ≤ 255) (hl : xs.length ≤ k * 44) (hN : 1 ≤ N) (hN2 : N ≤ 255) (hlen : sts.length = N)
    (hc : ∀ d st, sts[d]? = some st → (g d = true ∧ HasS k N r xs d st) ∨ (g d = false ∧ LostS k r st)) :
    (∀ st ∈ sts, GoodV (st.seen r.place)) ∧ ∀ i, i < N → stR sts k r i = if g (homeN N r.place i) = true then some (shR r i xs.length (codeRow k 44 (splF 44 xs k k) i)) else none := by
  have hX := fun d => putX_ok (k := k) hr hn hg hx (by omega) hN hN2 d
  constructor
  · intro st hst
    obtain ⟨d, hd, rfl⟩ := List.mem_iff_getElem.1 hst
    rcases hc d _ (List.getElem?_eq_getElem hd) with ⟨_, h⟩ | ⟨_, h⟩
    · rw [h.2]; exact goodV_wr (hX d)
    · exact h.1
  · intro i hi
    have hlt : homeN N r.place i < sts.length := by rw [hlen]; exact homeN_lt hN
    have hst : sts[homeN sts.length r.place i]? = some sts[homeN N r.place i] := by rw [hlen]; exact List.getElem?_eq_getElem hlt
    rw [stR_at hst]
    rcases hc _ _ (List.getElem?_eq_getElem hlt) with ⟨h0, h⟩ | ⟨h0, h⟩
    · rw [if_pos h0, rdS_snc (hX _) (putX_kind hr xs _) h.2]
      have e : putX k N r xs (homeN N r.place i) = shR r i xs.length (codeRow k 44 (splF 44 xs k k) i) := by unfold putX; rw [ix_home hN hi]
      rw [e, if_pos ⟨h.1, isB_same r i _ _, hl⟩]
    · rw [if_neg (by rw [h0]; simp), h.2]
theorem lost_dead {st : DSt} (h : st.dead = true) (hv : GoodV (st.seen r.place)) : LostS k r st := ⟨hv, fun _ => rdS_dead h⟩
theorem lost_zero {st : DSt} (h : st.seen r.place = rep 0) : LostS k r st := ⟨by rw [h]; exact goodV_zero, fun _ => rdS_zero h⟩
theorem lost_rot {st : DSt} {x : Shd} (hx : x.ok) {off mask : Nat} (ho : off ≤ 60) (hm0 : mask ≠ 0) (hm : mask < 4294967296) (h : st.seen r.place = rotTo (wrI x) off (mask : Int) 4) : LostS k r st := ⟨by rw [h]; exact goodV_rot hx ho, fun _ => rdS_rot hx ho hm0 hm h⟩
theorem has_put {st : DSt} (hr : r.ok n) (hx : Byt xs) (h : st.dead = false) {d : Nat} : HasS k N r xs d (putQ n k N r xs d st) := by
  rw [putQ_live hr hx h]
  exact ⟨h, by rw [DSt.seen_write, if_pos rfl]⟩
end
section
variable {w0 w : World} {a cb bf k m n : Nat} {sts : List DSt} {r : Ref} {g : Nat → Bool} {xs : List Nat}
/-- Get, by which drives have their shard. -/
theorem get_view (h : SMid w0 w a cb bf k m n sts) (hr : r.ok n) (hg : Hid (r.gen < 2 ^ 64)) (hx : Byt xs) (hl : xs.length ≤ k * 44)
    (hc : ∀ d st, sts[d]? = some st → (g d = true ∧ HasS k (k + m) r xs d st) ∨ (g d = false ∧ LostS k r st)) :
    Calls Tryz.prog 40 #[.pointer (some ⟨a, 0, none⟩), .pointer (some ⟨cb, 0, none⟩), .agg (refC r)] w fun e w' => GotE w k (cntP g (k + m)) xs.length xs e w' := by
  have h1 := h.k1
  have h2 := h.km
  obtain ⟨v1, v2⟩ := view_of (N := k + m) hr h.n2 hg hx (by omega) hl (by omega) h2 h.len hc
  have h3 := get_std (P := fun i => g (homeN (k + m) r.place i)) h hr v1 hx hl v2
  have e : cntP (fun i => g (homeN (k + m) r.place i)) (k + m) = cntP g (k + m) := home_count (by omega) g
  rw [e] at h3
  exact h3
theorem whole_view (h : SMid w0 w a cb bf k m n sts) (hr : r.ok n) (hg : Hid (r.gen < 2 ^ 64)) (hx : Byt xs) (hl : xs.length ≤ k * 44)
    (hc : ∀ d st, sts[d]? = some st → (g d = true ∧ HasS k (k + m) r xs d st) ∨ (g d = false ∧ LostS k r st)) :
    Calls Tryz.prog 64 #[.pointer (some ⟨a, 0, none⟩), .pointer (some ⟨cb, 0, none⟩), .agg (refC r)] w fun e w' => ∃ b, e = .returned (.slice (some ⟨b, 0, none⟩) (k + m) (k + m)) ∧ RdL BoolR 1 (fun j => w.heap.size ≤ j) w' (some ⟨b, 0, none⟩) (k + m) ((List.range (k + m)).map fun i => g (homeN (k + m) r.place i)) ∧ Below w.heap.size w w' := by
  have h1 := h.k1
  have h2 := h.km
  obtain ⟨v1, v2⟩ := view_of (N := k + m) hr h.n2 hg hx (by omega) hl (by omega) h2 h.len hc
  exact whole_stdM (P := fun i => g (homeN (k + m) r.place i)) h hr v1 v2
end
/-! ### Drives made, a stripe put, some dead -/
def newS (n N : Nat) : List DSt := List.replicate N (DSt.new n)
theorem newS_at {n N d : Nat} {st : DSt} (h : (newS n N)[d]? = some st) : st = DSt.new n ∧ d < N := by
  unfold newS at h
  rw [List.getElem?_replicate] at h
  split at h
  · rename_i h2; cases h; exact ⟨rfl, h2⟩
  · cases h
theorem live_new (n N : Nat) : liveC (newS n N) = N := by
  unfold liveC cntP
  rw [show (newS n N).length = N by unfold newS; simp, List.filter_eq_self.2, List.length_range]
  intro d hd
  have h := List.mem_range.1 hd
  unfold deadL newS
  rw [List.getElem?_replicate, if_pos h]; rfl
theorem mapIdx_at {f : Nat → DSt → DSt} {sts : List DSt} {d : Nat} {st : DSt} (h : (sts.mapIdx f)[d]? = some st) : ∃ s1, sts[d]? = some s1 ∧ st = f d s1 := by
  rw [List.getElem?_mapIdx] at h
  cases h1 : sts[d]? with
  | none => rw [h1] at h; cases h
  | some s1 => rw [h1] at h; exact ⟨s1, rfl, (Option.some.inj h).symm⟩
end
section

def rotC (d : Bool) (n : Nat) (z off mask : Int) (bad : Bool) : Int := if readyE d n z ≠ 0 then readyE d n z else if ¬ ((0 ≤ off ∧ off ≤ 60) ∧ ¬ mask = 0) then 2 else if bad then 91 else 0
section
variable {d bad : Bool} {n : Nat} {z off mask : Int}
theorem rotC_ready (h : readyE d n z ≠ 0) : rotC d n z off mask bad = readyE d n z := by unfold rotC; rw [if_pos h]
theorem rotC_arg (h : readyE d n z = 0) (h2 : ¬ ((0 ≤ off ∧ off ≤ 60) ∧ ¬ mask = 0)) : rotC d n z off mask bad = 2 := by unfold rotC; rw [if_neg (fun e => e h), if_pos h2]
theorem rotC_bad (h : readyE d n z = 0) (h2 : (0 ≤ off ∧ off ≤ 60) ∧ ¬ mask = 0) (h3 : bad = true) : rotC d n z off mask bad = 91 := by unfold rotC; rw [if_neg (fun e => e h), if_neg (fun e => e h2), if_pos h3]
theorem rotC_ok (h : readyE d n z = 0) (h2 : (0 ≤ off ∧ off ≤ 60) ∧ ¬ mask = 0) (h3 : bad = false) : rotC d n z off mask bad = 0 := by unfold rotC; rw [if_neg (fun e => e h), if_neg (fun e => e h2), h3]; rfl
end
theorem DrvAt.okk {F : Nat → Prop} {w : World} {p n : Nat} {st : DSt} (h : DrvAt F w p n st) : st.ok n := by
  obtain ⟨_, _, _, _, _, _, _, hB, _⟩ := h
  exact hB.ok
theorem DrvAt.updSame {F : Nat → Prop} {w w' : World} {p n : Nat} {st : DSt} (h : DrvAt F w p n st) (hb : Below w.heap.size w w') : Upd F w w' p n st := by
  exact h.upd hb
theorem rot_exact {F : Nat → Prop} {w : World} {p n : Nat} {st : DSt} (h : Hid (DrvAt F w p n st)) (z off mask : Int) :
    Calls Tryz.prog 78 #[.pointer (some ⟨p, 0, none⟩), .int .i64 z, .int .i64 off, .int .u32 mask] w fun e w' => e = .returned (.int .i64 (rotC st.dead n z off mask ((st.rotten[z.toNat]?).getD false))) ∧ Upd F w w' p n (if rotDOk st n z off mask then st.rot z.toNat off.toNat mask else st) := by
  by_cases hz : readyE st.dead n z = 0
  · obtain ⟨hd, h0, hn⟩ := (ready_iff st n z).1 hz
    by_cases ho : (0 ≤ off ∧ off ≤ 60) ∧ ¬ mask = 0
    · obtain ⟨k, rfl⟩ : ∃ k : Nat, z = k := ⟨z.toNat, by omega⟩
      obtain ⟨o, rfl⟩ : ∃ k : Nat, off = k := ⟨off.toNat, by omega⟩
      have hkn : k < n := by omega
      have hrl : st.rotten.length = n := h.out.okk.rl
      cases hr : st.rotten[k]? with
      | none => rw [List.getElem?_eq_none_iff] at hr; omega
      | some r =>
        cases r with
        | false =>
          refine (rot_good h hd k hkn o (by omega) mask ho.2 hr).mono ?_
          rintro e w' ⟨rfl, hu⟩
          have hok : rotDOk st n k o mask := ⟨⟨hd, h0, hn⟩, ho, by simpa using hr⟩
          rw [if_pos hok]
          exact ⟨by rw [rotC_ok hz ho (by simp [hr])], by simpa using hu⟩
        | true =>
          refine (rot_again h hd k hkn o (by omega) mask ho.2 hr).mono ?_
          rintro e w' ⟨rfl, hu⟩
          rw [if_neg (fun hok => by have := hok.2.2; simp [hr] at this)]
          exact ⟨by rw [rotC_bad hz ho (by simp [hr])], h.out.updSame hu⟩
    · refine (rot_off h z off mask hz ho).mono ?_
      rintro e w' ⟨rfl, hu⟩
      rw [if_neg (fun hok => ho hok.2.1)]
      exact ⟨by rw [rotC_arg hz ho], h.out.updSame hu⟩
  · refine (rot_unready h z off mask hz).mono ?_
    rintro e w' ⟨rfl, hu⟩
    rw [if_neg (fun hok => hz ((ready_iff st n z).2 hok.1))]
    exact ⟨by rw [rotC_ready hz], h.out.updSame hu⟩
def rotA (s : Nat) (sts : List DSt) (d z off mask : Int) : List DSt := if 0 ≤ d ∧ d < sts.length then (match sts[d.toNat]? with | some st => sts.set d.toNat (rtDA s st z off mask) | none => sts) else sts
def rotE (s : Nat) (sts : List DSt) (d z off mask : Int) : Int := if 0 ≤ d ∧ d < sts.length then (match sts[d.toNat]? with | some st => rotC st.dead s z off mask ((st.rotten[z.toNat]?).getD false) | none => 0) else 2
set_option maxRecDepth 100000 in
theorem arot_any {U : Nat → Prop} {w : World} {a s : Nat} {sts : List DSt} (h : Hid (ArrAt U w a s sts)) (hk : 0 < sts.length) (d z off mask : Int) :
    Calls Tryz.prog 32 #[.pointer (some ⟨a, 0, none⟩), .int .i64 d, .int .i64 z, .int .i64 off, .int .u32 mask] w fun e w' => e = .returned (.int .i64 (rotE s sts d z off mask)) ∧ AUpd U w w' a s (rotA s sts d z off mask) := by
  obtain ⟨v, Fs, ps, hB⟩ := h.out
  have HB := Lib.hid hB
  clear hB
  unfold rotA rotE
  by_cases hd : 0 ≤ d ∧ d < sts.length
  · rw [if_pos hd, if_pos hd]
    obtain ⟨k, rfl⟩ : ∃ k : Nat, d = k := ⟨d.toNat, by omega⟩
    obtain ⟨st, hst⟩ : ∃ st, sts[k]? = some st := ⟨_, List.getElem?_eq_getElem (by omega)⟩
    clear hd
    rw [Int.toNat_natCast, hst]
    dsimp only
    obtain ⟨p, hp, hD, hd⟩ := HB.out.p_at hst
    have HD := Lib.hid hD
    clear hD
    go_enter Tryz.func32, Tryz.ntmps32
    go_wp2_with fail
    refine (areach_in HB k hd hp).mono ?_
    rintro e w1 ⟨rfl, t1⟩
    have T1 := Lib.hid t1
    clear t1
    go_wp2_with fail
    refine (rot_exact (Lib.hid (HD.out.below T1.out)) z off mask).mono ?_
    rintro e w2 ⟨rfl, u2⟩
    have U2 := Lib.hid (show Upd (Fs k) w1 w2 p s (rtDA s st z off mask) from u2)
    clear u2
    go_wp2_with fail
    go_ret
    exact ⟨rfl, HB.out.upd2 T1.out hp U2.out⟩
  · rw [if_neg hd, if_neg hd]
    go_enter Tryz.func32, Tryz.ntmps32
    go_wp2_with fail
    refine (areach_out HB hk d hd).mono ?_
    rintro e w1 ⟨rfl, t1⟩
    go_wp2_with fail
    go_ret
    exact ⟨rfl, h.out.upd t1⟩
end
section
/-- As SMid, and none of X's blocks is the drives'. -/
def SMidX (X : Nat → Prop) (w0 w : World) (a cb bf k m n : Nat) (sts : List DSt) : Prop :=
  Below w0.heap.size w0 w ∧ (∃ U C, ArrAt U w a n sts ∧ CodF C w cb bf k m ∧ (∀ j, U j → w0.heap.size ≤ j) ∧ (∀ j, C j → ¬ U j ∧ j < w.heap.size) ∧ (∀ j, X j → ¬ U j ∧ j < w.heap.size)) ∧ sts.length = k + m ∧ 1 ≤ n ∧ n ≤ 600
/-- X's blocks are as they were. -/
def KpX (X : Nat → Prop) (w w' : World) : Prop := (∀ j, X j → w'.heap[j]? = w.heap[j]?) ∧ w.heap.size ≤ w'.heap.size
theorem KpX.refl {X : Nat → Prop} {w : World} : KpX X w w := ⟨fun _ _ => rfl, Nat.le_refl _⟩
theorem KpX.trans {X : Nat → Prop} {w w' w2 : World} (h : KpX X w w') (h2 : KpX X w' w2) : KpX X w w2 := ⟨fun j hj => (h2.1 j hj).trans (h.1 j hj), Nat.le_trans h.2 h2.2⟩
theorem KpX.mono {X Y : Nat → Prop} {w w' : World} (h : KpX X w w') (hy : ∀ j, Y j → X j) : KpX Y w w' := ⟨fun j hj => h.1 j (hy j hj), h.2⟩
theorem KpX.of_below {X : Nat → Prop} {w w' : World} (h : Below w.heap.size w w') (hx : ∀ j, X j → j < w.heap.size) : KpX X w w' := ⟨fun j hj => h.block j (hx j hj), h.size⟩
theorem KpX.box {X : Nat → Prop} {w w' : World} (h : KpX X w w') {b : Nat} {cs : Array Value} (hb : BoxAt w b cs) (hx : X b) : BoxAt w' b cs := hb.keep (h.1 b hx)
theorem KpX.rd {X : Nat → Prop} {w w' : World} (h : KpX X w w') {T : Type} {R : (Nat → Prop) → World → List Value → T → Prop} (hR : Stable R) {s : Nat} {S : Nat → Prop} {A : Option Addr} {g : Nat} {xs : List T} (r : RdL R s S w A g xs) (hx : ∀ j, S j → X j) : RdL R s S w' A g xs :=
  r.stable hR fun j hj _ => ⟨hj, h.1 j (hx j hj)⟩
section
variable {X Y : Nat → Prop} {w0 w w' : World} {a cb bf k m n : Nat} {sts : List DSt} {r : Ref}
theorem SMidX.mid (h : SMidX X w0 w a cb bf k m n sts) : SMid w0 w a cb bf k m n sts := by
  obtain ⟨hb, ⟨U, C, hA, hC, hU, hd, _⟩, hl, h1, h2⟩ := h
  exact ⟨hb, ⟨U, C, hA, hC, hU, hd⟩, hl, h1, h2⟩
theorem SMid.x0 (h : SMid w0 w a cb bf k m n sts) : SMidX (fun j => j < w0.heap.size) w0 w a cb bf k m n sts := by
  obtain ⟨U, C, hA, hC, hU, hd⟩ := h.ex
  exact ⟨h.bel, ⟨U, C, hA, hC, hU, hd, fun j hj => ⟨fun hu => by have := hU j hu; omega, Nat.lt_of_lt_of_le hj h.bel.size⟩⟩, h.len, h.n1, h.n2⟩
theorem SMidX.bel (h : SMidX X w0 w a cb bf k m n sts) : Below w0.heap.size w0 w := h.1
theorem SMidX.len (h : SMidX X w0 w a cb bf k m n sts) : sts.length = k + m := h.2.2.1
theorem SMidX.lt (h : SMidX X w0 w a cb bf k m n sts) {j : Nat} (hj : X j) : j < w.heap.size := by
  obtain ⟨_, ⟨U, C, _, _, _, _, hx⟩, _⟩ := h
  exact (hx j hj).2
theorem SMidX.sub (h : SMidX X w0 w a cb bf k m n sts) (hy : ∀ j, Y j → X j) : SMidX Y w0 w a cb bf k m n sts := by
  obtain ⟨hb, ⟨U, C, hA, hC, hU, hd, hx⟩, hl, h1, h2⟩ := h
  exact ⟨hb, ⟨U, C, hA, hC, hU, hd, fun j hj => hx j (hy j hj)⟩, hl, h1, h2⟩
/-- New blocks stay, too. -/
theorem SMidX.below (h : SMidX X w0 w a cb bf k m n sts) (hb : Below w.heap.size w w') : SMidX (fun j => X j ∨ (w.heap.size ≤ j ∧ j < w'.heap.size)) w0 w' a cb bf k m n sts := by
  obtain ⟨h0, ⟨U, C, hA, hC, hU, hd, hx⟩, hl, h1, h2⟩ := h
  refine ⟨h0.trans (hb.mono h0.size), ⟨U, C, hA.below hb, hC.below hb, hU, fun j hj => ⟨(hd j hj).1, Nat.lt_of_lt_of_le (hd j hj).2 hb.size⟩, fun j hj => ?_⟩, hl, h1, h2⟩
  rcases hj with hj | hj
  · exact ⟨(hx j hj).1, Nat.lt_of_lt_of_le (hx j hj).2 hb.size⟩
  · exact ⟨fun hu => by have := hA.lt hu; omega, hj.2⟩
theorem SMidX.below' (h : SMidX X w0 w a cb bf k m n sts) (hb : Below w.heap.size w w') : SMidX X w0 w' a cb bf k m n sts := (h.below hb).sub fun j hj => .inl hj
/-- A call that went on with the drives. -/
theorem SMidX.step {sts' : List DSt} {f : FuncId} {args : Array Value} {Q : Ending → World → Prop} (h : SMidX X w0 w a cb bf k m n sts) (hl : sts'.length = sts.length)
    (hc : ∀ U, ArrAt U w a n sts → (∀ j, U j → w0.heap.size ≤ j) → (∀ j, X j → ¬ U j ∧ j < w.heap.size) → Calls Tryz.prog f args w fun e w' => Q e w' ∧ AUpd U w w' a n sts') :
    Calls Tryz.prog f args w fun e w' => Q e w' ∧ SMidX X w0 w' a cb bf k m n sts' ∧ KpX X w w' := by
  obtain ⟨h0, ⟨U, C, hA, hC, hU, hd, hx⟩, hl0, h1, h2⟩ := h
  refine (hc U hA hU hx).mono ?_
  rintro e w' ⟨hq, U', hA', hU', hK⟩
  refine ⟨hq, ⟨h0.trans (hK.below h0.size hU), ⟨U', C, hA', hC.keep hK (fun j hj => (hd j hj).1), fun j hj => ?_, fun j hj => ⟨fun hu => (hd j hj).1 (hU' j hu (hd j hj).2), Nat.lt_of_lt_of_le (hd j hj).2 hK.size⟩, fun j hj => ⟨fun hu => (hx j hj).1 (hU' j hu (hx j hj).2), Nat.lt_of_lt_of_le (hx j hj).2 hK.size⟩⟩, by rw [hl, hl0], h1, h2⟩, fun j hj => hK.block j (hx j hj).2 (hx j hj).1, hK.size⟩
  by_cases hlt : j < w.heap.size
  · exact hU j (hU' j hj hlt)
  · have := h0.size; omega
theorem SMidX.cod (h : SMidX X w0 w a cb bf k m n sts) : CodAt w cb bf k m := h.mid.cod
theorem SMidX.pos (h : SMidX X w0 w a cb bf k m n sts) : 1 ≤ k ∧ 1 ≤ m ∧ k + m ≤ 255 ∧ 1 ≤ n ∧ n ≤ 600 := ⟨h.mid.k1, h.mid.m1, h.mid.km, h.2.2.2.1, h.2.2.2.2⟩
theorem rotA_len (s : Nat) (sts : List DSt) (d z off mask : Int) : (rotA s sts d z off mask).length = sts.length := by
  unfold rotA
  split
  · split <;> simp
  · rfl
end
theorem RdL.bound {X : Type} {R : (Nat → Prop) → World → List Value → X → Prop} (hR : Stable R) {s : Nat} {S : Nat → Prop} {w : World} {A : Option Addr} {n : Nat} {xs : List X} (h : RdL R s S w A n xs) : RdL R s (fun j => S j ∧ j < w.heap.size) w A n xs := h.stable hR fun j hj hl => ⟨⟨hj, hl⟩, rfl⟩
theorem cache_new {n N : Nat} : ∀ st ∈ newS n N, st.cache.length < 900000 := fun st hst => by
  obtain ⟨d, hd, rfl⟩ := List.mem_iff_getElem.1 hst
  rw [(newS_at (List.getElem?_eq_getElem hd)).1]
  show ([] : List (Int × List Int)).length < 900000
  decide
end
section
theorem cntP_congr {p q : Nat → Bool} {n : Nat} (h : ∀ d, d < n → p d = q d) : cntP p n = cntP q n := by
  unfold cntP
  rw [List.filter_congr fun x hx => h x (List.mem_range.1 hx)]
theorem cntP_none (n : Nat) : cntP (fun _ => false) n = 0 := by unfold cntP; rw [List.filter_eq_nil_iff.2 (fun a _ => by decide)]; rfl
theorem cntP_all (n : Nat) : cntP (fun _ => true) n = n := by unfold cntP; rw [List.filter_eq_self.2 (fun a _ => rfl), List.length_range]
theorem lost_gone {k n : Nat} {r : Ref} (hr : r.ok n) : LostS k r (DSt.gone n) := lost_zero (gone_seen hr.p)
end
section
/-- What became of a drive. -/
def HurtD (n z : Nat) (st st' : DSt) : Prop := st' = DSt.gone n ∨ ∃ off mask : Nat, off ≤ 60 ∧ mask ≠ 0 ∧ mask < 4294967296 ∧ st.dead = false ∧ st' = st.rot z off (mask : Int)
structure HurtS (n z : Nat) (sts : List DSt) (D : List Int) (sts' : List DSt) : Prop where
  len : sts'.length = sts.length
  all : ∀ (d : Nat) st st', sts[d]? = some st → sts'[d]? = some st' → ((d : Int) ∉ D ∧ st' = st) ∨ ((d : Int) ∈ D ∧ HurtD n z st st')
theorem HurtS.none (n z : Nat) (sts : List DSt) : HurtS n z sts [] sts := ⟨rfl, fun d st st' h h' => .inl ⟨by simp, (Option.some.inj (h.symm.trans h')).symm⟩⟩
theorem HurtS.at {n z : Nat} {sts sts' : List DSt} {D : List Int} (h : HurtS n z sts D sts') {x : Int} (hx : 0 ≤ x ∧ x < (sts.length : Int)) (hn : x ∉ D) : ∃ st, sts[x.toNat]? = some st ∧ sts'[x.toNat]? = some st := by
  have h1 : x.toNat < sts.length := by omega
  refine ⟨sts[x.toNat], List.getElem?_eq_getElem h1, ?_⟩
  have h2 : x.toNat < sts'.length := by rw [h.len]; exact h1
  rw [List.getElem?_eq_getElem h2]
  rcases h.all x.toNat _ _ (List.getElem?_eq_getElem h1) (List.getElem?_eq_getElem h2) with ⟨_, e⟩ | ⟨hd, _⟩
  · rw [e]
  · rw [show ((x.toNat : Nat) : Int) = x by omega] at hd
    exact absurd hd hn
theorem HurtS.next {n z : Nat} {sts sts' : List DSt} {D : List Int} (h : HurtS n z sts D sts') {x : Int} (hx : 0 ≤ x ∧ x < (sts.length : Int)) (hn : x ∉ D) {st st' : DSt} (hst : sts[x.toNat]? = some st) (hd : HurtD n z st st') : HurtS n z sts (D ++ [x]) (sts'.set x.toNat st') := by
  refine ⟨by rw [List.length_set, h.len], fun d s s' h1 h2 => ?_⟩
  by_cases e : x.toNat = d
  · subst e
    rw [List.getElem?_set_self (by rw [h.len]; omega)] at h2
    cases h2
    have : s = st := Option.some.inj (h1.symm.trans hst)
    subst this
    exact .inr ⟨by rw [show ((x.toNat : Nat) : Int) = x by omega]; simp, hd⟩
  · rw [List.getElem?_set_ne e] at h2
    rcases h.all d s s' h1 h2 with ⟨a, b⟩ | ⟨a, b⟩
    · exact .inl ⟨by simp [a]; omega, b⟩
    · exact .inr ⟨by simp [a], b⟩
end
section
theorem small_nat {k m s : Int} (h : smallB k m s = true) : ∃ k' m' s' : Nat, k = k' ∧ m = m' ∧ s = s' ∧ 1 ≤ k' ∧ 1 ≤ m' ∧ k' + m' ≤ 10 ∧ 1 ≤ s' ∧ s' ≤ 8 := by
  have := of_decide_eq_true h
  exact ⟨k.toNat, m.toNat, s.toNat, by omega, by omega, by omega, by omega, by omega, by omega, by omega, by omega⟩
theorem ref3_ok {p g n : Nat} (h : p < n) : Ref.ok ⟨3, p, g⟩ n := ⟨(by decide : 1 ≤ 3), (by decide : 3 ≤ 4), h⟩
end
section
theorem cell_rot {st : DSt} {n z : Nat} (hc : st.cache = []) (hok : st.ok n) (hz : z < n) (off : Nat) (mask : Int) : (st.rot z off mask).seen z = rotTo (st.seen z) off mask 4 := by
  rw [DSt.seen_nil (st := st.rot z off mask) hc, DSt.seen_nil hc]
  show ((st.stored.set z (rotTo ((st.stored[z]?).getD []) off mask 4))[z]?).getD [] = _
  rw [List.getElem?_set_self (by rw [hok.sl]; exact hz)]; rfl
end
section
theorem wrS_congr {n size : Nat} {r : Ref} {wh wh2 : Nat → Bool} {rw rw2 : Nat → List Nat} {sts : List DSt} : ∀ i, (∀ j, j < i → wh j = wh2 j ∧ rw j = rw2 j) → wrS n r size wh rw sts i = wrS n r size wh2 rw2 sts i
  | 0, _ => rfl
  | i + 1, h => by
    have ih := wrS_congr (n := n) (size := size) (r := r) (sts := sts) i (fun j hj => h j (by omega))
    obtain ⟨h1, h2⟩ := h i (by omega)
    rw [wrS, wrS, ih, h1, h2]
def mendQ (g : Nat → Bool) (n k N : Nat) (r : Ref) (xs : List Nat) (d : Nat) (st : DSt) : DSt := if g d = true then st else putQ n k N r xs d st
theorem amend_std {U : Nat → Prop} {w : World} {a cb bf k m n : Nat} {sts : List DSt} {r : Ref} {g : Nat → Bool} {xs : List Nat} (hA : ArrAt U w a n sts) (HC : CodAt w cb bf k m) (hlen : sts.length = k + m) (hn6 : n ≤ 600) (hr : r.ok n) (hg : Hid (r.gen < 2 ^ 64)) (hx : Byt xs) (hl : xs.length ≤ k * 44)
    (hcl : ∀ st ∈ sts, st.cache.length < 900000) (hen : k ≤ cntP g (k + m))
    (hc : ∀ d st, sts[d]? = some st → (g d = true ∧ HasS k (k + m) r xs d st) ∨ (g d = false ∧ LostS k r st)) :
    Calls Tryz.prog 85 #[.pointer (some ⟨a, 0, none⟩), .pointer (some ⟨cb, 0, none⟩), .agg (refC r)] w fun e w' => e = .returned (.tuple #[.int .i64 (cntP (fun d => !g d && !deadL sts d) (k + m) : Nat), .int .i64 0]) ∧ AUpd U w w' a n (sts.mapIdx (mendQ g n k (k + m) r xs)) := by
  have hk1 := HC.k1
  have hkm := HC.km
  obtain ⟨v1, v2⟩ := view_of (N := k + m) hr (by omega) hg hx (by omega) hl (by omega) (by omega) hlen hc
  obtain ⟨e1, e2⟩ := std_whole (P := fun i => g (homeN (k + m) r.place i)) v2
  have hcn : cntP (fun i => g (homeN (k + m) r.place i)) (k + m) = cntP g (k + m) := home_count (by omega) g
  have hcl2 : (wholeF (stR sts k r) (k + m)).1.length = cntP g (k + m) := by rw [e1, stdL_len]; exact hcn
  have e3 := e2 (by rw [hcn]; omega)
  have hD := splF_shp (width := 44) hx k
  refine (smend_any hA HC hlen hr (by omega) hg hcl (rdOk_of v1)).mono ?_
  rintro e w' (⟨hlt, _⟩ | ⟨_, he, hu⟩)
  · omega
  have hcg : wrS n r (wholeF (stR sts k r) (k + m)).2 (mendW (stR sts k r) (k + m)) (mendR (stR sts k r) k (k + m)) sts (k + m) = wrS n r xs.length (fun i => !g (homeN (k + m) r.place i)) (codeRow k 44 (splF 44 xs k k)) sts (k + m) := by
    rw [e3]
    refine wrS_congr (k + m) fun j hj => ⟨?_, ?_⟩
    · unfold mendW
      rw [e1, stdL_look]
      cases hgj : g (homeN (k + m) r.place j) with
      | true => rw [if_pos ⟨hj, rfl⟩]; rfl
      | false => rw [if_neg (by simp)]; rfl
    · unfold mendR
      rw [e1, stdL_rows, out_std (m := m) hD (by omega) hk1 hkm (by unfold cntP at hen hcn; omega) (Nat.le_refl _), allR_ra hj]
  rw [hcg] at he hu
  have hN : 1 ≤ sts.length := by omega
  rw [← hlen, wrS_taken hN] at he
  rw [← hlen, wrS_map hN] at hu
  rw [← hlen] at *
  constructor
  · rw [he]
    have h1 := home_count (n := sts.length) (p := r.place) hN (fun d => !g d && !deadL sts d)
    unfold cntP
    rw [← h1]
  · have e4 : sts.mapIdx (wrG n r xs.length (fun i => !g (homeN sts.length r.place i)) (codeRow k 44 (splF 44 xs k k)) sts.length) = sts.mapIdx (mendQ g n k sts.length r xs) := by
      apply List.ext_getElem?
      intro d
      rw [List.getElem?_mapIdx, List.getElem?_mapIdx]
      cases hd : sts[d]? with
      | none => rfl
      | some st =>
        have hdl := (List.getElem?_eq_some_iff.1 hd).1
        show some _ = some _
        congr 1
        unfold wrG mendQ putQ wrG
        dsimp only
        simp only [home_ix hN hdl]
        cases hgd : g d with
        | true => rfl
        | false => rfl
    rw [e4] at hu
    exact hu
/-! ### Drives that are flushed, replaced, mended -/
theorem mend_all {n k N : Nat} {r : Ref} (hr : r.ok n) {xs : List Nat} (hx : Byt xs) {g : Nat → Bool} {sts : List DSt} (h : ∀ d st, sts[d]? = some st → st.dead = false ∧ ((g d = true ∧ HasS k N r xs d st) ∨ (g d = false ∧ LostS k r st))) :
    ∀ d st, (sts.mapIdx (mendQ g n k N r xs))[d]? = some st → HasS k N r xs d st := by
  intro d st hd
  obtain ⟨s1, h1, rfl⟩ := mapIdx_at hd
  obtain ⟨hl, h2⟩ := h d s1 h1
  unfold mendQ
  rcases h2 with ⟨a, b⟩ | ⟨a, b⟩
  · rw [if_pos a]; exact b
  · rw [if_neg (by rw [a]; decide)]; exact has_put hr hx hl
theorem mend_none {n k N : Nat} {r : Ref} {xs : List Nat} (sts : List DSt) : sts.mapIdx (mendQ (fun _ => true) n k N r xs) = sts := by
  apply List.ext_getElem?
  intro d
  rw [List.getElem?_mapIdx]
  cases sts[d]? with
  | none => rfl
  | some st => rfl
end
section
/-- Which drives have their shard of a stripe; the others lost it. -/
def Hds (g : Nat → Bool) (k N : Nat) (r : Ref) (xs : List Nat) (sts : List DSt) : Prop := ∀ (d : Nat) (st : DSt), sts[d]? = some st → (g d = true ∧ HasS k N r xs d st) ∨ (g d = false ∧ LostS k r st)
theorem Hds.congr {g g' : Nat → Bool} {k N : Nat} {r : Ref} {xs : List Nat} {sts : List DSt} (h : Hds g k N r xs sts) (hg : ∀ d, d < sts.length → g' d = g d) : Hds g' k N r xs sts := fun d st hd => by
  rw [hg d (List.getElem?_eq_some_iff.1 hd).1]
  exact h d st hd
theorem lost_seen {k : Nat} {r : Ref} {st st' : DSt} (h : LostS k r st) (hs : st'.seen r.place = st.seen r.place) (hd : st'.dead = st.dead) : LostS k r st' := by
  refine ⟨by rw [hs]; exact h.1, fun i => ?_⟩
  have h2 := h.2 i
  unfold rdS secN at h2 ⊢
  rw [hs, hd]
  exact h2
/-- A place that isn't touched. -/
theorem Hds.map {g : Nat → Bool} {k N : Nat} {r : Ref} {xs : List Nat} {sts : List DSt} (h : Hds g k N r xs sts) {f : Nat → DSt → DSt} (hs : ∀ d st, sts[d]? = some st → (f d st).seen r.place = st.seen r.place ∧ (f d st).dead = st.dead) : Hds g k N r xs (sts.mapIdx f) := fun d st hd => by
  obtain ⟨s1, h1, rfl⟩ := mapIdx_at hd
  obtain ⟨a, b⟩ := hs d s1 h1
  rcases h d s1 h1 with ⟨e, x, y⟩ | ⟨e, x⟩
  · exact .inl ⟨e, by rw [b]; exact x, by rw [a]; exact y⟩
  · exact .inr ⟨e, lost_seen x a b⟩
theorem Hds.put {g : Nat → Bool} {n k N : Nat} {r q : Ref} {xs ys : List Nat} {sts : List DSt} (h : Hds g k N r xs sts) (hq : q.ok n) (hy : Byt ys) (hne : q.place ≠ r.place) {M : Nat} : Hds g k N r xs (sts.mapIdx (putQ n k M q ys)) :=
  h.map fun d st _ => by
    cases hd : st.dead with
    | true => rw [putQ_dead hd]; exact ⟨rfl, hd⟩
    | false =>
      rw [putQ_live hq hy hd]
      exact ⟨by rw [DSt.seen_write, if_neg (by omega)], hd⟩
/-- What was just put: those drives have it that live. -/
theorem Hds.new {n k N : Nat} {r : Ref} {xs : List Nat} {sts : List DSt} (hr : r.ok n) (hx : Byt xs) (hv : ∀ st ∈ sts, st.dead = true → GoodV (st.seen r.place)) : Hds (fun d => !deadL sts d) k N r xs (sts.mapIdx (putQ n k N r xs)) := fun d st hd => by
  obtain ⟨s1, h1, rfl⟩ := mapIdx_at hd
  have e : deadL sts d = s1.dead := by unfold deadL; rw [h1]; rfl
  dsimp only
  rw [e]
  cases hdd : s1.dead with
  | true => exact .inr ⟨rfl, by rw [putQ_dead hdd]; exact lost_dead hdd (hv s1 (List.mem_of_getElem? h1) hdd)⟩
  | false => exact .inl ⟨rfl, has_put hr hx hdd⟩
theorem flushG_dead (st : DSt) : (flushG st).dead = st.dead := by
  unfold flushG
  split <;> rfl
theorem flushG_seen {st : DSt} {n z : Nat} (hok : st.ok n) (hz : z < n) : (flushG st).seen z = st.seen z := by
  unfold flushG
  split
  · exact hok.seen_flush hz
  · rfl
theorem flushG_ok {st : DSt} {n : Nat} (hok : st.ok n) : (flushG st).ok n := by
  unfold flushG
  split
  · exact hok.settle _
  · exact hok
theorem Hds.flush {g : Nat → Bool} {n k N : Nat} {r : Ref} {xs : List Nat} {sts : List DSt} (h : Hds g k N r xs sts) (hr : r.ok n) (hok : ∀ st ∈ sts, st.ok n) : Hds g k N r xs (sts.map flushG) := by
  have e : sts.map flushG = sts.mapIdx (fun _ st => flushG st) := by
    apply List.ext_getElem?
    intro d
    rw [List.getElem?_map, List.getElem?_mapIdx]
  rw [e]
  exact h.map fun d st hd => ⟨flushG_seen (hok st (List.mem_of_getElem? hd)) hr.p, flushG_dead st⟩
theorem Hds.set {g g' : Nat → Bool} {k N : Nat} {r : Ref} {xs : List Nat} {sts : List DSt} (h : Hds g k N r xs sts) {x : Nat} {st' : DSt} (hg : ∀ d, d ≠ x → g' d = g d) (hx : x < sts.length → (g' x = true ∧ HasS k N r xs x st') ∨ (g' x = false ∧ LostS k r st')) : Hds g' k N r xs (sts.set x st') := fun d st hd => by
  by_cases e : x = d
  · subst e
    have hl := (List.getElem?_eq_some_iff.1 hd).1
    rw [List.length_set] at hl
    rw [List.getElem?_set_self hl] at hd
    obtain rfl := Option.some.inj hd
    exact hx hl
  · rw [List.getElem?_set_ne e] at hd
    rw [hg d (fun h => e h.symm)]
    exact h d st hd
def butB (g : Nat → Bool) (x : Int) (d : Nat) : Bool := g d && !decide ((d : Int) = x)
theorem Hds.fail {g : Nat → Bool} {n k N : Nat} {r : Ref} {xs : List Nat} {sts : List DSt} (h : Hds g k N r xs sts) (hr : r.ok n) (x : Int) : Hds (butB g x) k N r xs (failA n sts x) := by
  unfold failA
  split
  · rename_i hx
    refine h.set (fun d hd => ?_) fun hl => .inr ⟨?_, lost_gone hr⟩
    · unfold butB
      rw [decide_eq_false (by omega)]; simp
    · unfold butB
      rw [decide_eq_true (by omega)]; simp
  · rename_i hx
    refine h.congr fun d hd => ?_
    unfold butB
    rw [decide_eq_false (by omega)]; simp
end
section
def Frs (st : DSt) : Prop := ∀ b ∈ st.rotten, b = false
theorem frs_put {n k N d : Nat} {r : Ref} (hr : r.ok n) {xs : List Nat} (hx : Byt xs) {st : DSt} (h : Frs st) : Frs (putQ n k N r xs d st) := by
  cases hd : st.dead with
  | true => rw [putQ_dead hd]; exact h
  | false => rw [putQ_live hr hx hd]; exact h
theorem frs_flush {st : DSt} (h : Frs st) : Frs (flushG st) := by
  unfold flushG
  split
  · exact freshL_false _ _ _ _ h
  · exact h
/-- A drive that lives, with nothing under way and nothing spoilt. -/
structure Sld (n : Nat) (st : DSt) : Prop where
  live : st.dead = false
  ok : st.ok n
  cache : st.cache = []
  frs : Frs st
theorem sld_flush {n : Nat} {st : DSt} (h : st.dead = false) (hok : st.ok n) (hf : Frs st) : Sld n (flushG st) := ⟨by rw [flushG_dead]; exact h, flushG_ok hok, by unfold flushG; rw [if_pos h]; rfl, frs_flush hf⟩
theorem cell_rot2 {st : DSt} {z z' : Nat} (hc : st.cache = []) (hne : z' ≠ z) (off : Nat) (mask : Int) : (st.rot z off mask).seen z' = st.seen z' := by
  rw [DSt.seen_nil (st := st.rot z off mask) hc, DSt.seen_nil hc]
  show ((st.stored.set z (rotTo ((st.stored[z]?).getD []) off mask 4))[z']?).getD [] = _
  rw [List.getElem?_set_ne (fun e => hne e.symm)]
end
end Go.Proofs.YtihnlhfngmbglaaGreat
