/-
  How the data comes of k shards.
  The factors by which a shard is the sum of k others.
  A shard as the sum of others; which shards there are.
  Which shards there are, and whether they are alike.
  The numbers of the shards that have bytes, or why they aren't enough.
  The first rows of shards, those that are missing made anew.
  Whether all are shards' numbers, and none stands twice.
  A list, rising.
  Plan: by which shards and factors a shard comes of others.
  Any k rows of the code tell the data: plain.
  The coder's parity.
  Data and parity.
-/
import Derived.Test.YtihnlhfngmbglaaGreatLg5
import Derived.Test.YtihnlhfngmbglaaGreatLg2
set_option linter.unusedSimpArgs false
set_option linter.unusedVariables false
namespace Go.Proofs.YtihnlhfngmbglaaGreat
open Go.RowKit Go.Cib
attribute [local go_sem] cell_set Later.cell Later.frozen Grw.cell Grw.frozen
section

/-- A number that is not below nought. -/
def NatR (_ : Nat → Prop) (_ : World) (cs : List Value) (x : Nat) : Prop := cs = [.int .i64 (x : Int)]
theorem NatR.stable : Stable NatR := fun _ _ _ _ _ _ h _ => h
theorem NatR.one : ∀ S w cs x, NatR S w cs x → ∀ u ∈ cs, u.oneCell' = true := by
  rintro S w cs x rfl u hu
  simp at hu
  subst hu; rfl
theorem nat_at {S : Nat → Prop} {w : World} {b o n : Nat} {xs : List Nat} (h : RdL NatR 1 S w (some ⟨b, o, none⟩) n xs) {k : Nat} (hk : k < n) : w.cell? ⟨b, o + k, none⟩ = some (.int .i64 (gt xs k : Int)) := by
  obtain ⟨hl, cs, _, rfl, h2⟩ := h.at hk
  have e : gt xs k = xs[k] := Option.some.inj ((gt_of_lt hl).symm.trans (List.getElem?_eq_getElem hl))
  rw [e]
  have := h2 0 _ rfl
  rwa [Nat.mul_one, Nat.add_zero] at this
def useF (k : Nat) (us : List Nat) : Rws := us.map (rowF k)
theorem useF_shp {k n : Nat} {us : List Nat} (h : us.length = n) : Shp n k (useF k us) := ⟨by unfold useF; simpa using h, fun r hr => by
  obtain ⟨i, _, rfl⟩ := List.mem_map.1 hr
  exact ⟨rowF_len k i, rowF_byt k i⟩⟩
theorem useF_take {k j : Nat} {us : List Nat} (hj : j < us.length) : (useF k (us.take (j + 1))).flatten = (useF k (us.take j)).flatten ++ rowF k (gt us j) := by
  unfold useF
  rw [take_gt hj, List.map_append, List.flatten_append]; simp
set_option maxRecDepth 100000 in
set_option maxHeartbeats 8000000 in
theorem inverse_any {w : World} {cb b k m c : Nat} {A : Option Addr} {S : Nat → Prop} {us : List Nat} (H : CodAt w cb b k m) (R : RdL NatR 1 S w A k us) (hus : ∀ u ∈ us, u < k + m) (hI : Inj k (useF k us)) :
    Calls Tryz.prog 207 #[.pointer (some ⟨cb, 0, none⟩), .slice A k c] w fun e w' => ∃ A' c', e = .returned (.tuple #[.agg #[.int .i64 (k : Int), .int .i64 (k : Int), .slice A' (k * k) c'], .int .i64 0]) ∧ k * k ≤ c' ∧
      RdL ByR 1 (fun j => w.heap.size ≤ j) w' A' (k * k) (mkF (invE (useF k us) k) k k).flatten ∧ Below w.heap.size w w' := by
  have HC := Lib.hid H
  have HR := Lib.hid R
  have hul := R.1
  have hk1 := H.k1
  have hm1 := H.m1
  have hkm := H.km
  have q0 : (0 : Int) ≤ (k : Int) := Int.natCast_nonneg _
  have q1 : (k : Int) ≤ 255 := by omega
  have hkk : k * k ≤ 65025 := Nat.mul_le_mul (by omega : k ≤ 255) (by omega : k ≤ 255)
  have hK := fun w' h => ck_any (w := w') (HC.out.below h)
  clear H R
  go_enter Tryz.func207, Tryz.ntmps207
  go_wp2_with (go_at_call 88; refine (hK _ (by repeat (first | (with_reducible exact Below.refl _ _) | (with_reducible assumption) | (with_reducible refine Below.drew ?_) | (with_reducible refine Below.setCell ?_ ?_ _) | (with_reducible refine Below.alloc ?_ ?_ _) | (with_reducible refine Below.later ?_ ?_ _) | (first | (with_reducible exact Nat.le_refl _) | omega | (simp only [World.size_alloc, World.size_setCell, World.size_drew] <;> omega))))).mono ?_; rintro e w9 ⟨rfl, hw9⟩; rw [hw9]; clear hw9)
  have hi0 : FilI w ((w.alloc (.cells #[.int .i64 0, .int .i64 0, .slice none 0 0] 181)).alloc (.cells #[.int .i64 (k : Int), .int .i64 (k : Int), .slice none 0 0] 181)) w.heap.size (w.heap.size + 1) k k 0 none 0 (useF k (us.take 0)).flatten := by
    have e := BoxAt.new (w.alloc (.cells #[.int .i64 0, .int .i64 0, .slice none 0 0] 181)) #[.int .i64 (k : Int), .int .i64 (k : Int), .slice none 0 0] 181
    rw [World.size_alloc] at e
    exact ⟨OwnL.nil_, e, (BoxAt.new w _ _).alloc _, (by intro h; cases h), (by intro h; cases h), by omega, Nat.le_refl _, by omega, (by repeat (first | (with_reducible exact Below.refl _ _) | (with_reducible assumption) | (with_reducible refine Below.drew ?_) | (with_reducible refine Below.setCell ?_ ?_ _) | (with_reducible refine Below.alloc ?_ ?_ _) | (with_reducible refine Below.later ?_ ?_ _) | (first | (with_reducible exact Nat.le_refl _) | omega | (simp only [World.size_alloc, World.size_setCell, World.size_drew] <;> omega))))⟩
  have HI0 := Lib.hid hi0
  clear hi0
  generalize ((w.alloc (.cells #[.int .i64 0, .int .i64 0, .slice none 0 0] 181)).alloc (.cells #[.int .i64 (k : Int), .int .i64 (k : Int), .slice none 0 0] 181)) = wA at *
  go_loopw [16] (fun vi wr => ∃ (i : Nat) (A : Option Addr) (c : Nat), i ≤ k ∧ vi = .int .i64 i ∧ Hid (FilI w wr w.heap.size (w.heap.size + 1) k k (i * k) A c (useF k (us.take i)).flatten)) (fun vi _ => k - (intOf vi).toNat)
  case atStart => exact ⟨0, none, 0, Nat.zero_le _, rfl, by rw [Nat.zero_mul]; exact HI0⟩
  case round =>
    clear HI0
    obtain ⟨i, AR, cR, hi, rfl, HI⟩ := hrel
    have p0 : (0 : Int) ≤ (i : Int) := Int.natCast_nonneg _
    by_cases hlt : i < k
    · have p1 : (i : Int) < (k : Int) := by omega
      obtain ⟨bb, o, rfl, _, hbb⟩ := HR.out.addr hlt
      have c1 := (HI.out.bel.cell (p := ⟨bb, o + i, none⟩) hbb).trans (nat_at HR.out hlt)
      have hD := HI.out.below (w2 := wr.drew) (Below.refl _ _).drew
      have hrow := crow_any (HC.out.below hD.bel) (i := gt us i) (hus _ (gt_mem (by omega)))
      have s1 : wr.drew.cell? ⟨w.heap.size + 1, 2, none⟩ = some (.slice AR (i * k) cR) := hD.bq.cell 2
      have hsum : i * k + k ≤ 65025 := by
        have := Nat.mul_le_mul (show i + 1 ≤ k from hlt) (Nat.le_refl k)
        rw [Nat.succ_mul] at this
        omega
      have hut := useF_take (k := k) (us := us) (j := i) (by omega)
      have HD := Lib.hid hD
      have HUT := Lib.hid hut
      clear hD hut
      go_wp2_with fail
      refine wp_region_L (S := fun w' => w'.cell? ⟨w.heap.size + 1, 2, none⟩ = some (.slice AR (i * k) cR)) [7] (by kernel_rfl) (by first | exact s1 | exact s2 | exact s3) (fun hHeld => ?_)
      refine tkL 0 rfl ?_
      refine tkL 1 rfl ?_
      refine tkL 2 rfl ?_
      refine tkL 3 rfl ?_
      refine rdL 4 rfl fun K hK => ?_
      try simp (maxSteps := 2000000) only [zz1, zz2, zz3]
      go_simp
      go_at_call 177
      refine hrow.mono ?_
      rintro e w2 ⟨g, rfl, hr2, hb2⟩
      have hD2 := HD.out.below hb2
      have s2 : w2.cell? ⟨w.heap.size + 1, 2, none⟩ = some (.slice AR (i * k) cR) := hD2.bq.cell 2
      have HD2 := Lib.hid hD2
      have HR2 := Lib.hid hr2
      clear hrow hb2 hD2 hr2
      try (go_wp2_with fail)
      refine hK.out _ _ (by first | exact s1 | exact s2 | exact s3) (fun hHeld => ?_)
      clear hK K
      try simp (maxSteps := 2000000) only [zz1, zz2, zz3, Act.put, zz4, zz5, zz6]
      refine rdL 5 rfl fun K hK => ?_
      refine step_law (by rfl) (wpList_appL ByR.stable ByR.one sl_by (by rfl) (by rfl) (base := w.heap.size + 1) (S := fun _ => True) (by rfl) HD2.out.own (by rfl) HR2.out (fun _ _ h => h) (by unfold maxLen; omega) (by omega) HD2.out.br.lt ?_)
      intro A7 c7 w7 hc7 hown7 hg7 hat7
      refine And.intro rfl ?_
      have B9 := HD2.out.bq.grw hg7 HD2.out.nq
      have s3 : w7.cell? ⟨w.heap.size + 1, 2, none⟩ = some (.slice AR (i * k) cR) := B9.cell 2
      have f3 := B9.frozen 2
      have hp7 := HD2.out.appended hg7 hown7 hat7
      rw [← HUT.out] at hp7
      have hp8 : FilI w (w7.setCell ⟨w.heap.size + 1, 2, none⟩ (.slice A7 (i * k + k) c7)) w.heap.size (w.heap.size + 1) k k ((i + 1) * k) A7 c7 (useF k (us.take (i + 1))).flatten := by rw [Nat.succ_mul]; exact hp7
      have HP8 := Lib.hid hp8
      clear B9 hp7 hp8 hown7 hg7 hat7
      refine hK.out _ _ (by first | exact s1 | exact s2 | exact s3) (fun hHeld => ?_)
      clear hK K
      try simp (maxSteps := 2000000) only [zz1, zz2, zz3, Act.put, zz4, zz5, zz6]
      refine tkL 6 rfl ?_
      refine lsL 7 rfl fun K hK => ?_
      try simp (maxSteps := 2000000) only [zz1, zz2, zz3]
      go_simp
      refine hK.out _ _ ?_
      clear hK K
      try simp (maxSteps := 2000000) only [zz1, zz2, zz3, Act.put, zz4, zz5, zz6]
      refine wpAnyL_done (by kernel_rfl) ?_ _
      clear s1 s2 s3 f3 hHeld
      go_wp2_with fail
      exact ⟨⟨i + 1, A7, c7, by omega, by go_num, HP8⟩, by simp [intOf]; omega⟩
    · have p1 : ¬ (i : Int) < (k : Int) := by omega
      obtain rfl : i = k := by omega
      have hD := HI.out.below (w2 := wr.drew) (Below.refl _ _).drew
      have hF := cfield_any (HC.out.below hD.bel)
      rw [← hul, List.take_length, hul] at hD
      obtain ⟨A', c', e1, hc', hr'⟩ := hD.own.rd (S' := fun _ => True) (fun _ _ => trivial) (fun cs x hx => hx)
      injection e1 with e1 _ e2
      subst e1; subst e2
      have hiv := invert_any (HC.out.below hD.bel).fld (useF_shp hul) hI hk1 (by omega) hr' hc'
      have s1 : wr.drew.cell? ⟨w.heap.size + 1, 0, none⟩ = some (.int .i64 i) ∧ wr.drew.cell? ⟨w.heap.size + 1, 1, none⟩ = some (.int .i64 i) ∧ wr.drew.cell? ⟨w.heap.size + 1, 2, none⟩ = some (.slice AR (i * i) cR) := ⟨hD.bq.cell 0, hD.bq.cell 1, hD.bq.cell 2⟩
      have hlr := hD.br.lt
      have HD := Lib.hid hD
      clear hD hr'
      go_wp2_with fail
      refine wp_region_L (S := fun w' => w'.cell? ⟨w.heap.size + 1, 0, none⟩ = some (.int .i64 i) ∧ w'.cell? ⟨w.heap.size + 1, 1, none⟩ = some (.int .i64 i) ∧ w'.cell? ⟨w.heap.size + 1, 2, none⟩ = some (.slice AR (i * i) cR)) [6, 7] (by kernel_rfl) (by first | exact s1 | exact s2) (fun hHeld => ?_)
      refine tkL 0 rfl ?_
      refine tkL 2 rfl ?_
      refine rdL 1 rfl fun K hK => ?_
      try simp (maxSteps := 2000000) only [zz1, zz2, zz3]
      go_simp
      go_at_call 209
      refine hF.mono ?_
      rintro e w9 ⟨rfl, hw9⟩
      rw [hw9]
      clear hw9 hF
      try (go_wp2_with fail)
      refine hK.out _ _ (by first | exact s1 | exact s2) (fun hHeld => ?_)
      clear hK K
      try simp (maxSteps := 2000000) only [zz1, zz2, zz3, Act.put, zz4, zz5, zz6]
      refine rdL 3 rfl fun K hK => ?_
      try simp (maxSteps := 2000000) only [zz1, zz2, zz3]
      go_simp
      go_at_call 236
      refine hiv.mono ?_
      rintro e w2 ⟨A2, c2, rfl, hc2, hr2, hb2⟩
      have hD2 := HD.out.below hb2
      have s2 : w2.cell? ⟨w.heap.size + 1, 0, none⟩ = some (.int .i64 i) ∧ w2.cell? ⟨w.heap.size + 1, 1, none⟩ = some (.int .i64 i) ∧ w2.cell? ⟨w.heap.size + 1, 2, none⟩ = some (.slice AR (i * i) cR) := ⟨hD2.bq.cell 0, hD2.bq.cell 1, hD2.bq.cell 2⟩
      have g0 := hD2.br.cell 0
      have g1 := hD2.br.cell 1
      have g2 := hD2.br.cell 2
      have f0 := hD2.br.frozen 0
      have f1 := hD2.br.frozen 1
      have f2 := hD2.br.frozen 2
      have HD2 := Lib.hid hD2
      have HR2 := Lib.hid hr2
      clear hiv hb2 hD2 hr2
      try (go_wp2_with fail)
      refine hK.out _ _ (by first | exact s1 | exact s2) (fun hHeld => ?_)
      clear hK K
      try simp (maxSteps := 2000000) only [zz1, zz2, zz3, Act.put, zz4, zz5, zz6]
      refine tkL 4 rfl ?_
      refine tkL 5 rfl ?_
      refine lsL 6 rfl fun K hK => ?_
      try simp (maxSteps := 2000000) only [zz1, zz2, zz3]
      go_simp
      refine hK.out _ _ ?_
      clear hK K
      try simp (maxSteps := 2000000) only [zz1, zz2, zz3, Act.put, zz4, zz5, zz6]
      refine lsL 7 rfl fun K hK => ?_
      try simp (maxSteps := 2000000) only [zz1, zz2, zz3]
      go_simp
      refine hK.out _ _ ?_
      clear hK K
      try simp (maxSteps := 2000000) only [zz1, zz2, zz3, Act.put, zz4, zz5, zz6]
      refine wpAnyL_done (by kernel_rfl) ?_ _
      go_wp2_with fail
      refine bodyPost_ret (v := .tuple #[.agg #[.int .i64 (i : Int), .int .i64 (i : Int), .slice A2 (i * i) c2], .int .i64 0]) (by simp [results, Tryz.results207, go_sem, *]) rfl ?_
      have hs := HD.out.bel.size
      refine ⟨A2, c2, rfl, hc2, ?_, ?_⟩
      · refine RdL.weaken ByR.stable (S := fun k => wr.drew.heap.size ≤ k) ?_ (fun k hk => Nat.le_trans hs hk)
        repeat (first | exact HR2.out | refine RdL.setCell ByR.stable ?_ (show ¬ wr.drew.heap.size ≤ _ by dsimp only; omega) _)
      · repeat (first | exact HD2.out.bel | refine Below.setCell ?_ (by dsimp only; omega) _)
end
section

def planF (k : Nat) (us : List Nat) (want : Nat) : List Nat := combF (rowF k want) (mkF (invE (useF k us) k) k k) (List.replicate k 0)
theorem inv_shp {k : Nat} {us : List Nat} (hl : us.length = k) (hI : Inj k (useF k us)) : Shp k k (mkF (invE (useF k us) k) k k) := mkF_shp fun i j hi hj => gt_lt ((eliR_ok (useF_shp hl) hI).2.1.shp.row hi).2 _
set_option maxRecDepth 100000 in
set_option maxHeartbeats 8000000 in
theorem plan_any {w : World} {cb b k m c : Nat} {A : Option Addr} {S : Nat → Prop} {us : List Nat} (H : CodAt w cb b k m) (R : RdL NatR 1 S w A k us) (hus : ∀ u ∈ us, u < k + m) (hI : Inj k (useF k us)) {want : Nat} (hw : want < k + m) :
    Calls Tryz.prog 174 #[.pointer (some ⟨cb, 0, none⟩), .slice A k c, .int .i64 (want : Int)] w fun e w' => ∃ A' c', e = .returned (.tuple #[.slice A' k c', .int .i64 0]) ∧ k ≤ c' ∧
      RdL ByR 1 (fun j => w.heap.size ≤ j) w' A' k (planF k us want) ∧ Below w.heap.size w w' := by
  have HC := Lib.hid H
  have HR := Lib.hid R
  have hul := R.1
  have hk1 := H.k1
  have hm1 := H.m1
  have hkm := H.km
  have q0 : (0 : Int) ≤ (k : Int) := Int.natCast_nonneg _
  have q1 : (k : Int) ≤ 255 := by omega
  have hiv := inverse_any (c := c) H R hus hI
  clear H R
  go_enter Tryz.func174, Tryz.ntmps174
  go_wp2_with fail
  refine hiv.mono ?_
  rintro e w1 ⟨A1, c1, rfl, hc1, hr1, hb1⟩
  have hbe : Below w1.heap.size w1 (w1.alloc (.cells #[.int .i64 (k : Int), .int .i64 (k : Int), .slice A1 (k * k) c1] 181)) := (Below.refl _ _).alloc (Nat.le_refl _) _
  have hbx := BoxAt.new w1 #[.int .i64 (k : Int), .int .i64 (k : Int), .slice A1 (k * k) c1] 181
  have hs1 := hb1.size
  go_wp2_with fail
  generalize w1.alloc (.cells #[.int .i64 (k : Int), .int .i64 (k : Int), .slice A1 (k * k) c1] 181) = w2 at *
  obtain ⟨xb, hxb⟩ : ∃ xb, w1.heap.size = xb := ⟨_, rfl⟩
  have hbw2 := hb1.trans (hbe.mono hs1)
  have hr2 := hr1.below ByR.stable hbe
  refine (crow_any (HC.out.below hbw2) hw).mono ?_
  rintro e w3 ⟨g, rfl, hr3, hb3⟩
  have hbw3 := hbw2.trans (hb3.mono hbw2.size)
  have hx3 := hbx.below hb3
  have hr4 := hr2.below ByR.stable hb3
  rw [hxb] at hx3 ⊢
  have hC3 := HC.out.below hbw3
  have hF := cfield_any hC3
  have hmu := fun w' (hb : Below w3.heap.size w3 w') => mmul_any (w := w') (r := 1) (c1 := k) (c2 := c1) (S := fun _ => True) (hC3.below hb).fld (U := [rowF k want]) (B := mkF (invE (useF k us) k) k k) (n := k) (m := k) ⟨rfl, fun r hr => by rw [List.mem_singleton.1 hr]; exact ⟨rowF_len _ _, rowF_byt _ _⟩⟩ (inv_shp hul hI) (Nat.le_refl _) (by decide) hk1 (by omega) hk1 (by omega)
    (A1 := some ⟨g, 0, none⟩) (by rw [Nat.one_mul, List.flatten_cons, List.flatten_nil, List.append_nil]; exact (hr3.below ByR.stable hb).weaken ByR.stable fun _ _ => trivial) ((hr4.below ByR.stable hb).weaken ByR.stable fun _ _ => trivial) (by omega) hc1
  have hone : (mulF [rowF k want] (mkF (invE (useF k us) k) k k) k).flatten = planF k us want := by unfold mulF planF; simp
  rw [hone] at hmu
  simp only [Nat.one_mul] at hmu
  have hcast : ((1 : Nat) : Int) = 1 := rfl
  rw [hcast] at hmu
  have hxl : xb < w3.heap.size := hx3.lt
  have hw3s := hbw3.size
  have hwx : w.heap.size ≤ xb := by omega
  have keepB : ∀ w', Below w3.heap.size w3 w' → w'.cell? ⟨xb, 0, none⟩ = some (.int .i64 k) ∧ w'.cell? ⟨xb, 1, none⟩ = some (.int .i64 k) ∧ w'.cell? ⟨xb, 2, none⟩ = some (.slice A1 (k * k) c1) := fun w' h => ⟨(hx3.below h).cell 0, (hx3.below h).cell 1, (hx3.below h).cell 2⟩
  have KB := Lib.hid keepB
  have s1 := keepB w3.drew (Below.refl _ _).drew
  have hb3d : Below w3.heap.size w3 w3.drew := (Below.refl _ _).drew
  have HM := Lib.hid hmu
  have HBW := Lib.hid hbw3
  have hF2 := fun w' (hb : Below w3.heap.size w3 w') => cfield_any ((HC.out.below hbw3).below hb)
  have HF2 := Lib.hid hF2
  have hal3 : Below w3.heap.size w3 (w3.alloc (.cells #[.int .i64 0, .int .i64 0, .slice none 0 0] 181)) := (Below.refl _ _).alloc (Nat.le_refl _) _
  clear keepB hmu hC3 hF hF2 hr1 hr2 hr3 hr4 hb1 hb3 hbe hbx hx3 hbw2 hbw3 hiv
  go_wp2_with fail
  refine wp_region_held_drew (S := fun w' => w'.cell? ⟨xb, 0, none⟩ = some (.int .i64 k) ∧ w'.cell? ⟨xb, 1, none⟩ = some (.int .i64 k) ∧ w'.cell? ⟨xb, 2, none⟩ = some (.slice A1 (k * k) c1)) (by kernel_rfl) (by first | exact s1 | exact KB.out _ (by assumption)) (fun hHeld => ?_)
  refine tkH 0 rfl ?_
  refine tkH 2 rfl ?_
  refine tkH 3 rfl ?_
  refine tkH 4 rfl ?_
  refine tkH 5 rfl ?_
  refine tkH 6 rfl ?_
  refine wpAnyH_ready (rs := [1, 11]) (by kernel_rfl) (by simp) ?_
  refine AllReadyH.cons rfl (fun K hK => ?_) (AllReadyH.cons rfl (fun K hK => ?_) AllReadyH.nil)
  · try simp (maxSteps := 2000000) only [zz1, zz2, zz3]
    go_simp
    go_at_call 209
    refine (HF2.out _ hb3d).mono ?_
    rintro e w9 ⟨rfl, hw9⟩
    rw [hw9]
    clear hw9
    try (go_wp2_with fail)
    refine hK.out _ _ (KB.out _ hb3d) (fun hHeld => ?_)
    clear hK K
    try simp (maxSteps := 2000000) only [zz1, zz2, zz3, Act.put, zz4, zz5, zz6]
    refine wpAnyH_ready (rs := [7, 11]) (by kernel_rfl) (by simp) ?_
    refine AllReadyH.cons rfl (fun K hK => ?_) (AllReadyH.cons rfl (fun K hK => ?_) AllReadyH.nil)
    · try simp (maxSteps := 2000000) only [zz1, zz2, zz3]
      go_simp
      go_at_call 208
      refine (HM.out _ hb3d).mono ?_
      rintro e w5 ⟨A5, c5, rfl, hc5, hr5, hb5⟩
      have hs5 := hb5.size
      have hb35 : Below w3.heap.size w3 w5 := Below.trans hb3d (hb5.mono (Below.size hb3d))
      try (go_wp2_with fail)
      refine hK.out _ _ (KB.out _ hb35) (fun hHeld => ?_)
      clear hK K
      try simp (maxSteps := 2000000) only [zz1, zz2, zz3, Act.put, zz4, zz5, zz6]
      refine tkH 8 rfl ?_
      refine tkH 9 rfl ?_
      refine tkH 10 rfl ?_
      refine rdH 11 rfl fun K hK => ?_
      try simp (maxSteps := 2000000) only [zz1, zz2, zz3]
      go_simp
      refine hK.out _ _ (KB.out _ (hb35.alloc hb35.size _)) (fun hHeld => ?_)
      clear hK K
      try simp (maxSteps := 2000000) only [zz1, zz2, zz3, Act.put, zz4, zz5, zz6]
      refine rdH 12 rfl fun K hK => ?_
      try simp (maxSteps := 2000000) only [zz1, zz2, zz3]
      go_simp
      refine hK.out _ _ (KB.out _ (hb35.alloc hb35.size _)) (fun hHeld => ?_)
      clear hK K
      try simp (maxSteps := 2000000) only [zz1, zz2, zz3, Act.put, zz4, zz5, zz6]
      refine rdH 13 rfl fun K hK => ?_
      try simp (maxSteps := 2000000) only [zz1, zz2, zz3]
      go_simp
      refine hK.out _ _ (KB.out _ (hb35.alloc hb35.size _)) (fun hHeld => ?_)
      clear hK K
      try simp (maxSteps := 2000000) only [zz1, zz2, zz3, Act.put, zz4, zz5, zz6]
      refine wpAnyH_done (by kernel_rfl) ?_ _
      go_wp2_with fail
      go_ret2
      exact ⟨A5, c5, rfl, hc5, (RdL.alloc ByR.stable (hr5.weaken ByR.stable (S' := fun j => w.heap.size ≤ j) fun j hj => Nat.le_trans hw3s hj) _), (HBW.out.trans (hb35.mono hw3s)).alloc (by have := hb35.size; omega) _⟩
    · try simp (maxSteps := 2000000) only [zz1, zz2, zz3]
      go_simp
      refine hK.out _ _ (KB.out _ (show Below w3.heap.size w3 ((w3.alloc (.cells #[.int .i64 0, .int .i64 0, .slice none 0 0] 181)).drew) from hal3.drew)) (fun hHeld => ?_)
      clear hK K
      try simp (maxSteps := 2000000) only [zz1, zz2, zz3, Act.put, zz4, zz5, zz6]
      refine rdH 7 rfl fun K hK => ?_
      try simp (maxSteps := 2000000) only [zz1, zz2, zz3]
      go_simp
      go_at_call 208
      refine (HM.out _ (show Below w3.heap.size w3 ((w3.alloc (.cells #[.int .i64 0, .int .i64 0, .slice none 0 0] 181)).drew) from hal3.drew)).mono ?_
      rintro e w5 ⟨A5, c5, rfl, hc5, hr5, hb5⟩
      have hs5 := hb5.size
      have hb35 : Below w3.heap.size w3 w5 := Below.trans (show Below w3.heap.size w3 ((w3.alloc (.cells #[.int .i64 0, .int .i64 0, .slice none 0 0] 181)).drew) from hal3.drew) (hb5.mono (Below.size (show Below w3.heap.size w3 ((w3.alloc (.cells #[.int .i64 0, .int .i64 0, .slice none 0 0] 181)).drew) from hal3.drew)))
      try (go_wp2_with fail)
      refine hK.out _ _ (KB.out _ hb35) (fun hHeld => ?_)
      clear hK K
      try simp (maxSteps := 2000000) only [zz1, zz2, zz3, Act.put, zz4, zz5, zz6]
      have hpb := ((BoxAt.new w3 #[.int .i64 0, .int .i64 0, .slice none 0 0] 181).below (w' := (w3.alloc (.cells #[.int .i64 0, .int .i64 0, .slice none 0 0] 181)).drew) (Below.refl _ _).drew).below hb5
      have g0 := hpb.cell 0
      have g1 := hpb.cell 1
      have g2 := hpb.cell 2
      have f0 := hpb.frozen 0
      have f1 := hpb.frozen 1
      have f2 := hpb.frozen 2
      refine tkH 8 rfl ?_
      refine tkH 9 rfl ?_
      refine tkH 10 rfl ?_
      refine rdH 12 rfl fun K hK => ?_
      try simp (maxSteps := 2000000) only [zz1, zz2, zz3]
      go_simp
      refine hK.out _ _ (KB.out _ (((hb35.setCell (by exact Nat.le_refl _) _).setCell (by exact Nat.le_refl _) _).setCell (by exact Nat.le_refl _) _)) (fun hHeld => ?_)
      clear hK K
      try simp (maxSteps := 2000000) only [zz1, zz2, zz3, Act.put, zz4, zz5, zz6]
      refine rdH 13 rfl fun K hK => ?_
      try simp (maxSteps := 2000000) only [zz1, zz2, zz3]
      go_simp
      refine hK.out _ _ (KB.out _ (((hb35.setCell (by exact Nat.le_refl _) _).setCell (by exact Nat.le_refl _) _).setCell (by exact Nat.le_refl _) _)) (fun hHeld => ?_)
      clear hK K
      try simp (maxSteps := 2000000) only [zz1, zz2, zz3, Act.put, zz4, zz5, zz6]
      refine wpAnyH_done (by kernel_rfl) ?_ _
      go_wp2_with fail
      go_ret2
      have hsz : w3.heap.size < w5.heap.size := by have := hs5; have e := World.size_alloc w3 (.cells #[.int .i64 0, .int .i64 0, .slice none 0 0] 181); simp only [World.size_drew] at this; omega
      refine ⟨A5, c5, rfl, hc5, RdL.weaken ByR.stable (S := fun j => (w3.alloc (.cells #[.int .i64 0, .int .i64 0, .slice none 0 0] 181)).heap.size ≤ j) ?_ (fun j hj => Nat.le_trans hw3s (Nat.le_trans hal3.size hj)), ?_⟩
      · repeat (first | exact hr5 | refine RdL.setCell ByR.stable ?_ (show ¬ _ ≤ _ by rw [World.size_alloc]; dsimp only; omega) _)
      · repeat (first | exact HBW.out.trans (hb35.mono hw3s) | refine Below.setCell ?_ (by dsimp only; omega) _)
  · try simp (maxSteps := 2000000) only [zz1, zz2, zz3]
    go_simp
    refine hK.out _ _ (KB.out _ (show Below w3.heap.size w3 ((w3.alloc (.cells #[.int .i64 0, .int .i64 0, .slice none 0 0] 181)).drew) from hal3.drew)) (fun hHeld => ?_)
    clear hK K
    try simp (maxSteps := 2000000) only [zz1, zz2, zz3, Act.put, zz4, zz5, zz6]
    refine rdH 1 rfl fun K hK => ?_
    try simp (maxSteps := 2000000) only [zz1, zz2, zz3]
    go_simp
    go_at_call 209
    refine (HF2.out _ (show Below w3.heap.size w3 ((w3.alloc (.cells #[.int .i64 0, .int .i64 0, .slice none 0 0] 181)).drew) from hal3.drew)).mono ?_
    rintro e w9 ⟨rfl, hw9⟩
    rw [hw9]
    clear hw9
    try (go_wp2_with fail)
    refine hK.out _ _ (KB.out _ (show Below w3.heap.size w3 ((w3.alloc (.cells #[.int .i64 0, .int .i64 0, .slice none 0 0] 181)).drew) from hal3.drew)) (fun hHeld => ?_)
    clear hK K
    try simp (maxSteps := 2000000) only [zz1, zz2, zz3, Act.put, zz4, zz5, zz6]
    refine rdH 7 rfl fun K hK => ?_
    try simp (maxSteps := 2000000) only [zz1, zz2, zz3]
    go_simp
    go_at_call 208
    refine (HM.out _ (show Below w3.heap.size w3 ((w3.alloc (.cells #[.int .i64 0, .int .i64 0, .slice none 0 0] 181)).drew) from hal3.drew)).mono ?_
    rintro e w5 ⟨A5, c5, rfl, hc5, hr5, hb5⟩
    have hs5 := hb5.size
    have hb35 : Below w3.heap.size w3 w5 := Below.trans (show Below w3.heap.size w3 ((w3.alloc (.cells #[.int .i64 0, .int .i64 0, .slice none 0 0] 181)).drew) from hal3.drew) (hb5.mono (Below.size (show Below w3.heap.size w3 ((w3.alloc (.cells #[.int .i64 0, .int .i64 0, .slice none 0 0] 181)).drew) from hal3.drew)))
    try (go_wp2_with fail)
    refine hK.out _ _ (KB.out _ hb35) (fun hHeld => ?_)
    clear hK K
    try simp (maxSteps := 2000000) only [zz1, zz2, zz3, Act.put, zz4, zz5, zz6]
    have hpb := ((BoxAt.new w3 #[.int .i64 0, .int .i64 0, .slice none 0 0] 181).below (w' := (w3.alloc (.cells #[.int .i64 0, .int .i64 0, .slice none 0 0] 181)).drew) (Below.refl _ _).drew).below hb5
    have g0 := hpb.cell 0
    have g1 := hpb.cell 1
    have g2 := hpb.cell 2
    have f0 := hpb.frozen 0
    have f1 := hpb.frozen 1
    have f2 := hpb.frozen 2
    refine tkH 8 rfl ?_
    refine tkH 9 rfl ?_
    refine tkH 10 rfl ?_
    refine rdH 12 rfl fun K hK => ?_
    try simp (maxSteps := 2000000) only [zz1, zz2, zz3]
    go_simp
    refine hK.out _ _ (KB.out _ (((hb35.setCell (by exact Nat.le_refl _) _).setCell (by exact Nat.le_refl _) _).setCell (by exact Nat.le_refl _) _)) (fun hHeld => ?_)
    clear hK K
    try simp (maxSteps := 2000000) only [zz1, zz2, zz3, Act.put, zz4, zz5, zz6]
    refine rdH 13 rfl fun K hK => ?_
    try simp (maxSteps := 2000000) only [zz1, zz2, zz3]
    go_simp
    refine hK.out _ _ (KB.out _ (((hb35.setCell (by exact Nat.le_refl _) _).setCell (by exact Nat.le_refl _) _).setCell (by exact Nat.le_refl _) _)) (fun hHeld => ?_)
    clear hK K
    try simp (maxSteps := 2000000) only [zz1, zz2, zz3, Act.put, zz4, zz5, zz6]
    refine wpAnyH_done (by kernel_rfl) ?_ _
    go_wp2_with fail
    go_ret2
    have hsz : w3.heap.size < w5.heap.size := by have := hs5; have e := World.size_alloc w3 (.cells #[.int .i64 0, .int .i64 0, .slice none 0 0] 181); simp only [World.size_drew] at this; omega
    refine ⟨A5, c5, rfl, hc5, RdL.weaken ByR.stable (S := fun j => (w3.alloc (.cells #[.int .i64 0, .int .i64 0, .slice none 0 0] 181)).heap.size ≤ j) ?_ (fun j hj => Nat.le_trans hw3s (Nat.le_trans hal3.size hj)), ?_⟩
    · repeat (first | exact hr5 | refine RdL.setCell ByR.stable ?_ (show ¬ _ ≤ _ by rw [World.size_alloc]; dsimp only; omega) _)
    · repeat (first | exact HBW.out.trans (hb35.mono hw3s) | refine Below.setCell ?_ (by dsimp only; omega) _)
end
section
theorem eq_slB (w : World) (p : Option Addr) (n c : Nat) : (binOp .eql 68 (.slice p n c) (.slice none 0 0)).run Tryz.prog w = .ok (.bool p.isNone) w := Lib.run_eql_slice_nil _ _ _ _ _ _ _ _ sl_by.und
attribute [local go_sem] eq_slB

set_option maxRecDepth 100000 in
theorem cloneB_any {S : Nat → Prop} {w : World} {A : Option Addr} {m c : Nat} {xs : List Nat} (R : Hid (RdL ByR 1 S w A m xs)) (hm : m ≤ 1000000) :
    Calls Tryz.prog 173 #[.slice A m c] w fun e w' => ∃ A' c', e = .returned (.slice A' m c') ∧ m ≤ c' ∧ RdL ByR 1 (w.heap.size ≤ ·) w' A' m xs ∧ Below w.heap.size w w' := by
  cases A with
  | none =>
    have hm0 : m = 0 := by
      rcases Nat.eq_zero_or_pos m with h | h
      · exact h
      · obtain ⟨b, o, hA, _⟩ := R.out.addr h; cases hA
    subst hm0
    have hx := R.out.1
    have : xs = [] := List.length_eq_zero_iff.1 hx
    subst this
    go_enter Tryz.func173, Tryz.ntmps173
    go_wp2_with fail
    go_ret
    exact ⟨none, 0, rfl, Nat.le_refl _, RdL.nil, Below.refl _ _⟩
  | some p =>
    go_enter Tryz.func173, Tryz.ntmps173
    have hA := Lib.hid (R.out.alloc ByR.stable (.cells #[] 5))
    go_wp2_with (at_builtin; refine wpList_appL ByR.stable ByR.one sl_by rfl (by exact rfl) (base := w.heap.size) (S := fun _ => True) (n := 0) (xs := []) (by exact rfl) (OwnL.made #[] 0 (Nat.le_refl _) (by unfold maxLen; omega) rfl) (by exact rfl) hA.out (fun _ _ h => h) (by unfold maxLen; omega) (by omega) (by simp only [World.size_alloc]; omega) ?_; intro A' c' w' hc hown hg hat)
    have hb : Below w.heap.size w w' := ((Below.refl _ _).alloc (Nat.le_refl _) _).grown hg (by simp only [World.size_alloc]; omega) (fun k hk => by simp only [Value.ownBlock, Option.some.injEq] at hk; omega)
    rw [Nat.zero_add, List.nil_append] at hown
    obtain ⟨A2, c2, hv, hc2, hrd⟩ := hown.rd (S' := fun b => w.heap.size ≤ b) (fun b hb => hb) (fun cs x hx => hx)
    simp only [Value.slice.injEq] at hv
    obtain ⟨rfl, _, rfl⟩ := hv
    clear hA hown hg hat
    go_ret
    exact ⟨A', c', rfl, hc2, hrd, hb⟩

def madeF (ws us : List Nat) (ss : Rws) (n : Nat) : List Nat := combF ws (us.map (ra ss)) (List.replicate n 0)
set_option maxRecDepth 100000 in
set_option maxHeartbeats 4000000 in
theorem made_any {w : World} {cb b k m N cs cu cw n : Nat} {As Au Aw : Option Addr} {S1 S2 S3 : Nat → Prop} {ss : Rws} {us ws : List Nat} (H : CodAt w cb b k m) (R1 : RdL RowR 1 S1 w As N ss) (R2 : RdL NatR 1 S2 w Au k us) (R3 : RdL ByR 1 S3 w Aw k ws)
    (hus : ∀ u ∈ us, u < N ∧ (ra ss u).length = n) (hn : n ≤ 1000000) :
    Calls Tryz.prog 175 #[.pointer (some ⟨cb, 0, none⟩), .slice As N cs, .slice Au k cu, .slice Aw k cw] w fun e w' => ∃ A' c', e = .returned (.slice A' n c') ∧ n ≤ c' ∧ RdL ByR 1 (fun j => w.heap.size ≤ j) w' A' n (madeF ws us ss n) ∧ Below w.heap.size w w' := by
  have HC := Lib.hid H
  have H1 := Lib.hid R1
  have H2 := Lib.hid R2
  have H3 := Lib.hid R3
  have hk1 := H.k1
  have hkm := H.km
  have hul := R2.1
  have hwl := R3.1
  have q0 : (k : Int) ≤ 255 := by omega
  have q1 : (0 : Int) < (k : Int) := by omega
  have hrow : ∀ u, u ∈ us → ∃ bb o, As = some ⟨bb, o, none⟩ ∧ bb < w.heap.size ∧ ∃ A c, w.cell? ⟨bb, o + u, none⟩ = some (.slice A n c) ∧ n ≤ c ∧ RdL ByR 1 S1 w A n (ra ss u) := fun u hu => by
    obtain ⟨h5, h6⟩ := hus u hu
    obtain ⟨bb, o, rfl, _, hb⟩ := R1.addr h5
    obtain ⟨A, mm, c, v, hc, hr⟩ := row_at R1 h5
    have hmm : mm = n := by rw [← hr.1, h6]
    subst hmm
    exact ⟨bb, o, rfl, hb, A, c, v, hc, hr⟩
  have HROW := Lib.hid hrow
  obtain ⟨bu, ou, rfl, _, hbu⟩ := R2.addr (k := 0) (by omega)
  have u0 := nat_at R2 (k := 0) (by omega)
  rw [Nat.add_zero] at u0
  obtain ⟨bs, os, rfl, hbs, Ar, cr, v0, hcr, hr0⟩ := hrow (gt us 0) (gt_mem (by omega))
  have q2 : ((gt us 0 : Nat) : Int) < (N : Int) := by have := (hus (gt us 0) (gt_mem (by omega))).1; omega
  have q3 : (0 : Int) ≤ ((gt us 0 : Nat) : Int) := Int.natCast_nonneg _
  have q4 : (n : Int) ≤ 1000000 := by omega
  have q5 : (0 : Int) ≤ (n : Int) := Int.natCast_nonneg _
  have hmk := makeBy n (by omega) w
  have hz := RowIn.made w n 5
  have hbz : Below w.heap.size w (w.alloc (.cells (Array.replicate n (.int .u8 0)) 5)) := (Below.refl _ _).alloc (Nat.le_refl _) _
  have hzr := hz.rd (S := fun j => w.heap.size ≤ j) (Nat.le_refl _)
  rw [List.length_replicate] at hzr
  obtain ⟨wA, hwA⟩ : ∃ wA, w.alloc (.cells (Array.replicate n (.int .u8 0)) 5) = wA := ⟨_, rfl⟩
  rw [hwA] at hmk hbz hzr
  have HZ := Lib.hid hzr
  have HBZ := Lib.hid hbz
  clear H R1 R2 R3 hrow hz hbz hzr hwA hr0
  go_enter Tryz.func175, Tryz.ntmps175
  go_wp2_with fail
  clear hmk
  go_loopw [9, 22] (fun vs vi wr => ∃ (i : Nat) (A : Option Addr) (c : Nat), i ≤ k ∧ vi = .int .i64 i ∧ vs = .slice A n c ∧ n ≤ c ∧ Hid (RdL ByR 1 (fun j => w.heap.size ≤ j) wr A n (combF (ws.take i) ((us.map (ra ss)).take i) (List.replicate n 0))) ∧ Hid (Below w.heap.size w wr)) (fun _ vi _ => k - (intOf vi).toNat)
  case atStart => exact ⟨0, _, n, Nat.zero_le _, rfl, rfl, Nat.le_refl _, by rw [List.take_zero, List.take_zero]; exact HZ, HBZ⟩
  case round =>
    clear HZ HBZ u0 v0 q2 q3
    obtain ⟨i, A, c, hi, rfl, rfl, hc, HR, HB⟩ := hrel
    have p0 : (0 : Int) ≤ (i : Int) := Int.natCast_nonneg _
    by_cases hlt : i < k
    · have p1 : (i : Int) < (k : Int) := by omega
      have hum : gt us i ∈ us := gt_mem (by omega)
      have u1 := (HB.out.cell (p := ⟨bu, ou + i, none⟩) hbu).trans (nat_at H2.out hlt)
      obtain ⟨b2, o2, e2, _, A1, c1, v1, hc1, hr1⟩ := HROW.out _ hum
      injection e2 with e2
      injection e2 with e2 e3
      subst e2; subst e3
      obtain ⟨bw, ow, rfl, _, hbw⟩ := H3.out.addr hlt
      obtain ⟨w1, x1⟩ := by_at H3.out hlt
      have hbd : Below w.heap.size w wr.drew := HB.out.drew
      have s1 : wr.drew.cell? ⟨bw, ow + i, none⟩ = some (.int .u8 (gt ws i : Int)) ∧ wr.drew.cell? ⟨bs, os + gt us i, none⟩ = some (.slice A1 n c1) := ⟨(hbd.cell (p := ⟨bw, ow + i, none⟩) hbw).trans w1, (hbd.cell (p := ⟨bs, os + gt us i, none⟩) hbs).trans v1⟩
      have q2 : ((gt us i : Nat) : Int) < (N : Int) := by have := (hus _ hum).1; omega
      have q3 : (0 : Int) ≤ ((gt us i : Nat) : Int) := Int.natCast_nonneg _
      have hF := cfield_any (HC.out.below hbd)
      have hfo := fold_any (w := wr.drew) (cp := c1) (cp2 := c) (HC.out.below hbd).fld x1 (hr1.below ByR.stable hbd) hn hc1 (HR.out.below ByR.stable (Below.refl _ _).drew) hn
      have hrm : ra (us.map (ra ss)) i = ra ss (gt us i) := ra_some (by rw [List.getElem?_map, gt_of_lt (by omega)]; rfl)
      rw [← hrm, ← combF_take (by omega) (by rw [List.length_map]; omega)] at hfo
      clear hr1 hrm hum
      go_wp2_with fail
      refine wp_region_held_drew (S := fun w' => w'.cell? ⟨bw, ow + i, none⟩ = some (.int .u8 (gt ws i : Int)) ∧ w'.cell? ⟨bs, os + gt us i, none⟩ = some (.slice A1 n c1)) (by kernel_rfl) (by first | exact s1 | exact s2) (fun hHeld => ?_)
      refine tkH 0 rfl ?_
      refine tkH 2 rfl ?_
      refine tkH 3 rfl ?_
      refine tkH 4 rfl ?_
      refine tkH 5 rfl ?_
      refine tkH 6 rfl ?_
      refine tkH 7 rfl ?_
      refine tkH 8 rfl ?_
      refine tkH 9 rfl ?_
      refine tkH 10 rfl ?_
      refine rdH 1 rfl fun K hK => ?_
      try simp (maxSteps := 2000000) only [zz1, zz2, zz3]
      go_simp
      go_at_call 209
      refine hF.mono ?_
      rintro e w9 ⟨rfl, hw9⟩
      rw [hw9]
      clear hw9 hF
      try (go_wp2_with fail)
      refine hK.out _ _ (by first | exact s1 | exact s2) (fun hHeld => ?_)
      clear hK K
      try simp (maxSteps := 2000000) only [zz1, zz2, zz3, Act.put, zz4, zz5, zz6]
      refine rdH 11 rfl fun K hK => ?_
      try simp (maxSteps := 2000000) only [zz1, zz2, zz3]
      go_simp
      go_at_call 210
      refine hfo.mono ?_
      rintro e w6 ⟨AN, cN, rfl, hcN, hrs, hb6⟩
      have hs9 := HB.out.size
      have s2 : w6.cell? ⟨bw, ow + i, none⟩ = some (.int .u8 (gt ws i : Int)) ∧ w6.cell? ⟨bs, os + gt us i, none⟩ = some (.slice A1 n c1) := ⟨(hb6.cell (p := ⟨bw, ow + i, none⟩) (Nat.lt_of_lt_of_le hbw hs9)).trans s1.1, (hb6.cell (p := ⟨bs, os + gt us i, none⟩) (Nat.lt_of_lt_of_le hbs hs9)).trans s1.2⟩
      have HRS := Lib.hid (hrs.weaken ByR.stable (S' := fun j => w.heap.size ≤ j) (fun j hj => Nat.le_trans hs9 hj))
      have HB6 := Lib.hid (hbd.trans (hb6.mono hs9))
      clear hrs hb6 hfo
      try (go_wp2_with fail)
      refine hK.out _ _ (by first | exact s1 | exact s2) (fun hHeld => ?_)
      clear hK K
      try simp (maxSteps := 2000000) only [zz1, zz2, zz3, Act.put, zz4, zz5, zz6]
      refine tkH 12 rfl ?_
      refine wpAnyH_done (by kernel_rfl) ?_ _
      clear s1 s2 hHeld u1 w1 v1
      go_wp2_with fail
      exact ⟨⟨i + 1, AN, cN, by omega, by go_num, rfl, hcN, HRS, HB6⟩, by simp [intOf]; omega⟩
    · have p1 : ¬ (i : Int) < (k : Int) := by omega
      obtain rfl : i = k := by omega
      rw [List.take_of_length_le (by omega), List.take_of_length_le (by rw [List.length_map]; omega)] at HR
      go_wp2_with fail
      go_ret
      exact ⟨A, c, rfl, hc, HR.out, HB.out⟩
end
section

def ixF (f : Nat → Bool) : List Nat → Nat → Int
  | [], _ => -1
  | x :: l, i => if f x = true then (i : Int) else ixF f l (i + 1)
theorem ixF_cons (f : Nat → Bool) (x : Nat) (l : List Nat) (i : Nat) : ixF f (x :: l) i = if f x = true then (i : Int) else ixF f l (i + 1) := rfl
theorem ixF_any (f : Nat → Bool) : ∀ (l : List Nat) (i : Nat), decide (ixF f l i ≥ 0) = l.any f
  | [], _ => rfl
  | x :: l, i => by
    rw [List.any_cons, ixF_cons]
    by_cases h : f x = true
    · rw [if_pos h, h]; simp
    · rw [if_neg h, ixF_any f l (i + 1)]
      simp only [Bool.not_eq_true] at h
      rw [h, Bool.false_or]
theorem drop_gt {l : List Nat} {k : Nat} (hk : k < l.length) : l.drop k = gt l k :: l.drop (k + 1) := by
  rw [List.drop_eq_getElem_cons hk]
  congr 1
  exact (Option.some.inj ((gt_of_lt hk).symm.trans (List.getElem?_eq_getElem hk))).symm
set_option maxRecDepth 100000 in
set_option maxHeartbeats 4000000 in
theorem index_any {w : World} {A : Option Addr} {n c : Nat} {S : Nat → Prop} {xs : List Nat} {g : FuncId} {cap : Array Value} {f : Nat → Bool} (R : RdL NatR 1 S w A n xs) (hn : n ≤ 1000000) (hg : Hid (∀ args w, (callFunc g args).run Tryz.prog w = .ok (.enter g args) w))
    (hstep : Hid (∀ i W, i < n → Below w.heap.size w W → Calls Tryz.prog g (#[.int .i64 (gt xs i : Int)] ++ cap) W fun e W' => e = .returned (.bool (f (gt xs i))) ∧ Below W.heap.size W W')) :
    Calls Tryz.prog 235 #[.slice A n c, .func (.func g) #[] cap] w fun e w' => e = .returned (.int .i64 (ixF f xs 0)) ∧ Below w.heap.size w w' := by
  have hgg := hg.out
  have HR := Lib.hid R
  have hl := R.1
  have q0 : (n : Int) ≤ 1000000 := by omega
  clear R
  go_enter Tryz.func235, Tryz.ntmps235
  go_wp2_with fail
  go_loopw [8] (fun vi wr => ∃ i : Nat, i ≤ n ∧ vi = .int .i64 i ∧ Hid (ixF f xs 0 = ixF f (xs.drop i) i) ∧ Hid (Below w.heap.size w wr)) (fun vi _ => n - (intOf vi).toNat)
  case atStart => exact ⟨0, Nat.zero_le _, rfl, Lib.hid rfl, Lib.hid (Below.refl _ _)⟩
  case round =>
    obtain ⟨i, hi, rfl, HX, HB⟩ := hrel
    have p0 : (0 : Int) ≤ (i : Int) := Int.natCast_nonneg _
    by_cases hlt : i < n
    · have p1 : (i : Int) < (n : Int) := by omega
      obtain ⟨b, o, rfl, _, hb⟩ := HR.out.addr hlt
      have c1 := (HB.out.cell (p := ⟨b, o + i, none⟩) hb).trans (nat_at HR.out hlt)
      have hst := hstep.out i wr hlt HB.out
      have hx := HX.out
      rw [drop_gt (by omega), ixF_cons] at hx
      by_cases hf : f (gt xs i) = true
      · rw [if_pos hf] at hx
        rw [hf] at hst
        have HX2 := Lib.hid hx
        clear hx HX hf
        go_wp2_with fail
        refine hst.mono ?_
        rintro e w2 ⟨rfl, hb2⟩
        have HB2 := Lib.hid (HB.out.trans (hb2.mono HB.out.size))
        clear hst hb2
        go_wp2_with fail
        go_ret
        exact ⟨by rw [HX2.out]; rfl, HB2.out⟩
      · rw [if_neg hf] at hx
        simp only [Bool.not_eq_true] at hf
        rw [hf] at hst
        have HX2 : Hid (ixF f xs 0 = ixF f (xs.drop (i + 1)) (i + 1)) := Lib.hid hx
        clear hx HX hf
        go_wp2_with fail
        refine hst.mono ?_
        rintro e w2 ⟨rfl, hb2⟩
        have HB2 := Lib.hid (HB.out.trans (hb2.mono HB.out.size))
        clear hst hb2
        go_wp2_with fail
        exact ⟨⟨i + 1, by omega, by go_num, HX2, HB2⟩, by simp [intOf]; omega⟩
    · have p1 : ¬ (i : Int) < (n : Int) := by omega
      have hx := HX.out
      rw [List.drop_of_length_le (by omega)] at hx
      have HX2 : Hid (ixF f xs 0 = -1) := Lib.hid hx
      clear hx HX
      go_wp2_with fail
      go_ret
      exact ⟨by rw [HX2.out]; rfl, HB.out⟩
set_option maxRecDepth 100000 in
theorem contains_any {w : World} {A : Option Addr} {n c : Nat} {S : Nat → Prop} {xs : List Nat} {g : FuncId} {cap : Array Value} {f : Nat → Bool} (R : RdL NatR 1 S w A n xs) (hn : n ≤ 1000000) (hg : Hid (∀ args w, (callFunc g args).run Tryz.prog w = .ok (.enter g args) w))
    (hstep : Hid (∀ i W, i < n → Below w.heap.size w W → Calls Tryz.prog g (#[.int .i64 (gt xs i : Int)] ++ cap) W fun e W' => e = .returned (.bool (f (gt xs i))) ∧ Below W.heap.size W W')) :
    Calls Tryz.prog 206 #[.slice A n c, .func (.func g) #[] cap] w fun e w' => e = .returned (.bool (xs.any f)) ∧ Below w.heap.size w w' := by
  have hix := index_any (c := c) R hn hg hstep
  have ha := ixF_any f xs 0
  obtain ⟨v, hv⟩ : ∃ v, v = ixF f xs 0 := ⟨_, rfl⟩
  rw [← hv] at hix ha
  rw [← ha]
  clear hv ha R hstep
  go_enter Tryz.func206, Tryz.ntmps206
  go_wp2_with (go_at_call 235; refine hix.mono ?_; rintro e w2 ⟨rfl, hb⟩; have HB := Lib.hid hb; clear hb hix)
  go_ret
  exact ⟨rfl, HB.out⟩
theorem call_odd (args : Array Value) (w : World) : (callFunc 205 args).run Tryz.prog w = .ok (.enter 205 args) w := by go_simp
def lenF (ss : Rws) (i : Nat) : Nat := (ra ss i).length
def oddB (ss : Rws) (l : List Nat) (i : Nat) : Bool := decide (lenF ss i ≠ lenF ss (gt l 0))
set_option maxRecDepth 100000 in
set_option maxHeartbeats 4000000 in
theorem odd_any {w : World} {As Al : Option Addr} {N n cs cl sb lb i : Nat} {S S2 : Nat → Prop} {ss : Rws} {l : List Nat} (hs : BoxAt w sb #[.slice As N cs]) (hlb : BoxAt w lb #[.slice Al n cl]) (R : RdL RowR 1 S w As N ss) (R2 : RdL NatR 1 S2 w Al n l) (hn : 0 < n) (hall : ∀ u ∈ l, u < N) (hi : i < N) :
    Calls Tryz.prog 205 #[.int .i64 (i : Int), .pointer (some ⟨sb, 0, none⟩), .pointer (some ⟨lb, 0, none⟩)] w fun e w' => e = .returned (.bool (oddB ss l i)) ∧ Below w.heap.size w w' := by
  have k1 := hs.cell 0
  have k2 := hlb.cell 0
  have g1 := hs.lt
  have g2 := hlb.lt
  have hl := R2.1
  obtain ⟨b2, o2, rfl, _, hb2⟩ := R2.addr hn
  have v2 := nat_at R2 hn
  rw [Nat.add_zero] at v2
  have h0 : gt l 0 < N := hall _ (gt_mem (by omega))
  obtain ⟨b1, o1, rfl, _, hb1⟩ := R.addr hi
  obtain ⟨A1, m1, c1, v1, _, r1⟩ := row_at R hi
  obtain ⟨A3, m3, c3, v3, _, r3⟩ := row_at R h0
  have e1 := r1.1
  have e3 := r3.1
  have hodd : oddB ss l i = ((m1 : Int) != (m3 : Int)) := by
    unfold oddB lenF
    rw [e1, e3]
    by_cases h : m1 = m3
    · subst h; simp
    · rw [decide_eq_true h]
      simp
      omega
  rw [hodd]
  have q1 : (i : Int) < (N : Int) := by omega
  have q2 : (0 : Int) ≤ (i : Int) := Int.natCast_nonneg _
  have q3 : ((gt l 0 : Nat) : Int) < (N : Int) := by omega
  have q4 : (0 : Int) ≤ ((gt l 0 : Nat) : Int) := Int.natCast_nonneg _
  have q5 : (0 : Int) < (n : Int) := by omega
  clear hs hlb R R2 r1 r3 e1 e3 hodd
  go_enter Tryz.func205, Tryz.ntmps205
  go_wp2_with fail
  refine wp_region_later (by kernel_rfl) (by kernel_rfl) ?_
  repeat (go_big_quiet_step (fail))
  refine wpQuiet_nil ?_
  rintro _ ⟨z, rfl⟩
  go_wp2_with fail
  go_ret
  exact ⟨rfl, z.ok⟩
end
section

theorem sl_in : SlTy Tryz.prog 26 3 (.int .i64 0) 1 8 := ⟨by kernel_rfl, by kernel_rfl, by kernel_rfl, by omega⟩
def thU (ss : Rws) (i : Nat) : List Nat := (List.range i).filter fun j => decide (0 < lenF ss j)
theorem thU_yes {ss : Rws} {i : Nat} (h : 0 < lenF ss i) : thU ss (i + 1) = thU ss i ++ [i] := by
  unfold thU
  rw [List.range_succ, List.filter_append, List.filter_cons_of_pos (by simpa using h), List.filter_nil]
theorem thU_no {ss : Rws} {i : Nat} (h : ¬ 0 < lenF ss i) : thU ss (i + 1) = thU ss i := by
  unfold thU
  rw [List.range_succ, List.filter_append, List.filter_cons_of_neg (by simpa using h), List.filter_nil, List.append_nil]
theorem thU_mem {ss : Rws} {i u : Nat} (h : u ∈ thU ss i) : u < i ∧ 0 < lenF ss u := by
  have := List.mem_filter.1 h
  exact ⟨List.mem_range.1 this.1, by simpa using this.2⟩
theorem thU_len (ss : Rws) (i : Nat) : (thU ss i).length ≤ i := by
  have := List.length_filter_le (fun j => decide (0 < lenF ss j)) (List.range i)
  rwa [List.length_range] at this
structure ThI (w0 wr : World) (sb q : Nat) (sv : Value) (n : Nat) (A : Option Addr) (c : Nat) (xs : List Nat) : Prop where
  own : OwnL NatR 3 1 (q + 1) (fun _ => True) wr (.slice A n c) n xs
  bq : BoxAt wr q #[.slice A n c]
  bs : BoxAt wr sb #[sv]
  sq : sb < q
  hs : w0.heap.size ≤ sb
  bel : Below w0.heap.size w0 wr
theorem ThI.below {w0 wr w2 : World} {sb q n : Nat} {sv : Value} {A : Option Addr} {c : Nat} {xs : List Nat} (h : ThI w0 wr sb q sv n A c xs) (hb : Below wr.heap.size wr w2) : ThI w0 w2 sb q sv n A c xs :=
  ⟨h.own.keep NatR.stable hb, h.bq.below hb, h.bs.below hb, h.sq, h.hs, h.bel.trans (hb.mono h.bel.size)⟩
theorem ThI.pushed {w0 w2 : World} {sb q n : Nat} {sv : Value} {A A' : Option Addr} {c c' : Nat} {xs : List Nat} {y : Nat} (h : ThI w0 w2 sb q sv n A c xs) (u : Grw (Value.slice A n c).ownBlock w2)
    (hown : OwnL NatR 3 1 (q + 1) (fun _ => True) u.to (.slice A' (n + 1) c') (n + 1) (xs ++ [y])) (hb : Below (q + 1) w2 u.to) :
    ThI w0 (u.to.setCell ⟨q, 0, none⟩ (.slice A' (n + 1) c')) sb q sv (n + 1) A' c' (xs ++ [y]) := by
  have hl := h.bq.lt
  have hm := h.sq
  have hne : ∀ k, k ≤ q → some k ≠ (Value.slice A n c).ownBlock := fun k hk e => by
    have := (h.own.lt k e.symm).1; omega
  have hne2 : Value.ownBlock (.slice A' (n + 1) c') ≠ some q := fun e => by
    have := (hown.lt q e).1; omega
  refine ⟨?_, ?_, (h.bs.grw u.ok (hne sb (by omega))).set_other (by show sb ≠ q; omega) _, h.sq, h.hs, (h.bel.trans (hb.mono (by have := h.hs; omega))).setCell (by have := h.hs; show _ ≤ q; omega) _⟩
  · obtain ⟨css, h1, h2, h3, h4, h5⟩ := hown
    exact ⟨css, h1.kept (row := some q) ⟨rfl, rfl, rfl, by simp, fun k _ hk => Below.heap_setCell _ _ _ _ (fun e => hk (by rw [e]))⟩ (.inr hne2), h2, h3, h4, fun i cs x hc hx => h5 i cs x hc hx⟩
  · have := (h.bq.grw u.ok (hne q (Nat.le_refl _))).set 0 (.slice A' (n + 1) c')
    simpa using this

/-- What it answers. -/
def thBad (k m N : Nat) (ss : Rws) : Bool := decide (N ≠ k + m) || (thU ss N).any (oddB ss (thU ss N))
def ThE (w : World) (k m N : Nat) (ss : Rws) (e : Ending) (w' : World) : Prop := Below w.heap.size w w' ∧
  ((thBad k m N ss = true ∧ e = .returned (.tuple #[.slice none 0 0, .int .i64 2])) ∨
   (thBad k m N ss = false ∧ (thU ss N).length < k ∧ e = .returned (.tuple #[.slice none 0 0, .int .i64 60])) ∨
   (thBad k m N ss = false ∧ ¬ (thU ss N).length < k ∧ ∃ A c, e = .returned (.tuple #[.slice A (thU ss N).length c, .int .i64 0]) ∧ (thU ss N).length ≤ c ∧ RdL NatR 1 (fun j => w.heap.size ≤ j) w' A (thU ss N).length (thU ss N)))
set_option maxRecDepth 100000 in
set_option maxHeartbeats 8000000 in
theorem there_any {w : World} {cb b k m N cs : Nat} {As : Option Addr} {S : Nat → Prop} {ss : Rws} (H : CodAt w cb b k m) (R : RdL RowR 1 S w As N ss) (hN : N ≤ 1000) :
    Calls Tryz.prog 172 #[.pointer (some ⟨cb, 0, none⟩), .slice As N cs] w fun e w' => ThE w k m N ss e w' := by
  have HC := Lib.hid H
  have HR := Lib.hid R
  have hl := R.1
  have hk1 := H.k1
  have hm1 := H.m1
  have hkm := H.km
  have q0 : (N : Int) ≤ 1000 := by omega
  have q1 : ((k + m : Nat) : Int) ≠ 0 := by omega
  have q2 : (((k + m : Nat) : Int) == 0) = false := by simp; omega
  have q3 : (((k : Int) + (m : Int)) == 0) = false := by simp; omega
  have hNc := fun w' h => cn_any (w := w') (HC.out.below h)
  have hKc := fun w' h => ck_any (w := w') (HC.out.below h)
  clear H R
  go_enter Tryz.func172, Tryz.ntmps172
  go_wp2_with fail
  have hbs := BoxAt.new w #[.slice As N cs] 151
  have hb0 : Below w.heap.size w (w.alloc (.cells #[.slice As N cs] 151)) := (Below.refl _ _).alloc (Nat.le_refl _) _
  generalize w.alloc (.cells #[.slice As N cs] 151) = w1 at *
  refine (hNc _ hb0).mono ?_
  rintro e w2 ⟨rfl, hb2⟩
  replace hbs := hbs.below hb2
  replace hb0 := hb0.trans (hb2.mono hb0.size)
  have k0 := hbs.cell 0
  have hsl := hbs.lt
  clear hb2
  go_wp2_with fail
  have hi0 : ThI w (w2.alloc (.cells #[.slice none 0 0] 26)) w.heap.size w2.heap.size (.slice As N cs) 0 none 0 (thU ss 0) :=
    ⟨OwnL.nil_, BoxAt.new _ _ _, hbs.alloc _, hsl, Nat.le_refl _, hb0.alloc (by omega) _⟩
  obtain ⟨q, hq⟩ : ∃ q, w2.heap.size = q := ⟨_, rfl⟩
  rw [hq] at hi0 ⊢
  have HI0 := Lib.hid hi0
  clear hi0 hq hsl hbs hb0 k0
  generalize w2.alloc (.cells #[.slice none 0 0] 26) = w3 at *
  go_loopw [15] (fun vi wr => ∃ (i n : Nat) (A : Option Addr) (c : Nat), i ≤ N ∧ vi = .int .i64 i ∧ Hid (ThI w wr w.heap.size q (.slice As N cs) n A c (thU ss i)) ∧ Hid (n = (thU ss i).length)) (fun vi _ => N - (intOf vi).toNat)
  case atStart => exact ⟨0, 0, none, 0, Nat.zero_le _, rfl, HI0, Lib.hid rfl⟩
  case round =>
    clear HI0
    obtain ⟨i, n, A, c, hi, rfl, HI, HL⟩ := hrel
    have p0 : (0 : Int) ≤ (i : Int) := Int.natCast_nonneg _
    by_cases hlt : i < N
    · have p1 : (i : Int) < (N : Int) := by omega
      obtain ⟨bb, o, rfl, _, hbb⟩ := HR.out.addr hlt
      obtain ⟨A1, m1, c1, v1, _, r1⟩ := row_at HR.out hlt
      have c1' := (HI.out.bel.cell (p := ⟨bb, o + i, none⟩) hbb).trans v1
      have hm1' : lenF ss i = m1 := r1.1
      clear r1 v1
      by_cases hpos : 0 < m1
      · have p2 : (m1 : Int) > 0 := by omega
        have hth := thU_yes (ss := ss) (i := i) (by omega)
        have kq := HI.out.bq.cell 0
        have fq := HI.out.bq.frozen 0
        have hnl := thU_len ss i
        have hnn : n ≤ 1000 := by have := HL.out; omega
        have HT := Lib.hid hth
        clear hth
        go_wp2_with (at_builtin; go_must (refine wpList_push1 NatR.stable NatR.one sl_in (by rfl) (by rfl) (base := q + 1) (S := fun _ => True) (cs := #[.int .i64 (i : Int)]) (y := i) (by rfl) (by rfl) HI.out.own (by rfl) (show NatR _ _ [.int .i64 (i : Int)] i from rfl) (by unfold maxLen; omega) (by omega) HI.out.bq.lt ?_); intro A8 c8 ug hc8 own9 hlt8 hb8 hat8; have B9 := HI.out.bq.grw ug.ok (fun e => by have := (HI.out.own.lt _ e.symm).1; omega); have c9 := B9.cell 0; have f9 := B9.frozen 0; have hp9 := HI.out.pushed ug own9 hb8; rw [← HT.out] at hp9; have HP9 := Lib.hid hp9; clear own9 hb8 hlt8 hat8 B9 hp9)
        exact ⟨⟨i + 1, n + 1, A8, c8, by omega, by go_num, HP9, Lib.hid (by rw [HT.out, List.length_append, ← HL.out]; rfl)⟩, by simp [intOf]; omega⟩
      · have p2 : ¬ (m1 : Int) > 0 := by omega
        have hth := thU_no (ss := ss) (i := i) (by omega)
        rw [← hth] at HI HL
        clear hth
        go_wp2_with fail
        exact ⟨⟨i + 1, n, A, c, by omega, by go_num, HI, HL⟩, by simp [intOf]; omega⟩
    · have p1 : ¬ (i : Int) < (N : Int) := by omega
      obtain rfl : i = N := by omega
      have hD := HI.out.below (w2 := wr.drew) (Below.refl _ _).drew
      have hln := HL.out
      subst hln
      obtain ⟨A', c', e1, hc', hr'⟩ := hD.own.rd (S' := fun j => w.heap.size ≤ j) (fun j hj => by have := hD.sq; have := hD.hs; omega) (fun cs x hx => hx)
      injection e1 with e1 _ e2
      subst e1; subst e2
      have HRL := Lib.hid hr'
      have HD := Lib.hid hD
      have hul := thU_len ss i
      have s1 : wr.drew.cell? ⟨w.heap.size, 0, none⟩ = some (.slice As i cs) ∧ wr.drew.cell? ⟨q, 0, none⟩ = some (.slice A (thU ss i).length c) := ⟨hD.bs.cell 0, hD.bq.cell 0⟩
      have hN1 := hNc wr.drew hD.bel
      have lsb := hD.bs.lt
      have lqb := hD.bq.lt
      clear hr' hD
      by_cases hNk : i = k + m
      · have e1 : ((i : Int) != ((k + m : Nat) : Int)) = false := by rw [hNk]; simp
        have e2 : ((i : Int) != ((k : Int) + (m : Int))) = false := by rw [hNk]; simp
        have hbad : thBad k m i ss = (thU ss i).any (oddB ss (thU ss i)) := by unfold thBad; rw [decide_eq_false (by omega), Bool.false_or]
        have HBAD := Lib.hid hbad
        have HNK := Lib.hid hNk
        clear hbad hNk
        go_wp2_with fail
        refine wp_region_held_drew (S := fun w' => w'.cell? ⟨w.heap.size, 0, none⟩ = some (.slice As i cs) ∧ w'.cell? ⟨q, 0, none⟩ = some (.slice A (thU ss i).length c)) (by kernel_rfl) (by first | exact s1 | exact s2 | exact s3) (fun hHeld => ?_)
        refine tkH 0 rfl ?_
        refine tkH 1 rfl ?_
        refine tkH 2 rfl ?_
        refine rdH 3 rfl fun K hK => ?_
        try simp (maxSteps := 2000000) only [zz1, zz2, zz3]
        go_simp
        go_at_call 57
        refine hN1.mono ?_
        rintro e w5 ⟨rfl, hb5⟩
        have hs5 := hb5.size
        have s2 : w5.cell? ⟨w.heap.size, 0, none⟩ = some (.slice As i cs) ∧ w5.cell? ⟨q, 0, none⟩ = some (.slice A (thU ss i).length c) := ⟨(hb5.cell (p := ⟨w.heap.size, 0, none⟩) lsb).trans s1.1, (hb5.cell (p := ⟨q, 0, none⟩) lqb).trans s1.2⟩
        have hD5 := HD.out.below hb5
        have hr5 := HRL.out.below NatR.stable hb5
        have hcon := contains_any (c := c) (cap := #[.pointer (some ⟨w.heap.size, 0, none⟩), .pointer (some ⟨q, 0, none⟩)]) (f := oddB ss (thU ss i)) hr5 (by omega) (Lib.hid call_odd) (Lib.hid fun j W hj hW => odd_any (hD5.bs.below hW) (hD5.bq.below hW) (HR.out.below RowR.stable (hD5.bel.trans (hW.mono hD5.bel.size))) (hr5.below NatR.stable hW) (by omega) (fun u hu => (thU_mem hu).1) (thU_mem (gt_mem hj)).1)
        have HD5 := Lib.hid hD5
        have HR5 := Lib.hid hr5
        clear hN1 hb5 hr5
        try (go_wp2_with fail)
        refine hK.out _ _ (by first | exact s1 | exact s2 | exact s3) (fun hHeld => ?_)
        clear hK K
        try simp (maxSteps := 2000000) only [zz1, zz2, zz3, Act.put, zz4, zz5, zz6]
        refine tkH 4 rfl ?_
        refine tkH 5 rfl ?_
        refine tkH 6 rfl ?_
        refine tkH 7 rfl ?_
        refine rdH 8 rfl fun K hK => ?_
        try simp (maxSteps := 2000000) only [zz1, zz2, zz3]
        go_simp
        go_at_call 206
        refine hcon.mono ?_
        rintro e w6 ⟨rfl, hb6⟩
        have s3 : w6.cell? ⟨w.heap.size, 0, none⟩ = some (.slice As i cs) ∧ w6.cell? ⟨q, 0, none⟩ = some (.slice A (thU ss i).length c) := ⟨(hb6.cell (p := ⟨w.heap.size, 0, none⟩) hD5.bs.lt).trans s2.1, (hb6.cell (p := ⟨q, 0, none⟩) hD5.bq.lt).trans s2.2⟩
        have HD6 := Lib.hid (hD5.below hb6)
        have HR6 := Lib.hid (HR5.out.below NatR.stable hb6)
        rw [← HBAD.out]
        clear hcon hb6 hD5
        try (go_wp2_with fail)
        refine hK.out _ _ (by first | exact s1 | exact s2 | exact s3) (fun hHeld => ?_)
        clear hK K
        try simp (maxSteps := 2000000) only [zz1, zz2, zz3, Act.put, zz4, zz5, zz6]
        refine tkH 9 rfl ?_
        refine tkH 10 rfl ?_
        refine wpAnyH_done (by kernel_rfl) ?_ _
        obtain ⟨B, hB⟩ : ∃ B, B = thBad k m i ss := ⟨_, rfl⟩
        rw [← hB]
        have HBB := Lib.hid hB
        clear hB s1 s2
        cases B with
        | true =>
          go_wp2_with fail
          go_ret2
          exact ⟨HD6.out.bel, .inl ⟨HBB.out.symm, rfl⟩⟩
        | false =>
          have hD7 := HD6.out.below (w2 := w6.drew) (Below.refl _ _).drew
          have s4 : w6.drew.cell? ⟨q, 0, none⟩ = some (.slice A (thU ss i).length c) := hD7.bq.cell 0
          have hK1 := hKc w6.drew hD7.bel
          by_cases hfew : (thU ss i).length < k
          · have p5 : ((thU ss i).length : Int) < (k : Int) := by omega
            go_wp2_with fail
            refine wp_region_held_drew (S := fun w' => w'.cell? ⟨q, 0, none⟩ = some (.slice A (thU ss i).length c)) (by kernel_rfl) (by first | exact s4) (fun hHeld => ?_)
            refine tkH 0 rfl ?_
            refine tkH 1 rfl ?_
            refine tkH 2 rfl ?_
            refine rdH 3 rfl fun K hK => ?_
            try simp (maxSteps := 2000000) only [zz1, zz2, zz3]
            go_simp
            go_at_call 88
            refine hK1.mono ?_
            rintro e w9 ⟨rfl, hw9⟩
            rw [hw9]
            clear hw9 hK1
            try (go_wp2_with fail)
            refine hK.out _ _ (by first | exact s4) (fun hHeld => ?_)
            clear hK K
            try simp (maxSteps := 2000000) only [zz1, zz2, zz3, Act.put, zz4, zz5, zz6]
            refine tkH 4 rfl ?_
            refine tkH 5 rfl ?_
            refine wpAnyH_done (by kernel_rfl) ?_ _
            go_wp2_with fail
            go_ret2
            exact ⟨hD7.bel, .inr (.inl ⟨HBB.out.symm, hfew, rfl⟩)⟩
          · have p5 : ¬ ((thU ss i).length : Int) < (k : Int) := by omega
            go_wp2_with fail
            refine wp_region_held_drew (S := fun w' => w'.cell? ⟨q, 0, none⟩ = some (.slice A (thU ss i).length c)) (by kernel_rfl) (by first | exact s4) (fun hHeld => ?_)
            refine tkH 0 rfl ?_
            refine tkH 1 rfl ?_
            refine tkH 2 rfl ?_
            refine rdH 3 rfl fun K hK => ?_
            try simp (maxSteps := 2000000) only [zz1, zz2, zz3]
            go_simp
            go_at_call 88
            refine hK1.mono ?_
            rintro e w9 ⟨rfl, hw9⟩
            rw [hw9]
            clear hw9 hK1
            try (go_wp2_with fail)
            refine hK.out _ _ (by first | exact s4) (fun hHeld => ?_)
            clear hK K
            try simp (maxSteps := 2000000) only [zz1, zz2, zz3, Act.put, zz4, zz5, zz6]
            refine tkH 4 rfl ?_
            refine tkH 5 rfl ?_
            refine wpAnyH_done (by kernel_rfl) ?_ _
            go_wp2_with fail
            go_ret2
            exact ⟨hD7.bel, .inr (.inr ⟨HBB.out.symm, hfew, A, c, rfl, hc', HR6.out.below NatR.stable (Below.refl _ _).drew⟩)⟩
      · have e1 : ((i : Int) != ((k + m : Nat) : Int)) = true := by simp; omega
        have e2 : ((i : Int) != ((k : Int) + (m : Int))) = true := by simp; omega
        have hbad : thBad k m i ss = true := by unfold thBad; rw [decide_eq_true (by omega), Bool.true_or]
        have HBAD := Lib.hid hbad
        clear hbad hNk
        go_wp2_with fail
        refine wp_region_held_drew (S := fun w' => w'.cell? ⟨w.heap.size, 0, none⟩ = some (.slice As i cs)) (by kernel_rfl) (by first | exact s1.1 | exact s2) (fun hHeld => ?_)
        refine tkH 0 rfl ?_
        refine tkH 1 rfl ?_
        refine tkH 2 rfl ?_
        refine rdH 3 rfl fun K hK => ?_
        try simp (maxSteps := 2000000) only [zz1, zz2, zz3]
        go_simp
        go_at_call 57
        refine hN1.mono ?_
        rintro e w5 ⟨rfl, hb5⟩
        have s2 : w5.cell? ⟨w.heap.size, 0, none⟩ = some (.slice As i cs) := (hb5.cell (p := ⟨w.heap.size, 0, none⟩) lsb).trans s1.1
        have HD5 := Lib.hid (HD.out.below hb5)
        clear hN1 hb5
        try (go_wp2_with fail)
        refine hK.out _ _ (by first | exact s1.1 | exact s2) (fun hHeld => ?_)
        clear hK K
        try simp (maxSteps := 2000000) only [zz1, zz2, zz3, Act.put, zz4, zz5, zz6]
        refine tkH 4 rfl ?_
        refine tkH 5 rfl ?_
        refine skH 6 rfl ?_
        refine skH 7 rfl ?_
        refine skH 8 rfl ?_
        refine tkH 9 rfl ?_
        refine tkH 10 rfl ?_
        refine wpAnyH_done (by kernel_rfl) ?_ _
        go_wp2_with fail
        go_ret2
        exact ⟨HD5.out.bel, .inl ⟨HBAD.out, rfl⟩⟩
end
section

structure OutAt (w : World) (base g n : Nat) (rows : Rws) : Prop where
  cur : ∃ cur : Array Value, BoxAt w g cur ∧ n ≤ cur.size ∧ ∀ i, i < n → ∃ A m c, cur[i]? = some (.slice A m c) ∧ m ≤ c ∧ RdL ByR 1 (fun k => base ≤ k ∧ k ≠ g) w A m (ra rows i)
  len : rows.length = n
  hg : base ≤ g
section
variable {w w' : World} {base g n : Nat} {rows : Rws}
theorem OutAt.below (h : OutAt w base g n rows) (hb : Below w.heap.size w w') : OutAt w' base g n rows := by
  obtain ⟨cur, h1, h2, h3⟩ := h.cur
  refine ⟨⟨cur, h1.below hb, h2, fun i hi => ?_⟩, h.len, h.hg⟩
  obtain ⟨A, m, c, e1, e2, e3⟩ := h3 i hi
  exact ⟨A, m, c, e1, e2, e3.below ByR.stable hb⟩
theorem OutAt.lt (h : OutAt w base g n rows) : g < w.heap.size := by
  obtain ⟨cur, h1, _⟩ := h.cur
  exact h1.lt
theorem OutAt.cellx (h : OutAt w base g n rows) {i : Nat} (hi : i < n) : (∃ v, w.cell? ⟨g, i, none⟩ = some v) ∧ w.frozen? ⟨g, i, none⟩ = false := by
  obtain ⟨cur, h1, h2, h3⟩ := h.cur
  obtain ⟨A, m, c, e1, _⟩ := h3 i hi
  exact ⟨⟨_, (h1.cell i).trans e1⟩, h1.frozen i⟩
theorem OutAt.set (h : OutAt w base g n rows) {i m c : Nat} {A : Option Addr} {r : List Nat} (hi : i < n) (hc : m ≤ c) (hr : RdL ByR 1 (fun k => base ≤ k ∧ k ≠ g) w A m r) :
    OutAt (w.setCell ⟨g, i, none⟩ (.slice A m c)) base g n (rows.set i r) := by
  obtain ⟨cur, h1, h2, h3⟩ := h.cur
  refine ⟨⟨_, h1.set i _, by rw [Array.size_setIfInBounds]; exact h2, fun k hk => ?_⟩, by rw [List.length_set, h.len], h.hg⟩
  rw [ra_set _ _ _ (by rw [h.len]; exact hk)]
  by_cases e : k = i
  · subst e
    rw [if_pos rfl, set_eq (by omega)]
    exact ⟨A, m, c, rfl, hc, hr.setCell ByR.stable (fun h => h.2 rfl) _⟩
  · rw [if_neg e, set_ne (fun h => e h.symm)]
    obtain ⟨A1, m1, c1, e1, e2, e3⟩ := h3 k hk
    exact ⟨A1, m1, c1, e1, e2, e3.setCell ByR.stable (fun h => h.2 rfl) _⟩
theorem OutAt.rd (h : OutAt w base g n rows) : RdL RowR 1 (fun k => base ≤ k) w (some ⟨g, 0, none⟩) n rows := by
  obtain ⟨cur, h1, h2, h3⟩ := h.cur
  refine ⟨h.len, fun _ => ⟨g, 0, rfl, h.hg, h1.lt, fun i x hx => ?_⟩⟩
  have hi : i < n := by rw [← h.len]; exact (List.getElem?_eq_some_iff.1 hx).1
  obtain ⟨A, m, c, e1, e2, e3⟩ := h3 i hi
  rw [ra_some hx] at e3
  refine ⟨[.slice A m c], rfl, ⟨A, m, c, rfl, e2, e3.weaken ByR.stable fun k hk => hk.1⟩, fun j v hj => ?_⟩
  rcases j with _ | j
  · simp at hj; subst hj
    rw [show 0 + i * 1 + 0 = i by omega]
    exact (h1.cell i).trans e1
  · simp at hj
theorem OutAt.made (w : World) (n : Nat) (t : TypeId) : OutAt (w.alloc (.cells (Array.replicate n (.slice none 0 0)) t)) w.heap.size w.heap.size n (List.replicate n []) := by
  refine ⟨⟨_, BoxAt.new _ _ _, by simp, fun i hi => ⟨none, 0, 0, by rw [Array.getElem?_replicate, if_pos hi], Nat.le_refl _, ?_⟩⟩, by simp, Nat.le_refl _⟩
  rw [ra_some (show (List.replicate n ([] : List Nat))[i]? = some [] by rw [List.getElem?_replicate, if_pos hi])]
  exact RdL.nil
end
theorem rowsInfo : (Tryz.prog.info? 68).map (fun i => (i.zero, i.size, i.bytes)) = some (some (.slice none 0 0), 1, 24) := by kernel_rfl
theorem makeRows (k : Nat) (hk : k ≤ 1000000) (w : World) : (Instr.makeSlice 151 (.int .i64 (k : Int)) (.int .i64 (k : Int))).run Tryz.prog w = .ok (.slice (some ⟨w.heap.size, 0, none⟩) k k) (w.alloc (.cells (Array.replicate k (.slice none 0 0)) 68)) := by
  obtain ⟨i, hi, hz, hs, hb⟩ := info_parts rowsInfo
  have h := run_make (P := Tryz.prog) w 151 68 i (.slice none 0 0) (by kernel_rfl) hi hz .i64 .i64 k k (by omega) (by omega) (by rw [hb]; omega) (by omega)
  simp only [Int.toNat_natCast, hs, Nat.mul_one] at h
  rw [h, show (Value.slice none 0 0).cells = #[.slice none 0 0] from rfl, madeCells_r]

def fillOne (k : Nat) (us : List Nat) (ss : Rws) (n i : Nat) : List Nat := if 0 < lenF ss i then ra ss i else madeF (planF k us i) us ss n
def fillU (k : Nat) (us : List Nat) (ss : Rws) (n nr i : Nat) : Rws := (List.range i).map (fillOne k us ss n) ++ List.replicate (nr - i) []
theorem fillU_next {k : Nat} {us : List Nat} {ss : Rws} {n nr i : Nat} (h : i < nr) : (fillU k us ss n nr i).set i (fillOne k us ss n i) = fillU k us ss n nr (i + 1) := by
  unfold fillU
  rw [List.set_append_right _ _ (by simp), List.range_succ, List.map_append, List.append_assoc]
  congr 1
  obtain ⟨d, hd⟩ : ∃ d, nr - i = d + 1 := ⟨nr - i - 1, by omega⟩
  rw [hd, show nr - (i + 1) = d by omega, List.replicate_succ]
  simp
def useT (k N : Nat) (ss : Rws) : List Nat := (thU ss N).take k
def outF (k N nr : Nat) (ss : Rws) : Rws := (List.range nr).map (fillOne k (useT k N ss) ss (lenF ss (gt (useT k N ss) 0)))
def FilE (w : World) (k m N nr : Nat) (ss : Rws) (e : Ending) (w' : World) : Prop := Below w.heap.size w w' ∧
  ((thBad k m N ss = true ∧ e = .returned (.tuple #[.slice none 0 0, .int .i64 2])) ∨
   (thBad k m N ss = false ∧ (thU ss N).length < k ∧ e = .returned (.tuple #[.slice none 0 0, .int .i64 60])) ∨
   (thBad k m N ss = false ∧ ¬ (thU ss N).length < k ∧ ∃ g, e = .returned (.tuple #[.slice (some ⟨g, 0, none⟩) nr nr, .int .i64 0]) ∧ RdL RowR 1 (fun j => w.heap.size ≤ j) w' (some ⟨g, 0, none⟩) nr (outF k N nr ss)))
theorem use_ok {k m N : Nat} {ss : Rws} (hb : thBad k m N ss = false) (hf : ¬ (thU ss N).length < k) (hk : 1 ≤ k) : N = k + m ∧ (useT k N ss).length = k ∧ ∀ u ∈ useT k N ss, u < N ∧ lenF ss u = lenF ss (gt (useT k N ss) 0) := by
  unfold thBad at hb
  rw [Bool.or_eq_false_iff] at hb
  obtain ⟨h1, h2⟩ := hb
  have hul : (useT k N ss).length = k := by unfold useT; rw [List.length_take]; omega
  refine ⟨by simpa using h1, hul, fun u hu => ?_⟩
  have hum : u ∈ thU ss N := List.mem_of_mem_take hu
  refine ⟨(thU_mem hum).1, ?_⟩
  have h3 := List.any_eq_false.1 h2 u hum
  have h4 : gt (useT k N ss) 0 = gt (thU ss N) 0 := by
    unfold useT gt
    rw [List.getD_eq_getElem?_getD, List.getD_eq_getElem?_getD, List.getElem?_take, if_pos (by omega)]
  rw [h4]
  unfold oddB at h3
  simpa using h3
set_option maxRecDepth 100000 in
set_option maxHeartbeats 8000000 in
theorem fill2_any {w : World} {cb b k m N nr cs : Nat} {As : Option Addr} {S : Nat → Prop} {ss : Rws} (H : CodAt w cb b k m) (R : RdL RowR 1 S w As N ss) (hN : N ≤ 1000) (hlen : ∀ i, lenF ss i ≤ 1000000) {g : FuncId} {pre : Array Value} (hnr : nr ≤ k + m)
    (hg : Hid (∀ args w, (callFunc g args).run Tryz.prog w = .ok (.enter g args) w)) (hst : Hid (∀ W, Below w.heap.size w W → Calls Tryz.prog g pre W fun e W' => e = .returned (.int .i64 (nr : Int)) ∧ Below W.heap.size W W'))
    (hI : Hid (thBad k m N ss = false → ¬ (thU ss N).length < k → Inj k (useF k (useT k N ss)))) :
    Calls Tryz.prog 141 #[.pointer (some ⟨cb, 0, none⟩), .slice As N cs, .func (.func g) pre #[]] w fun e w' => FilE w k m N nr ss e w' := by
  have hgg := hg.out
  have HC := Lib.hid H
  have HR := Lib.hid R
  have hk1 := H.k1
  have hm1 := H.m1
  have hkm := H.km
  have q0 : (N : Int) ≤ 1000 := by omega
  have q1 : (nr : Int) ≤ 255 := by omega
  have q2 : (0 : Int) ≤ (nr : Int) := Int.natCast_nonneg _
  have hth := there_any (cs := cs) H R hN
  clear H R
  go_enter Tryz.func141, Tryz.ntmps141
  go_wp2_with fail
  refine hth.mono ?_
  rintro e w1 ⟨hb1, h | h | h⟩
  · obtain ⟨hB, rfl⟩ := h
    have HB := Lib.hid hB
    clear hB hth
    go_wp2_with fail
    go_ret2
    exact ⟨hb1, .inl ⟨HB.out, rfl⟩⟩
  · obtain ⟨hB, hF, rfl⟩ := h
    have HB := Lib.hid hB
    have HF := Lib.hid hF
    clear hB hF hth
    go_wp2_with fail
    go_ret2
    exact ⟨hb1, .inr (.inl ⟨HB.out, HF.out, rfl⟩)⟩
  · obtain ⟨hB, hF, A, c, rfl, hc, hr⟩ := h
    have hinj := hI.out hB hF
    obtain ⟨hNk, hul, huse⟩ := use_ok hB hF hk1
    have HB0 := Lib.hid hB
    have HF := Lib.hid hF
    have hru : RdL NatR 1 (fun j => w.heap.size ≤ j) w1 A k (useT k N ss) := RdL.take hr (by omega)
    have hp := fun w => piece_pre sl_in (A := A) (N := (thU ss N).length) (c := c) (k := k) (by omega) w
    have hnr2 : nr ≤ N := by omega
    have hNle : N ≤ k + m := by omega
    have HU := Lib.hid huse
    have HRU := Lib.hid hru
    have HIN := Lib.hid hinj
    have HHB := Lib.hid hb1
    clear hB hF hth hr hc hNk hinj huse hru
    have hK1 := ck_any (HC.out.below HHB.out)
    go_wp2_with (go_at_call 88; refine hK1.mono ?_; rintro e w9 ⟨rfl, hw9⟩; rw [hw9]; clear hw9 hK1)
    refine (hst.out _ HHB.out).mono ?_
    rintro e w2 ⟨rfl, hb2⟩
    have hb12 := HHB.out.trans (hb2.mono HHB.out.size)
    have hmk := makeRows nr (by omega) w2
    have ho := OutAt.made w2 nr 68
    have hbz : Below w2.heap.size w2 (w2.alloc (.cells (Array.replicate nr (.slice none 0 0)) 68)) := (Below.refl _ _).alloc (Nat.le_refl _) _
    obtain ⟨w3, hw3⟩ : ∃ w3, w2.alloc (.cells (Array.replicate nr (.slice none 0 0)) 68) = w3 := ⟨_, rfl⟩
    rw [hw3] at hmk ho hbz
    obtain ⟨go, hgo⟩ : ∃ go, w2.heap.size = go := ⟨_, rfl⟩
    rw [hgo] at hmk ho
    have hu0 : fillU k (useT k N ss) ss (lenF ss (gt (useT k N ss) 0)) nr 0 = List.replicate nr [] := by unfold fillU; simp
    rw [← hu0] at ho
    have HO := Lib.hid ho
    have HBw := Lib.hid (hb12.trans (hbz.mono hb12.size))
    have hru3 : RdL NatR 1 (fun j => w.heap.size ≤ j ∧ j ≠ go) w3 A k (useT k N ss) := RdL.stable NatR.stable HRU.out fun b hS hlt => ⟨⟨hS, by have := hb2.size; omega⟩, (hb2.trans (hbz.mono hb2.size)).block b hlt⟩
    have HRU3 := Lib.hid hru3
    have hwg : w.heap.size ≤ go := by have := hb12.size; omega
    clear ho hbz hw3 hgo hu0 hb12 hb2 hru3
    go_wp2_with fail
    clear hmk hp
    go_loopw [33] (fun vi wr => ∃ i : Nat, i ≤ nr ∧ vi = .int .i64 i ∧ Hid (OutAt wr go go nr (fillU k (useT k N ss) ss (lenF ss (gt (useT k N ss) 0)) nr i)) ∧ Hid (Below w.heap.size w wr) ∧ Hid (RdL NatR 1 (fun j => w.heap.size ≤ j ∧ j ≠ go) wr A k (useT k N ss))) (fun vi _ => nr - (intOf vi).toNat)
    case atStart => exact ⟨0, Nat.zero_le _, rfl, HO, HBw, HRU3⟩
    case round =>
      clear HO HBw HRU3
      obtain ⟨i, hi, rfl, HO, HB, HRu⟩ := hrel
      have p0 : (0 : Int) ≤ (i : Int) := Int.natCast_nonneg _
      by_cases hlt : i < nr
      · have p1 : (i : Int) < (nr : Int) := by omega
        have hiN : i < N := by omega
        have p9 : (i : Int) < (N : Int) := by omega
        obtain ⟨bb, o, rfl, _, hbb⟩ := HR.out.addr hiN
        obtain ⟨A1, m1, c1, v1, hmc1, r1⟩ := row_at HR.out hiN
        have c1' := (HB.out.cell (p := ⟨bb, o + i, none⟩) hbb).trans v1
        have hm1' : lenF ss i = m1 := r1.1
        have hml := hlen i
        have hfx := fillU_next (k := k) (us := useT k N ss) (ss := ss) (n := lenF ss (gt (useT k N ss) 0)) hlt
        have HFX := Lib.hid hfx
        by_cases hpos : 0 < m1
        · have p2 : (m1 : Int) > 0 := by omega
          have hone : fillOne k (useT k N ss) ss (lenF ss (gt (useT k N ss) 0)) i = ra ss i := by unfold fillOne; rw [if_pos (by omega)]
          have hcl := cloneB_any (c := c1) (Lib.hid (r1.below ByR.stable HB.out)) (by omega)
          have HONE := Lib.hid hone
          clear hone hfx v1 r1
          go_wp2_with (go_at_call 173; refine hcl.mono ?_; rintro e w5 ⟨A5, c5, rfl, hc5, hr5, hb5⟩; have ho5 := HO.out.below hb5; obtain ⟨⟨v5, hv5⟩, f5⟩ := ho5.cellx hlt; have hs5 := HO.out.lt; have hst5 := ho5.set (i := i) hlt hc5 (hr5.weaken ByR.stable (fun j hj => ⟨(by have h9 : wr.heap.size ≤ j := hj; omega), (by have h9 : wr.heap.size ≤ j := hj; omega)⟩)); rw [← HONE.out, HFX.out] at hst5; have HO5 := Lib.hid hst5; have HB5 := Lib.hid ((HB.out.trans (hb5.mono HB.out.size)).setCell (p := ⟨go, i, none⟩) hwg (.slice A5 m1 c5)); have HR5 := Lib.hid ((HRu.out.below NatR.stable hb5).setCell NatR.stable (p := ⟨go, i, none⟩) (fun h => h.2 rfl) (.slice A5 m1 c5)); clear hcl hr5 hb5 ho5 hst5)
          exact ⟨⟨i + 1, by omega, by go_num, HO5, HB5, HR5⟩, by simp [intOf]; omega⟩
        · have p2 : ¬ (m1 : Int) > 0 := by omega
          have hone : fillOne k (useT k N ss) ss (lenF ss (gt (useT k N ss) 0)) i = madeF (planF k (useT k N ss) i) (useT k N ss) ss (lenF ss (gt (useT k N ss) 0)) := by unfold fillOne; rw [if_neg (by omega)]
          have hpl := plan_any (c := c) (HC.out.below HB.out) HRu.out (fun u hu => by have := (HU.out u hu).1; omega) HIN.out (want := i) (by omega)
          have HONE := Lib.hid hone
          have hnl := hlen (gt (useT k N ss) 0)
          clear hone hfx v1 r1
          go_wp2_with fail
          refine hpl.mono ?_
          rintro e w5 ⟨A5, c5, rfl, hc5, hr5, hb5⟩
          have hb05 := HB.out.trans (hb5.mono HB.out.size)
          have hma := made_any (cs := cs) (cu := c) (cw := c5) (HC.out.below hb05) (HR.out.below RowR.stable hb05) (HRu.out.below NatR.stable hb5) hr5 (n := lenF ss (gt (useT k N ss) 0)) (fun u hu => ⟨(HU.out u hu).1, (HU.out u hu).2⟩) hnl
          have ho5 := HO.out.below hb5
          have hs5 := HO.out.lt
          have HO5 := Lib.hid ho5
          have HR5 := Lib.hid (HRu.out.below NatR.stable hb5)
          have HB5 := Lib.hid hb05
          have hsz5 := hb5.size
          clear hpl hr5 hb5 hb05 ho5
          go_wp2_with (go_at_call 175; refine hma.mono ?_; rintro e w6 ⟨A6, c6, rfl, hc6, hr6, hb6⟩; have ho6 := HO5.out.below hb6; obtain ⟨⟨v6, hv6⟩, f6⟩ := ho6.cellx hlt; have hst6 := ho6.set (i := i) hlt hc6 (hr6.weaken ByR.stable (fun j hj => ⟨(by have h9 : w5.heap.size ≤ j := hj; omega), (by have h9 : w5.heap.size ≤ j := hj; omega)⟩)); rw [← HONE.out, HFX.out] at hst6; have HO6 := Lib.hid hst6; have HB6 := Lib.hid ((HB5.out.trans (hb6.mono HB5.out.size)).setCell (p := ⟨go, i, none⟩) hwg (.slice A6 (lenF ss (gt (useT k N ss) 0)) c6)); have HR6 := Lib.hid ((HR5.out.below NatR.stable hb6).setCell NatR.stable (p := ⟨go, i, none⟩) (fun h => h.2 rfl) (.slice A6 (lenF ss (gt (useT k N ss) 0)) c6)); clear hma hr6 hb6 ho6 hst6)
          exact ⟨⟨i + 1, by omega, by go_num, HO6, HB6, HR6⟩, by simp [intOf]; omega⟩
      · have p1 : ¬ (i : Int) < (nr : Int) := by omega
        obtain rfl : i = nr := by omega
        have hen : fillU k (useT k N ss) ss (lenF ss (gt (useT k N ss) 0)) i i = outF k N i ss := by unfold fillU outF; simp
        rw [hen] at HO
        go_wp2_with fail
        go_ret2
        exact ⟨HB.out, .inr (.inr ⟨HB0.out, HF.out, go, rfl, HO.out.rd.weaken RowR.stable (fun j hj => Nat.le_trans hwg hj)⟩)⟩
theorem call_k (args : Array Value) (w : World) : (callFunc 88 args).run Tryz.prog w = .ok (.enter 88 args) w := by go_simp
section
variable {w : World} {cb b k m N cs : Nat} {As : Option Addr} {S : Nat → Prop} {ss : Rws}
theorem ddata_any (H : CodAt w cb b k m) (R : RdL RowR 1 S w As N ss) (hN : N ≤ 1000) (hlen : ∀ i, lenF ss i ≤ 1000000) (hI : Hid (thBad k m N ss = false → ¬ (thU ss N).length < k → Inj k (useF k (useT k N ss)))) :
    Calls Tryz.prog 89 #[.pointer (some ⟨cb, 0, none⟩), .slice As N cs] w fun e w' => FilE w k m N k ss e w' := by
  have hf := fill2_any (cs := cs) (nr := k) H R hN hlen (g := 88) (pre := #[.pointer (some ⟨cb, 0, none⟩)]) (by omega) (Lib.hid call_k)
    (Lib.hid fun W hW => (ck_any (H.below hW)).mono fun e W' h => ⟨h.1, by rw [h.2]; exact Below.refl _ _⟩) hI
  clear H R hlen hI
  go_enter Tryz.func89, Tryz.ntmps89
  go_wp2_with fail
  refine hf.mono ?_
  rintro e w2 ⟨hb, ⟨hB, rfl⟩ | ⟨hB, hF, rfl⟩ | ⟨hB, hF, g, rfl, hr⟩⟩
  · have HB := Lib.hid hB
    clear hB hf
    go_wp2_with fail
    go_ret2
    exact ⟨hb, .inl ⟨HB.out, rfl⟩⟩
  · have HB := Lib.hid hB
    have HF := Lib.hid hF
    clear hB hF hf
    go_wp2_with fail
    go_ret2
    exact ⟨hb, .inr (.inl ⟨HB.out, HF.out, rfl⟩)⟩
  · have HB := Lib.hid hB
    have HF := Lib.hid hF
    have HR := Lib.hid hr
    clear hB hF hf hr
    go_wp2_with fail
    go_ret2
    exact ⟨hb, .inr (.inr ⟨HB.out, HF.out, g, rfl, HR.out⟩)⟩
end
end
section

def numOk (n : Nat) (xs : List Int) : Prop := (∀ x ∈ xs, 0 ≤ x ∧ x < n) ∧ xs.Nodup
instance (n : Nat) (xs : List Int) : Decidable (numOk n xs) := inferInstanceAs (Decidable (_ ∧ _))
end
section
end
section

def badP (k m : Nat) (xs : List Int) (want : Int) : Prop := want < 0 ∨ want ≥ ((k + m : Nat) : Int) ∨ ¬ numOk (k + m) xs
instance (k m : Nat) (xs : List Int) (want : Int) : Decidable (badP k m xs want) := inferInstanceAs (Decidable (_ ∨ _))
end
section

theorem fr_append (a : Nat) : ∀ (l l' : List (Nat × Nat)), fr a (l ++ l') = fr a l ^^^ fr a l'
  | [], l' => (Nat.zero_xor _).symm
  | (b, x) :: l, l' => by
    show gm x (inv (a ^^^ b)) ^^^ fr a (l ++ l') = (gm x (inv (a ^^^ b)) ^^^ fr a l) ^^^ fr a l'
    rw [fr_append a l l', Nat.xor_assoc]
theorem fr_range (a : Nat) (x : Nat → Nat) : ∀ n, fr a ((List.range n).map fun b => (b, x b)) = sumx (fun l => gm (x l) (inv (a ^^^ l))) n
  | 0 => rfl
  | n + 1 => by
    rw [List.range_succ, List.map_append, fr_append, fr_range a x n]
    show _ ^^^ (gm (x n) (inv (a ^^^ n)) ^^^ 0) = _
    rw [Nat.xor_zero]; rfl
theorem fr_filter (a : Nat) (x : Nat → Nat) (p : Nat → Bool) : ∀ l : List Nat, (∀ b ∈ l, p b = false → x b = 0) → fr a ((l.filter p).map fun b => (b, x b)) = fr a (l.map fun b => (b, x b))
  | [], _ => rfl
  | b :: l, h => by
    have ih := fr_filter a x p l fun c hc => h c (List.mem_cons_of_mem _ hc)
    cases hp : p b with
    | true => 
      rw [List.filter_cons_of_pos hp]
      show _ ^^^ fr a ((l.filter p).map _) = _ ^^^ fr a (l.map _)
      rw [ih]
    | false =>
      rw [List.filter_cons_of_neg (by rw [hp]; decide), ih]
      show _ = gm (x b) _ ^^^ fr a (l.map _)
      rw [h b (List.mem_cons_self ..) hp, zero_gm, Nat.zero_xor]
theorem inj_use {k m : Nat} {us : List Nat} (hl : us.length = k) (hnd : us.Nodup) (hlt : ∀ u ∈ us, u < k + m) (hkm : k + m ≤ 255) : Inj k (useF k us) := by
  intro x hx hx0 hz
  have hzu : ∀ u ∈ us, sumx (fun l => gm (fac k u l) (x l)) k = 0 := fun u hu => by
    obtain ⟨i, hi, rfl⟩ := List.mem_iff_getElem.1 hu
    have h := hz i (by omega)
    have hr : ra (useF k us) i = rowF k us[i] := ra_some (by unfold useF; rw [List.getElem?_map, List.getElem?_eq_getElem hi]; rfl)
    rw [hr] at h
    rw [← h]
    exact sumx_cong fun l hl => by rw [rowF_gt hl]
  have hdata : ∀ u ∈ us, u < k → x u = 0 := fun u hu huk => by
    have h := hzu u hu
    rw [sumx_one (j := u) huk fun i _ hne => by unfold fac; rw [if_pos huk, if_neg (fun e => hne e.symm), zero_gm]] at h
    unfold fac at h
    rw [if_pos huk, if_pos rfl, gm_one (hx u)] at h
    exact h
  have hrest : ∀ p ∈ ((List.range k).filter fun b => decide (b ∉ us)).map (fun b => (b, x b)), p.2 = 0 := by
    refine cauchy _ (us.filter fun u => decide (k ≤ u)) ?_ (hnd.filter _) ?_ (fun a ha => ?_) (fun p hp => ?_) (fun a ha p hp => ?_) (fun a ha => ?_)
    · rw [List.length_map]
      have h1 := List.length_eq_countP_add_countP (fun u => decide (k ≤ u)) (l := us)
      have h2 := List.length_eq_countP_add_countP (fun b => decide (b ∉ us)) (l := List.range k)
      have h3 : ((List.range k).filter fun b => decide (b ∈ us)).Perm (us.filter fun u => decide (u < k)) := by
        rw [List.perm_ext_iff_of_nodup (List.nodup_range.filter _) (hnd.filter _)]
        intro a
        simp only [List.mem_filter, List.mem_range, decide_eq_true_eq]
        exact ⟨fun h => ⟨h.2, h.1⟩, fun h => ⟨h.2, h.1⟩⟩
      have h4 := h3.length_eq
      rw [← List.countP_eq_length_filter, ← List.countP_eq_length_filter] at h4
      rw [← List.countP_eq_length_filter, ← List.countP_eq_length_filter]
      rw [List.length_range] at h2
      have h5 : (List.range k).countP (fun a => decide ¬(decide (a ∉ us) = true)) = (List.range k).countP (fun b => decide (b ∈ us)) := by
        congr 1; funext a; simp
      have h6 : us.countP (fun a => decide ¬(decide (k ≤ a) = true)) = us.countP (fun u => decide (u < k)) := by
        congr 1; funext a; simp
      omega
    · rw [List.map_map]
      show (List.map (fun b => b) _).Nodup
      rw [List.map_id']
      exact List.nodup_range.filter _
    · have := hlt a (List.mem_filter.1 ha).1
      omega
    · obtain ⟨b, hb, rfl⟩ := List.mem_map.1 hp
      have := List.mem_range.1 (List.mem_filter.1 hb).1
      exact ⟨by show b < 256; omega, hx b⟩
    · obtain ⟨b, hb, rfl⟩ := List.mem_map.1 hp
      have h1 := List.mem_range.1 (List.mem_filter.1 hb).1
      have h2 : k ≤ a := by simpa using (List.mem_filter.1 ha).2
      show a ≠ b
      omega
    · have hau := (List.mem_filter.1 ha).1
      have h2 : k ≤ a := by simpa using (List.mem_filter.1 ha).2
      rw [fr_filter a x _ _ (fun b hb h => hdata b (by simpa using h) (List.mem_range.1 hb)), fr_range]
      rw [← hzu a hau]
      refine sumx_cong fun l hl => ?_
      unfold fac
      rw [if_neg (by omega), dv_one, gm_comm]
  intro l
  by_cases hlk : l < k
  · by_cases hm : l ∈ us
    · exact hdata l hm hlk
    · exact hrest (l, x l) (List.mem_map.2 ⟨l, List.mem_filter.2 ⟨List.mem_range.2 hlk, by simpa using hm⟩, rfl⟩)
  · exact hx0 l (by omega)
theorem inj_useT {k m N : Nat} {ss : Rws} (hb : thBad k m N ss = false) (hf : ¬ (thU ss N).length < k) (hk : 1 ≤ k) (hkm : k + m ≤ 255) : Inj k (useF k (useT k N ss)) := by
  obtain ⟨h1, h2, h3⟩ := use_ok hb hf hk
  refine inj_use h2 ?_ (fun u hu => by have := (h3 u hu).1; omega) hkm
  unfold useT thU
  exact (List.take_sublist _ _).nodup (List.nodup_range.filter _)
end
section

def evB (ss : Rws) : Bool := ss.all fun r => decide (r.length = (ra ss 0).length)
set_option maxRecDepth 100000 in
set_option maxHeartbeats 4000000 in
theorem even_any {w : World} {A : Option Addr} {N c : Nat} {S : Nat → Prop} {ss : Rws} (R : RdL RowR 1 S w A N ss) (hN : N ≤ 1000) :
    Calls Tryz.prog 176 #[.slice A N c] w fun e w' => e = .returned (.bool (evB ss)) ∧ w' = w := by
  have HR := Lib.hid R
  have hl := R.1
  have q0 : (N : Int) ≤ 1000 := by omega
  clear R
  go_enter Tryz.func176, Tryz.ntmps176
  go_wp2_with fail
  go_loopw [7] (fun vi wr => ∃ i : Nat, i ≤ N ∧ vi = .int .i64 i ∧ wr = w ∧ Hid (∀ j, j < i → (ra ss j).length = (ra ss 0).length)) (fun vi _ => N - (intOf vi).toNat)
  case atStart => exact ⟨0, Nat.zero_le _, rfl, rfl, Lib.hid fun j hj => absurd hj (Nat.not_lt_zero _)⟩
  case round =>
    obtain ⟨i, hi, rfl, hwr, HX⟩ := hrel
    rw [hwr]
    clear hwr
    have p0 : (0 : Int) ≤ (i : Int) := Int.natCast_nonneg _
    by_cases hlt : i < N
    · have p1 : (i : Int) < (N : Int) := by omega
      have p2 : (0 : Int) < (N : Int) := by omega
      obtain ⟨b, o, rfl, _, hb⟩ := HR.out.addr hlt
      obtain ⟨A1, m1, c1, v1, _, r1⟩ := row_at HR.out hlt
      obtain ⟨A0, m0, c0, v0, _, r0⟩ := row_at HR.out (k := 0) (by omega)
      rw [Nat.add_zero] at v0
      have e1 := r1.1
      have e0 := r0.1
      clear r1 r0
      by_cases h : m1 = m0
      · have e2 : ((m1 : Int) != (m0 : Int)) = false := by rw [h]; simp
        have HX2 : Hid (∀ j, j < i + 1 → (ra ss j).length = (ra ss 0).length) := Lib.hid fun j hj => by
          by_cases hji : j = i
          · rw [hji, e1, e0, h]
          · exact HX.out j (by omega)
        clear h e1 e0
        go_wp2_with fail
        exact ⟨⟨i + 1, by omega, by go_num, trivial, HX2⟩, by simp [intOf]; omega⟩
      · have e2 : ((m1 : Int) != (m0 : Int)) = true := by simp; omega
        have hE : evB ss = false := by
          unfold evB
          rw [List.all_eq_false]
          exact ⟨ra ss i, ra_mem (by omega), by simp; omega⟩
        have HE := Lib.hid hE
        clear hE h e1 e0
        go_wp2_with fail
        go_ret
        exact ⟨by rw [HE.out]; rfl, rfl⟩
    · have p1 : ¬ (i : Int) < (N : Int) := by omega
      have hE : evB ss = true := by
        unfold evB
        rw [List.all_eq_true]
        intro r hr
        obtain ⟨j, hj, rfl⟩ := List.mem_iff_getElem.1 hr
        have := HX.out j (by omega)
        rw [ra_some (List.getElem?_eq_getElem hj)] at this
        simpa using this
      have HE := Lib.hid hE
      clear hE
      go_wp2_with fail
      go_ret
      exact ⟨by rw [HE.out]; rfl, rfl⟩
theorem right2_any {w : World} {cb b k m N c : Nat} {A : Option Addr} {S : Nat → Prop} {ss : Rws} (H : CodAt w cb b k m) (R : RdL RowR 1 S w A N ss) (hN : N ≤ 1000) :
    Calls Tryz.prog 142 #[.pointer (some ⟨cb, 0, none⟩), .slice A N c] w fun e w' => e = .returned (.bool (decide (N = k) && evB ss)) ∧ w' = w := by
  obtain ⟨A1, c1, h1, _⟩ := H.box
  have k0 := h1.cell 0
  have hE := even_any (c := c) R hN
  clear h1 H
  go_enter Tryz.func142, Tryz.ntmps142
  by_cases h : N = k
  · have e1 : ((N : Int) == (k : Int)) = true := by rw [h]; simp
    have e2 : (decide (N = k) && evB ss) = evB ss := by rw [decide_eq_true h, Bool.true_and]
    rw [e2]
    clear h e2
    go_wp2_with (go_at_call 176; refine hE.mono ?_; rintro e w9 ⟨rfl, hw9⟩; rw [hw9]; clear hw9)
    go_ret
    exact ⟨rfl, rfl⟩
  · have e1 : ((N : Int) == (k : Int)) = false := by simp; omega
    have e2 : (decide (N = k) && evB ss) = false := by rw [decide_eq_false h, Bool.false_and]
    rw [e2]
    clear h e2 hE
    go_wp2_with fail
    go_ret
    exact ⟨rfl, rfl⟩
theorem of_any {w : World} {A : Option Addr} {n c j : Nat} {S : Nat → Prop} {l : List Nat} (R : RdL ByR 1 S w A n l) (hj : j < n) :
    Calls Tryz.prog 179 #[.slice A n c, .int .i64 (j : Int)] w fun e w' => e = .returned (.int .u8 (gt l j : Int)) ∧ w' = w := by
  obtain ⟨b, o, rfl, _, _⟩ := R.addr hj
  obtain ⟨v1, _⟩ := by_at R hj
  have q1 : (j : Int) < (n : Int) := by omega
  have q2 : (0 : Int) ≤ (j : Int) := Int.natCast_nonneg _
  clear R
  go_enter Tryz.func179, Tryz.ntmps179
  go_wp2_with fail
  go_ret
  exact ⟨rfl, rfl⟩
set_option maxRecDepth 100000 in
set_option maxHeartbeats 4000000 in
theorem sum_any {w : World} {cb b k m n cs cl : Nat} {As Al : Option Addr} {S1 S2 : Nat → Prop} {ss : Rws} {l : List Nat} (H : CodAt w cb b k m) (R1 : RdL RowR 1 S1 w As k ss) (R2 : RdL ByR 1 S2 w Al k l)
    (hev : ∀ r ∈ ss, r.length = n) (hn : n ≤ 1000000) :
    Calls Tryz.prog 178 #[.pointer (some ⟨cb, 0, none⟩), .slice As k cs, .func (.func 179) #[.slice Al k cl] #[]] w fun e w' => ∃ A' c', e = .returned (.slice A' n c') ∧ n ≤ c' ∧ RdL ByR 1 (fun j => w.heap.size ≤ j) w' A' n (combF l ss (List.replicate n 0)) ∧ Below w.heap.size w w' := by
  have HC := Lib.hid H
  have H1 := Lib.hid R1
  have H2 := Lib.hid R2
  have hk1 := H.k1
  have hkm := H.km
  have hsl := R1.1
  have hll := R2.1
  have q0 : (k : Int) ≤ 255 := by omega
  have q1 : (0 : Int) < (k : Int) := by omega
  have hrow : ∀ u, u < k → ∃ bb o, As = some ⟨bb, o, none⟩ ∧ bb < w.heap.size ∧ ∃ A c, w.cell? ⟨bb, o + u, none⟩ = some (.slice A n c) ∧ n ≤ c ∧ RdL ByR 1 S1 w A n (ra ss u) := fun u hu => by
    obtain ⟨bb, o, rfl, _, hb⟩ := R1.addr hu
    obtain ⟨A, mm, c, v, hc, hr⟩ := row_at R1 hu
    have hmm : mm = n := by rw [← hr.1]; exact hev _ (ra_mem (by omega))
    subst hmm
    exact ⟨bb, o, rfl, hb, A, c, v, hc, hr⟩
  have HROW := Lib.hid hrow
  obtain ⟨bs, os, rfl, hbs, Ar, cr, v0, hcr, hr0⟩ := hrow 0 (by omega)
  rw [Nat.add_zero] at v0
  have q4 : (n : Int) ≤ 1000000 := by omega
  have q5 : (0 : Int) ≤ (n : Int) := Int.natCast_nonneg _
  have hmk := makeBy n (by omega) w
  have hz := RowIn.made w n 5
  have hbz : Below w.heap.size w (w.alloc (.cells (Array.replicate n (.int .u8 0)) 5)) := (Below.refl _ _).alloc (Nat.le_refl _) _
  have hzr := hz.rd (S := fun j => w.heap.size ≤ j) (Nat.le_refl _)
  rw [List.length_replicate] at hzr
  obtain ⟨wA, hwA⟩ : ∃ wA, w.alloc (.cells (Array.replicate n (.int .u8 0)) 5) = wA := ⟨_, rfl⟩
  rw [hwA] at hmk hbz hzr
  have HZ := Lib.hid hzr
  have HBZ := Lib.hid hbz
  clear H R1 R2 hrow hz hbz hzr hwA hr0
  go_enter Tryz.func178, Tryz.ntmps178
  go_wp2_with fail
  clear hmk
  go_loopw [7, 17] (fun vs vi wr => ∃ (i : Nat) (A : Option Addr) (c : Nat), i ≤ k ∧ vi = .int .i64 i ∧ vs = .slice A n c ∧ n ≤ c ∧ Hid (RdL ByR 1 (fun j => w.heap.size ≤ j) wr A n (combF (l.take i) (ss.take i) (List.replicate n 0))) ∧ Hid (Below w.heap.size w wr)) (fun _ vi _ => k - (intOf vi).toNat)
  case atStart => exact ⟨0, _, n, Nat.zero_le _, rfl, rfl, Nat.le_refl _, by rw [List.take_zero, List.take_zero]; exact HZ, HBZ⟩
  case round =>
    clear HZ HBZ v0
    obtain ⟨i, A, c, hi, rfl, rfl, hc, HR, HB⟩ := hrel
    have p0 : (0 : Int) ≤ (i : Int) := Int.natCast_nonneg _
    by_cases hlt : i < k
    · have p1 : (i : Int) < (k : Int) := by omega
      obtain ⟨b2, o2, e2, _, A1, c1, v1, hc1, hr1⟩ := HROW.out i hlt
      injection e2 with e2
      injection e2 with e2 e3
      subst e2; subst e3
      have hbd : Below w.heap.size w wr.drew := HB.out.drew
      have v1' := (HB.out.cell (p := ⟨bs, os + i, none⟩) hbs).trans v1
      have hC := HC.out.below hbd
      obtain ⟨A9, c9, hbx, _⟩ := hC.box
      have s1 : wr.drew.cell? ⟨cb, 2, none⟩ = some (.pointer (some ⟨b, 0, none⟩)) := hbx.cell 2
      have hcl := hbx.lt
      have x1 : gt l i < 256 := gt_lt (by_byt H2.out) i
      have hof := of_any (w := wr.drew) (c := cl) (H2.out.below ByR.stable hbd) hlt
      have hfo := fold_any (w := wr.drew) (cp := c1) (cp2 := c) hC.fld x1 (hr1.below ByR.stable hbd) hn hc1 (HR.out.below ByR.stable (Below.refl _ _).drew) hn
      rw [← combF_take (by omega) (by omega)] at hfo
      clear hr1 hC hbx v1
      go_wp2_with fail
      refine wp_region_held_drew (S := fun w' => w'.cell? ⟨cb, 2, none⟩ = some (.pointer (some ⟨b, 0, none⟩))) (by kernel_rfl) (by first | exact s1 | exact s2) (fun hHeld => ?_)
      refine tkH 0 rfl ?_
      refine tkH 1 rfl ?_
      refine tkH 2 rfl ?_
      refine tkH 3 rfl ?_
      refine tkH 4 rfl ?_
      refine tkH 5 rfl ?_
      refine tkH 7 rfl ?_
      refine tkH 8 rfl ?_
      refine rdH 6 rfl fun K hK => ?_
      try simp (maxSteps := 2000000) only [zz1, zz2, zz3]
      go_simp
      go_at_call 179
      refine hof.mono ?_
      rintro e w9 ⟨rfl, hw9⟩
      rw [hw9]
      clear hw9 hof
      try (go_wp2_with fail)
      refine hK.out _ _ (by first | exact s1 | exact s2) (fun hHeld => ?_)
      clear hK K
      try simp (maxSteps := 2000000) only [zz1, zz2, zz3, Act.put, zz4, zz5, zz6]
      refine rdH 9 rfl fun K hK => ?_
      try simp (maxSteps := 2000000) only [zz1, zz2, zz3]
      go_simp
      go_at_call 210
      refine hfo.mono ?_
      rintro e w6 ⟨AN, cN, rfl, hcN, hrs, hb6⟩
      have hs9 := HB.out.size
      have s2 : w6.cell? ⟨cb, 2, none⟩ = some (.pointer (some ⟨b, 0, none⟩)) := (hb6.cell (p := ⟨cb, 2, none⟩) hcl).trans s1
      have HRS := Lib.hid (hrs.weaken ByR.stable (S' := fun j => w.heap.size ≤ j) (fun j hj => Nat.le_trans hs9 hj))
      have HB6 := Lib.hid (hbd.trans (hb6.mono hs9))
      clear hrs hb6 hfo
      try (go_wp2_with fail)
      refine hK.out _ _ (by first | exact s1 | exact s2) (fun hHeld => ?_)
      clear hK K
      try simp (maxSteps := 2000000) only [zz1, zz2, zz3, Act.put, zz4, zz5, zz6]
      refine tkH 10 rfl ?_
      refine wpAnyH_done (by kernel_rfl) ?_ _
      clear s1 s2 hHeld v1'
      go_wp2_with fail
      exact ⟨⟨i + 1, AN, cN, by omega, by go_num, rfl, hcN, HRS, HB6⟩, by simp [intOf]; omega⟩
    · have p1 : ¬ (i : Int) < (k : Int) := by omega
      obtain rfl : i = k := by omega
      rw [List.take_of_length_le (by omega), List.take_of_length_le (by omega)] at HR
      go_wp2_with fail
      go_ret
      exact ⟨A, c, rfl, hc, HR.out, HB.out⟩
end
section

def encU (k : Nat) (ss : Rws) (n i : Nat) : Rws := (List.range i).map fun j => combF (rowF k (k + j)) ss (List.replicate n 0)
theorem encU_next (k : Nat) (ss : Rws) (n i : Nat) : encU k ss n (i + 1) = encU k ss n i ++ [combF (rowF k (k + i)) ss (List.replicate n 0)] := by unfold encU; rw [List.range_succ, List.map_append]; rfl
def lenF0 (ss : Rws) : Nat := (ra ss 0).length
def goodB (k N : Nat) (ss : Rws) : Bool := decide (N = k) && evB ss
def EncE (w : World) (k m N : Nat) (ss : Rws) (e : Ending) (w' : World) : Prop := Below w.heap.size w w' ∧
  ((goodB k N ss = false ∧ e = .returned (.tuple #[.slice none 0 0, .int .i64 2])) ∨
   (goodB k N ss = true ∧ ∃ A c, e = .returned (.tuple #[.slice A m c, .int .i64 0]) ∧ RdL RowR 1 (fun j => w.heap.size ≤ j) w' A m (encU k ss (lenF0 ss) m)))
theorem evB_all {ss : Rws} (h : evB ss = true) : ∀ r ∈ ss, r.length = (ra ss 0).length := fun r hr => by
  unfold evB at h
  rw [List.all_eq_true] at h
  simpa using h r hr
set_option maxRecDepth 100000 in
set_option maxHeartbeats 8000000 in
theorem encode_any {w : World} {cb b k m N cs : Nat} {As : Option Addr} {S : Nat → Prop} {ss : Rws} (H : CodAt w cb b k m) (R : RdL RowR 1 S w As N ss) (hN : N ≤ 1000) (hlen : (ra ss 0).length ≤ 1000000) :
    Calls Tryz.prog 144 #[.pointer (some ⟨cb, 0, none⟩), .slice As N cs] w fun e w' => EncE w k m N ss e w' := by
  have HC := Lib.hid H
  have HR := Lib.hid R
  have hk1 := H.k1
  have hm1 := H.m1
  have hkm := H.km
  have hNo := none_any H
  have hRi := right2_any (c := cs) H R hN
  have q0 : (0 : Int) ≤ (m : Int) := Int.natCast_nonneg _
  have q1 : (m : Int) ≤ 255 := by omega
  have q2 : (k : Int) ≤ 255 := by omega
  have q3 : (0 : Int) ≤ (k : Int) := Int.natCast_nonneg _
  obtain ⟨A0, c0, hbx, _⟩ := H.box
  have k0 := hbx.cell 0
  have k1 := hbx.cell 1
  have hcl := hbx.lt
  clear H R hbx
  go_enter Tryz.func144, Tryz.ntmps144
  go_wp2_with (go_at_call 121; refine hNo.mono ?_; rintro e w9 ⟨rfl, hw9⟩; rw [hw9]; clear hw9 hNo)
  obtain ⟨B, hB⟩ : ∃ B, B = (decide (N = k) && evB ss) := ⟨_, rfl⟩
  rw [← hB] at hRi
  refine hRi.mono ?_
  rintro e w9 ⟨rfl, hw9⟩
  rw [hw9]
  clear hw9 hRi
  have HB := Lib.hid hB
  cases B with
  | false =>
    clear hB
    go_wp2_with fail
    go_ret2
    exact ⟨Below.refl _ _, .inl ⟨HB.out.symm, rfl⟩⟩
  | true =>
    have hNk : N = k ∧ evB ss = true := by
      have h := hB.symm
      rw [Bool.and_eq_true] at h
      exact ⟨by simpa using h.1, h.2⟩
    obtain ⟨hNk, hev⟩ := hNk
    subst hNk
    have hall := evB_all hev
    have HALL := Lib.hid hall
    have HGO : Hid (goodB N N ss = true) := Lib.hid (by unfold goodB; rw [decide_eq_true rfl, hev]; rfl)
    clear hB hev hall HB
    go_wp2_with (at_make; refine wpList_make0 RowR (fun j => w.heap.size ≤ j) sl_rows rfl rfl (base := w.heap.size) rfl rfl m (by omega) (by omega) (by unfold maxLen; omega) (by (first | (with_reducible exact Nat.le_refl _) | omega | (simp only [World.size_alloc, World.size_setCell, World.size_drew] <;> omega))) ?_; intro y hys hown; have c1 := (y.cell (o := 1) hcl).trans k1; have HO := Lib.hid hown; have HY := Lib.hid (show Below w.heap.size w y.to from y.ok); clear hown hys)
    go_loopw [6, 28] (fun vs vi wr => ∃ (i : Nat) (A : Option Addr) (c : Nat), i ≤ m ∧ vi = .int .i64 i ∧ vs = .slice A i c ∧ i ≤ c ∧ Hid (OwnL RowR 68 1 w.heap.size (fun j => w.heap.size ≤ j) wr (.slice A i c) i (encU N ss (lenF0 ss) i)) ∧ Hid (Below w.heap.size w wr)) (fun _ vi _ => m - (intOf vi).toNat)
    case atStart => exact ⟨0, _, _, Nat.zero_le _, rfl, rfl, Nat.zero_le _, HO, HY⟩
    case round =>
      clear HO HY c1
      obtain ⟨i, A, c, hi, rfl, rfl, hc, HO, HY⟩ := hrel
      have p0 : (0 : Int) ≤ (i : Int) := Int.natCast_nonneg _
      by_cases hlt : i < m
      · have p1 : (i : Int) < (m : Int) := by omega
        have c0' := (HY.out.cell (p := ⟨cb, 0, none⟩) hcl).trans k0
        have hrow := crow_any (HC.out.below HY.out) (i := N + i) (by omega)
        rw [Int.natCast_add] at hrow
        have hnx := encU_next N ss (lenF0 ss) i
        have HNX := Lib.hid hnx
        have hsz := HY.out.size
        clear hnx
        go_wp2_with fail
        refine hrow.mono ?_
        rintro e w2 ⟨g, rfl, hr2, hb2⟩
        have hb02 := HY.out.trans (hb2.mono hsz)
        have hsum := sum_any (cs := cs) (cl := N) (HC.out.below hb02) (HR.out.below RowR.stable hb02) hr2 HALL.out hlen
        have HO2 := Lib.hid (HO.out.keep RowR.stable hb2)
        have hs2 := hb2.size
        have HB02 := Lib.hid hb02
        clear hrow hr2 hb2 hb02
        go_wp2_with fail
        refine hsum.mono ?_
        rintro e w3 ⟨A3, c3, rfl, hc3, hr3, hb3⟩
        have HB3 := Lib.hid (HB02.out.trans (hb3.mono HB02.out.size))
        have HO3 := Lib.hid (HO2.out.keep RowR.stable hb3)
        have hy3 : RowR (Go.Cib.Rest (fun j => w.heap.size ≤ j) (.slice A i c)) w3 [.slice A3 (lenF0 ss) c3] (combF (rowF N (N + i)) ss (List.replicate (lenF0 ss) 0)) := ⟨A3, _, c3, rfl, hc3, hr3.weaken ByR.stable fun j hj => ⟨by have h9 : w2.heap.size ≤ j := hj; show _ ≤ j; omega, fun e => by have h9 : w2.heap.size ≤ j := hj; have := (HO2.out.lt _ e.symm).2; omega⟩⟩
        have hs3 := HB3.out.size
        clear hsum hr3 hb3
        go_wp2_with (at_builtin; go_must (refine wpList_push1 RowR.stable RowR.one sl_rows (by rfl) (by rfl) (base := w.heap.size) (S := fun j => w.heap.size ≤ j) (cs := #[.slice A3 (lenF0 ss) c3]) (y := combF (rowF N (N + i)) ss (List.replicate (lenF0 ss) 0)) (by rfl) (by rfl) HO3.out (by rfl) hy3 (by unfold maxLen; omega) (by omega) hs3 ?_); intro A8 c8 ug hc8 own9 hlt8 hb8 hat8; rw [← HNX.out] at own9; have HO9 := Lib.hid own9; have HB9 := Lib.hid (HB3.out.trans hb8); clear own9 hb8 hlt8 hat8)
        exact ⟨⟨i + 1, A8, c8, by omega, by go_num, rfl, hc8, HO9, HB9⟩, by simp [intOf]; omega⟩
      · have p1 : ¬ (i : Int) < (m : Int) := by omega
        obtain rfl : i = m := by omega
        go_wp2_with fail
        go_ret2
        obtain ⟨A', c', e, _, hr⟩ := HO.out.rd (S' := fun j => w.heap.size ≤ j) (fun _ hk => hk) (fun cs x hx => RowR.stable _ _ _ _ _ _ hx fun b hb _ => ⟨hb.1, rfl⟩)
        injection e with e1 _ e2
        subst e1; subst e2
        exact ⟨HY.out, .inr ⟨HGO.out, A, c, rfl, hr⟩⟩
end
end Go.Proofs.YtihnlhfngmbglaaGreat
