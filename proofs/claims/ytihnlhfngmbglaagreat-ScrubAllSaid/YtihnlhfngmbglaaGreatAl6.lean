/-
  The product of two matrices.
  The coder: how it lies; its small functions.
  How a shard comes of the data.
  A coder is made.
  How the data comes of k shards.
  The factors by which a shard is the sum of k others.
  A shard as the sum of others; which shards there are.
  Which shards there are, and whether they are alike.
-/
import Derived.Test.YtihnlhfngmbglaaGreatAl5
set_option linter.unusedSimpArgs false
set_option linter.unusedVariables false
namespace Go.Proofs.YtihnlhfngmbglaaGreat
open Go.RowKit Go.Cib
attribute [local go_sem] cell_set Later.cell Later.frozen Grw.cell Grw.frozen
section

/-- Rows, each times a factor, added to z. -/
def combF : List Nat → Rws → List Nat → List Nat
  | c :: cs, r :: rs, z => combF cs rs (fd c r z)
  | _, _, z => z
theorem combF_snoc : ∀ (cs : List Nat) (rs : Rws) (c : Nat) (r z : List Nat), cs.length = rs.length → combF (cs ++ [c]) (rs ++ [r]) z = fd c r (combF cs rs z)
  | [], [], _, _, _, _ => rfl
  | [], _ :: _, _, _, _, h => by cases h
  | _ :: _, [], _, _, _, h => by cases h
  | c' :: cs, r' :: rs, c, r, z, h => combF_snoc cs rs c r (fd c' r' z) (by simpa using h)
theorem combF_take {u : List Nat} {B : Rws} {z : List Nat} {j : Nat} (hj : j < u.length) (hb : j < B.length) : combF (u.take (j + 1)) (B.take (j + 1)) z = fd (gt u j) (ra B j) (combF (u.take j) (B.take j) z) := by
  rw [take_gt hj, show B.take (j + 1) = B.take j ++ [ra B j] by rw [List.take_add_one, ra_of_lt hb]; rfl, combF_snoc _ _ _ _ _ (by rw [List.length_take, List.length_take]; omega)]
theorem combF_ok {m : Nat} : ∀ (cs : List Nat) (rs : Rws) (z : List Nat), z.length = m → Byt z → (combF cs rs z).length = m ∧ Byt (combF cs rs z)
  | [], _, _, h, h2 => ⟨h, h2⟩
  | _ :: _, [], _, h, h2 => ⟨h, h2⟩
  | c :: cs, r :: rs, z, h, h2 => combF_ok cs rs (fd c r z) (by rw [fd_len]; exact h) (fd_byt _ _ _ h2)
def mulF (U B : Rws) (m : Nat) : Rws := U.map fun u => combF u B (List.replicate m 0)
theorem mulF_take {U B : Rws} {r n m i : Nat} (hU : Shp r n U) (hi : i < r) : ((mulF U B m).take (i + 1)).flatten = ((mulF U B m).take i).flatten ++ combF (ra U i) B (List.replicate m 0) := by
  have h1 : (mulF U B m)[i]? = some (combF (ra U i) B (List.replicate m 0)) := by unfold mulF; rw [List.getElem?_map, ra_of_lt (by rw [hU.1]; exact hi)]; rfl
  rw [List.take_add_one, h1, List.flatten_append]
  simp
theorem byt_zeros (m : Nat) : Byt (List.replicate m 0) := fun x hx => by rw [(List.mem_replicate.1 hx).2]; omega
theorem FilI.appended {w0 w2 : World} {rb q rows cols n m : Nat} {A A' : Option Addr} {c c' : Nat} {xs ys : List Nat} (h : FilI w0 w2 rb q rows cols n A c xs) {u : World} (hg : w2.grownBy u (Value.slice A n c).ownBlock)
    (hown : OwnL ByR 5 1 (rb + 1) (fun _ => True) u (.slice A' (n + m) c') (n + m) (xs ++ ys))
    (hat : Value.ownBlock (.slice A' (n + m) c') = (Value.slice A n c).ownBlock ∨ Value.ownBlock (.slice A' (n + m) c') = some w2.heap.size) :
    FilI w0 (u.setCell ⟨q, 2, none⟩ (.slice A' (n + m) c')) rb q rows cols (n + m) A' c' (xs ++ ys) := by
  have hl := h.bq.lt
  have hl2 := h.br.lt
  have hb : Below w0.heap.size w2 u := ⟨hg.os, hg.tape, hg.output, hg.size, fun k hk => hg.block k (Nat.lt_of_lt_of_le hk h.bel.size) (fun e => by have h1 := (h.own.lt k e.symm).1; have := h.hr; omega)⟩
  have hne : ∀ k, k < w2.heap.size → some k ≠ (Value.slice A n c).ownBlock → some k ≠ Value.ownBlock (.slice A' (n + m) c') := fun k hk h1 => by
    rcases hat with e | e
    · rw [e]; exact h1
    · rw [e]; intro h2; injection h2 with h2; omega
  refine ⟨?_, ?_, ?_, hne q hl h.nq, hne rb hl2 h.nr, h.qr, h.hr, h.hq, (h.bel.trans hb).setCell h.hq _⟩
  · obtain ⟨css, h1, h2, h3, h4, h5⟩ := hown
    refine ⟨css, h1.kept (row := some q) ⟨rfl, rfl, rfl, by simp, fun k _ hk => Below.heap_setCell _ _ _ _ (fun e => hk (by rw [e]))⟩ ?_, h2, h3, h4, fun i cs x hc hx => h5 i cs x hc hx⟩
    exact .inr fun e => hne q hl h.nq e.symm
  · have := (h.bq.grw hg h.nq).set 2 (.slice A' (n + m) c')
    simpa using this
  · exact (h.br.grw hg h.nr).set_other (by exact h.qr) _
set_option maxRecDepth 100000 in
set_option maxHeartbeats 16000000 in
theorem mmul_any {w : World} {b r n m c1 c2 : Nat} {A1 A2 : Option Addr} {S : Nat → Prop} {U B : Rws} (F : Fld w b) (hU : Shp r n U) (hB : Shp n m B) (h1 : 1 ≤ r) (h2 : r ≤ 255) (h3 : 1 ≤ n) (h4 : n ≤ 255) (h5 : 1 ≤ m) (h6 : m ≤ 255)
    (R1 : RdL ByR 1 S w A1 (r * n) U.flatten) (R2 : RdL ByR 1 S w A2 (n * m) B.flatten) (hc1 : r * n ≤ c1) (hc2 : n * m ≤ c2) :
    Calls Tryz.prog 208 #[.pointer (some ⟨b, 0, none⟩), .agg #[.int .i64 (r : Int), .int .i64 (n : Int), .slice A1 (r * n) c1], .agg #[.int .i64 (n : Int), .int .i64 (m : Int), .slice A2 (n * m) c2]] w fun e w' => ∃ A' c',
      e = .returned (.tuple #[.agg #[.int .i64 (r : Int), .int .i64 (m : Int), .slice A' (r * m) c'], .int .i64 0]) ∧ r * m ≤ c' ∧ RdL ByR 1 (fun k => w.heap.size ≤ k) w' A' (r * m) (mulF U B m).flatten ∧ Below w.heap.size w w' := by
  have HR1 := Lib.hid R1
  have HR2 := Lib.hid R2
  have HF := Lib.hid F
  have q1 : (r : Int) ≤ 255 := by omega
  have q2 : (0 : Int) ≤ (r : Int) := Int.natCast_nonneg _
  have q3 : (n : Int) ≤ 255 := by omega
  have q4 : (0 : Int) ≤ (n : Int) := Int.natCast_nonneg _
  have q5 : (m : Int) ≤ 255 := by omega
  have q6 : (0 : Int) ≤ (m : Int) := Int.natCast_nonneg _
  have hmx : r * m ≤ 65025 := Nat.mul_le_mul h2 h6
  have q7 : IntKind.i64.wrap ((r : Int) * (m : Int)) = ((r * m : Nat) : Int) := by
    rw [IntKind.wrap_i64, ← Int.natCast_mul]; omega
  clear R1 R2 F
  go_enter Tryz.func208, Tryz.ntmps208
  go_wp2_with fail
  have ha1 := ((BoxAt.new w #[.int .i64 (r : Int), .int .i64 (n : Int), .slice A1 (r * n) c1] 181).alloc (.cells #[.int .i64 (n : Int), .int .i64 (m : Int), .slice A2 (n * m) c2] 181)).alloc (.cells #[.int .i64 0, .int .i64 0, .slice none 0 0] 181)
  have hb1 := (BoxAt.new (w.alloc (.cells #[.int .i64 (r : Int), .int .i64 (n : Int), .slice A1 (r * n) c1] 181)) #[.int .i64 (n : Int), .int .i64 (m : Int), .slice A2 (n * m) c2] 181).alloc (.cells #[.int .i64 0, .int .i64 0, .slice none 0 0] 181)
  have hr1 := BoxAt.new ((w.alloc (.cells #[.int .i64 (r : Int), .int .i64 (n : Int), .slice A1 (r * n) c1] 181)).alloc (.cells #[.int .i64 (n : Int), .int .i64 (m : Int), .slice A2 (n * m) c2] 181)) #[.int .i64 0, .int .i64 0, .slice none 0 0] 181
  have hbe : Below w.heap.size w (((w.alloc (.cells #[.int .i64 (r : Int), .int .i64 (n : Int), .slice A1 (r * n) c1] 181)).alloc (.cells #[.int .i64 (n : Int), .int .i64 (m : Int), .slice A2 (n * m) c2] 181)).alloc (.cells #[.int .i64 0, .int .i64 0, .slice none 0 0] 181)) := (by repeat (first | (with_reducible exact Below.refl _ _) | (with_reducible assumption) | (with_reducible refine Below.drew ?_) | (with_reducible refine Below.setCell ?_ ?_ _) | (with_reducible refine Below.alloc ?_ ?_ _) | (with_reducible refine Below.later ?_ ?_ _) | (first | (with_reducible exact Nat.le_refl _) | omega | (simp only [World.size_alloc, World.size_setCell, World.size_drew] <;> omega))))
  simp only [World.size_alloc] at ha1 hb1 hr1
  generalize (((w.alloc (.cells #[.int .i64 (r : Int), .int .i64 (n : Int), .slice A1 (r * n) c1] 181)).alloc (.cells #[.int .i64 (n : Int), .int .i64 (m : Int), .slice A2 (n * m) c2] 181)).alloc (.cells #[.int .i64 0, .int .i64 0, .slice none 0 0] 181)) = w1 at *
  refine (nobody_any (HF.out.below hbe)).mono ?_
  rintro e w2 ⟨rfl, t2⟩
  replace hbe := hbe.trans (t2.mono hbe.size)
  replace ha1 := ha1.below t2
  replace hb1 := hb1.below t2
  replace hr1 := hr1.below t2
  have a0 := ha1.cell 0
  have a1 := ha1.cell 1
  have a2 := ha1.cell 2
  have b0 := hb1.cell 0
  have b1 := hb1.cell 1
  have b2 := hb1.cell 2
  clear t2
  go_wp2_with fail
  refine (right_ok h1 h2 h3 h4).mono ?_
  rintro e w3 ⟨rfl, t2⟩
  replace hbe := hbe.trans (t2.mono hbe.size)
  replace ha1 := ha1.below t2
  replace hb1 := hb1.below t2
  replace hr1 := hr1.below t2
  replace a0 := ha1.cell 0
  replace a1 := ha1.cell 1
  replace a2 := ha1.cell 2
  replace b0 := hb1.cell 0
  replace b1 := hb1.cell 1
  replace b2 := hb1.cell 2
  clear t2
  go_wp2_with fail
  refine (right_ok h3 h4 h5 h6).mono ?_
  rintro e w4 ⟨rfl, t2⟩
  replace hbe := hbe.trans (t2.mono hbe.size)
  replace ha1 := ha1.below t2
  replace hb1 := hb1.below t2
  replace hr1 := hr1.below t2
  replace a0 := ha1.cell 0
  replace a1 := ha1.cell 1
  replace a2 := ha1.cell 2
  replace b0 := hb1.cell 0
  replace b1 := hb1.cell 1
  replace b2 := hb1.cell 2
  clear t2
  go_wp2_with fail
  have hab := ha1.lt
  have hbb := hb1.lt
  have hrb := hr1.lt
  have hs4 := hbe.size
  have s1 : w4.drew.cell? ⟨w.heap.size, 0, none⟩ = some (.int .i64 r) ∧ w4.drew.cell? ⟨w.heap.size + 1, 1, none⟩ = some (.int .i64 m) := ⟨a0, b1⟩
  have keepB : ∀ w', Below w4.drew.heap.size w4.drew w' → w'.cell? ⟨w.heap.size, 0, none⟩ = some (.int .i64 r) ∧ w'.cell? ⟨w.heap.size + 1, 1, none⟩ = some (.int .i64 m) := fun w' h => ⟨(h.cell (p := ⟨w.heap.size, 0, none⟩) hab).trans a0, (h.cell (p := ⟨w.heap.size + 1, 1, none⟩) hbb).trans b1⟩
  have KB := Lib.hid keepB
  have HA := Lib.hid ha1
  have HBx := Lib.hid hb1
  have HRx := Lib.hid hr1
  have HBE := Lib.hid hbe
  have hd4 : w4.drew.heap.size = w4.heap.size := rfl
  clear keepB ha1 hb1 hr1 hbe
  refine wp_region_held_drew (S := fun w' => w'.cell? ⟨w.heap.size, 0, none⟩ = some (.int .i64 r) ∧ w'.cell? ⟨w.heap.size + 1, 1, none⟩ = some (.int .i64 m)) (by kernel_rfl) (by first | exact s1 | exact KB.out _ (by assumption)) (fun hHeld => ?_)
  refine tkH 0 rfl ?_
  refine tkH 1 rfl ?_
  refine tkH 2 rfl ?_
  refine tkH 3 rfl ?_
  refine tkH 4 rfl ?_
  refine tkH 5 rfl ?_
  refine tkH 6 rfl ?_
  refine tkH 7 rfl ?_
  refine tkH 8 rfl ?_
  refine wpAnyH_ready (rs := [9, 11]) (by kernel_rfl) (by simp) ?_
  refine AllReadyH.cons rfl (fun K hK => ?_) (AllReadyH.cons rfl (fun K hK => ?_) AllReadyH.nil)
  · refine step_law (by rfl) (wpList_make0 ByR (fun _ => True) sl_by (by rfl) (by rfl) (base := w.heap.size + 1 + 1 + 1) (by rfl) (by rfl) (r * m) (by omega) (by omega) (by unfold maxLen; omega) (by first | omega | (show _ ≤ (w4.alloc _).heap.size; rw [World.size_alloc]; omega)) ?_)
    intro y hys hown
    refine And.intro rfl ?_
    have hyb : Below w4.drew.heap.size w4.drew y.to := y.ok
    refine hK.out _ _ (by exact KB.out _ hyb) (fun hHeld => ?_)
    clear hK K
    try simp (maxSteps := 2000000) only [zz1, zz2, zz3, Act.put, zz4, zz5, zz6]
    refine tkH 10 rfl ?_
    refine rdH 11 rfl fun K hK => ?_
    try simp (maxSteps := 2000000) only [zz1, zz2, zz3]
    go_simp
    refine hK.out _ _ (KB.out _ (y.ok.alloc y.ok.size _)) (fun hHeld => ?_)
    clear hK K
    try simp (maxSteps := 2000000) only [zz1, zz2, zz3, Act.put, zz4, zz5, zz6]
    refine rdH 12 rfl fun K hK => ?_
    try simp (maxSteps := 2000000) only [zz1, zz2, zz3]
    go_simp
    refine hK.out _ _ (KB.out _ (y.ok.alloc y.ok.size _)) (fun hHeld => ?_)
    clear hK K
    try simp (maxSteps := 2000000) only [zz1, zz2, zz3, Act.put, zz4, zz5, zz6]
    refine wpAnyH_done (by kernel_rfl) ?_ _
    have hq : FilI w (y.to.alloc (.cells #[.int .i64 (r : Int), .int .i64 (m : Int), .slice (some ⟨w4.heap.size, 0, none⟩) 0 (r * m)] 181)) (w.heap.size + 1 + 1) y.to.heap.size r m 0 (some ⟨w4.heap.size, 0, none⟩) (r * m) [] ∧ Below w4.heap.size w4 (y.to.alloc (.cells #[.int .i64 (r : Int), .int .i64 (m : Int), .slice (some ⟨w4.heap.size, 0, none⟩) 0 (r * m)] 181)) ∧ (∀ k, (Value.slice (some ⟨w4.heap.size, 0, none⟩) 0 (r * m)).ownBlock = some k → w4.heap.size ≤ k) ∧ w4.heap.size ≤ y.to.heap.size := by
      have hb9 : Below w4.heap.size w4 y.to := (Below.refl _ _).drew.trans y.ok
      have hys' : w4.heap.size < y.to.heap.size := hys
      refine ⟨⟨OwnL.alloc ByR.stable hown _, BoxAt.new _ _ _, (HRx.out.below hb9).alloc _, fun e => ?_, fun e => ?_, by omega, by omega, by omega, (HBE.out.trans (hb9.mono hs4)).alloc (by omega) _⟩, hb9.alloc (by omega) _, fun k hk => by injection hk with hk; dsimp only at hk; omega, by omega⟩
      · injection e with e; dsimp only at e; omega
      · injection e with e; dsimp only at e; omega
    obtain ⟨hFQ, hbQ, hoQ, hgQ⟩ := hq
    have HQG := Lib.hid hgQ
    generalize hwQ : (y.to.alloc (.cells #[.int .i64 (r : Int), .int .i64 (m : Int), .slice (some ⟨w4.heap.size, 0, none⟩) 0 (r * m)] 181)) = wQ at *
    clear hwQ
    generalize hqq : (y.to.heap.size) = q at *
    clear hqq
    have HFQ := Lib.hid hFQ
    have HBQ := Lib.hid hbQ
    have HOQ := Lib.hid hoQ
    have aQ := (HA.out.below hbQ).cell 0
    clear hFQ hbQ hoQ hgQ hown s1 hHeld
    go_wp2_with fail
    go_loopw [47] (fun vi wr => ∃ (i : Nat) (A : Option Addr) (c : Nat), i ≤ r ∧ vi = .int .i64 i ∧ Hid (FilI w wr (w.heap.size + 1 + 1) (q) r m (i * m) A c ((mulF U B m).take i).flatten) ∧ Hid (Below w4.heap.size w4 wr) ∧ Hid (∀ k, (Value.slice A (i * m) c).ownBlock = some k → w4.heap.size ≤ k)) (fun vi _ => r - (intOf vi).toNat)
    case atStart => exact ⟨0, _, _, Nat.zero_le _, rfl, by rw [Nat.zero_mul]; exact HFQ, HBQ, HOQ⟩
    case round =>
      obtain ⟨wo, rfl⟩ : ∃ wo, wo = wr := ⟨_, rfl⟩
      clear HFQ HBQ HOQ aQ
      obtain ⟨i, A, c, hi, rfl, HI, HB, HOB⟩ := hrel
      have p0 : (0 : Int) ≤ (i : Int) := Int.natCast_nonneg _
      by_cases hlt : i < r
      · have p1 : (i : Int) < (r : Int) := by omega
        have x0 := (HA.out.below HB.out).cell 1
        have x1 := (HA.out.below HB.out).cell 2
        have y1 := (HBx.out.below HB.out).cell 1
        have y2 := (HBx.out.below HB.out).cell 2
        have hmk := makeBy m (by omega) wo
        have hz := RowIn.made wo m 5
        have hbz : Below wo.heap.size wo (wo.alloc (.cells (Array.replicate m (.int .u8 0)) 5)) := (Below.refl _ _).alloc (Nat.le_refl _) _
        have hzr := hz.rd (S := fun k => wo.heap.size ≤ k) (Nat.le_refl _)
        rw [List.length_replicate] at hzr
        obtain ⟨w5, hw5⟩ : ∃ w5, wo.alloc (.cells (Array.replicate m (.int .u8 0)) 5) = w5 := ⟨_, rfl⟩
        rw [hw5] at hmk hbz hzr
        have x0' := ((HA.out.below HB.out).below hbz).cell 1
        have x1' := ((HA.out.below HB.out).below hbz).cell 2
        have hrow1 := fun w' => row_any (w := w') (A := A1) (Nat.mul_le_mul hlt (Nat.le_refl n)) hc1 (by omega : i ≤ 255) h4 h3
        have HZ := Lib.hid hzr
        have HBZ := Lib.hid hbz
        clear hz hzr hw5 hbz
        go_wp2_with (go_at_call 238; refine (hrow1 _).mono ?_; rintro e w9 ⟨rfl, hw9⟩; rw [hw9]; clear hw9)
        clear hrow1 hmk x0 x1 x0' x1'
        have hul := (hU.row hlt).1
        have hBl := hB.1
        go_loopw [10, 60] (fun vs vj wr => ∃ (j : Nat) (As : Option Addr) (cs : Nat), j ≤ n ∧ vj = .int .i64 j ∧ vs = .slice As m cs ∧ m ≤ cs ∧ Hid (RdL ByR 1 (fun k => wo.heap.size ≤ k) wr As m (combF ((ra U i).take j) (B.take j) (List.replicate m 0))) ∧ Hid (Below wo.heap.size wo wr)) (fun _ vj _ => n - (intOf vj).toNat)
        case atStart => exact ⟨0, _, m, Nat.zero_le _, rfl, rfl, Nat.le_refl _, by rw [List.take_zero, List.take_zero]; exact HZ, HBZ⟩
        case round =>
          clear HZ HBZ y1 y2
          obtain ⟨j, As, cs, hj, rfl, rfl, hcs, HS, HBj⟩ := hrel
          have p2 : (0 : Int) ≤ (j : Int) := Int.natCast_nonneg _
          have hbw : Below w4.heap.size w4 wr := HB.out.trans (HBj.out.mono HB.out.size)
          have hbl : Below w.heap.size w wr := HBE.out.trans (hbw.mono HBE.out.size)
          by_cases hlj : j < n
          · have p3 : (j : Int) < (n : Int) := by omega
            have y1 := (HBx.out.below hbw).cell 1
            have y2 := (HBx.out.below hbw).cell 2
            have hr1 := row_rd hU (HR1.out.below ByR.stable hbl) hlt h3
            obtain ⟨b4, o4, e4, _, l4⟩ := hr1.addr hlj
            rw [e4] at hr1 ⊢
            obtain ⟨v4, x4⟩ := by_at hr1 hlj
            have hr2 := row_rd hB (HR2.out.below ByR.stable hbl) hlj h5
            have hrow2 := fun w' => row_any (w := w') (A := A2) (Nat.mul_le_mul hlj (Nat.le_refl m)) hc2 (by omega : j ≤ 255) h6 h5
            have hfo := fold_any (w := wr) (cp := m) (cp2 := cs) (HF.out.below hbl) x4 hr2 (by omega) (Nat.le_refl _) HS.out (by omega)
            rw [← combF_take (by omega) (by omega)] at hfo
            clear hr1 hr2 hbw hbl
            go_wp2_with (first | (go_at_call 238; refine (hrow2 _).mono ?_; rintro e w9 ⟨rfl, hw9⟩; rw [hw9]; clear hw9) | (go_at_call 210; refine hfo.mono ?_; rintro e w6 ⟨AN, cN, rfl, hcN, hrs, hb6⟩; have HRS := Lib.hid (hrs.weaken ByR.stable (S' := fun k => wo.heap.size ≤ k) (fun k hk => Nat.le_trans HBj.out.size hk)); have HB6 := Lib.hid (HBj.out.trans (hb6.mono HBj.out.size)); clear hrs hb6 hfo))
            exact ⟨⟨j + 1, AN, cN, by omega, by go_num, rfl, hcN, HRS, HB6⟩, by simp [intOf]; omega⟩
          · have p3 : ¬ (j : Int) < (n : Int) := by omega
            obtain rfl : j = n := by omega
            rw [List.take_of_length_le (by omega), List.take_of_length_le (by omega)] at HS
            have hFj := HI.out.below HBj.out
            have z2 := hFj.bq.cell 2
            have hsum : i * m + m ≤ 65025 := by
              have := Nat.mul_le_mul (show i + 1 ≤ r from hlt) (Nat.le_refl m)
              rw [Nat.succ_mul] at this
              omega
            have HFj := Lib.hid hFj
            clear hFj hbl
            go_wp2_with (at_builtin; go_must (refine wpList_appL ByR.stable ByR.one sl_by rfl (by exact rfl) (base := w.heap.size + 1 + 1 + 1) (S := fun _ => True) (by exact rfl) HFj.out.own (by exact rfl) HS.out (fun _ _ h => h) (by unfold maxLen; omega) (by omega) HFj.out.br.lt ?_); intro A7 c7 w7 hc7 hown7 hg7 hat7; have B9 := HFj.out.bq.grw hg7 HFj.out.nq; have c9 := B9.cell 2; have f9 := B9.frozen 2; have hp7 := HFj.out.appended hg7 hown7 hat7; have hb7 : Below w4.heap.size w4 w7 := hbw.trans ⟨hg7.os, hg7.tape, hg7.output, hg7.size, fun k hk => hg7.block k (Nat.lt_of_lt_of_le hk hbw.size) (fun e => by have := HOB.out k e.symm; omega)⟩; have ho7 : ∀ k, (Value.slice A7 (i * m + m) c7).ownBlock = some k → w4.heap.size ≤ k := fun k hk => (by rcases hat7 with e | e; (rw [e] at hk; exact HOB.out k hk); (rw [e] at hk; injection hk with hk; have := hbw.size; omega)); rw [← mulF_take hU hlt] at hp7; have hp8 : FilI w (w7.setCell ⟨q, 2, none⟩ (.slice A7 (i * m + m) c7)) (w.heap.size + 1 + 1) (q) r m ((i + 1) * m) A7 c7 ((mulF U B m).take (i + 1)).flatten := (by rw [Nat.succ_mul]; exact hp7); have HP7 := Lib.hid hp8; have HB7 := Lib.hid (hb7.setCell (p := ⟨q, 2, none⟩) HQG.out (.slice A7 (i * m + m) c7)); have ho8 : ∀ k, (Value.slice A7 ((i + 1) * m) c7).ownBlock = some k → w4.heap.size ≤ k := (by rw [Nat.succ_mul]; exact ho7); have HO7 := Lib.hid ho8; clear hp7 hp8 hb7 ho7 ho8 hown7 hg7 hat7 B9)
            exact ⟨⟨i + 1, A7, c7, by omega, by go_num, HP7, HB7, HO7⟩, by simp [intOf]; omega⟩
      · have p1 : ¬ (i : Int) < (r : Int) := by omega
        obtain rfl : i = r := by omega
        have b0 := HI.out.bq.cell 0
        have b1 := HI.out.bq.cell 1
        have b2 := HI.out.bq.cell 2
        have r0 := HI.out.br.cell 0
        have r1 := HI.out.br.cell 1
        have r2 := HI.out.br.cell 2
        have f0 := HI.out.br.frozen 0
        have f1 := HI.out.br.frozen 1
        have f2 := HI.out.br.frozen 2
        rw [List.take_of_length_le (by unfold mulF; rw [List.length_map, hU.1]; exact Nat.le_refl _)] at HI
        go_wp2_with fail
        refine bodyPost_ret (v := .tuple #[.agg #[.int .i64 (i : Int), .int .i64 (m : Int), .slice A (i * m) c], .int .i64 0]) (by simp [results, Tryz.results208, go_sem, *]) rfl ?_
        obtain ⟨A', c', e1, hc, hr⟩ := HI.out.own.rd (S' := fun k => w.heap.size + 1 + 1 < k) (fun _ hk => hk) (fun cs x hx => hx)
        injection e1 with e1 _ e2
        subst e1; subst e2
        refine ⟨A, c, rfl, hc, RdL.weaken ByR.stable (S := fun k => w.heap.size + 1 + 1 < k) ?_ (fun k hk => by have h9 : w.heap.size + 1 + 1 < k := hk; show _ ≤ k; omega), ?_⟩
        · repeat (first | exact hr | refine RdL.setCell ByR.stable ?_ (show ¬ _ < _ by dsimp only; omega) _)
        · repeat (first | exact HI.out.bel | refine Below.setCell ?_ (by dsimp only; omega) _)
  · try simp (maxSteps := 2000000) only [zz1, zz2, zz3]
    go_simp
    refine hK.out _ _ (KB.out _ ((Below.refl _ _).alloc (Nat.le_refl _) _)) (fun hHeld => ?_)
    clear hK K
    try simp (maxSteps := 2000000) only [zz1, zz2, zz3, Act.put, zz4, zz5, zz6]
    refine rdH 9 rfl fun K hK => ?_
    refine step_law (by rfl) (wpList_make0 ByR (fun _ => True) sl_by (by rfl) (by rfl) (base := w.heap.size + 1 + 1 + 1) (by rfl) (by rfl) (r * m) (by omega) (by omega) (by unfold maxLen; omega) (by first | omega | (show _ ≤ (w4.alloc _).heap.size; rw [World.size_alloc]; omega)) ?_)
    intro y hys hown
    refine And.intro rfl ?_
    have hyb : Below w4.drew.heap.size w4.drew y.to := ((Below.refl _ _).alloc (Nat.le_refl _) _).trans (y.ok.mono (by show w4.heap.size ≤ (w4.alloc _).heap.size; rw [World.size_alloc]; omega))
    refine hK.out _ _ (by exact KB.out _ hyb) (fun hHeld => ?_)
    clear hK K
    try simp (maxSteps := 2000000) only [zz1, zz2, zz3, Act.put, zz4, zz5, zz6]
    refine tkH 10 rfl ?_
    refine rdH 12 rfl fun K hK => ?_
    try simp (maxSteps := 2000000) only [zz1, zz2, zz3]
    go_simp
    refine hK.out _ _ (KB.out _ (((hyb.setCell (by exact Nat.le_refl _) _).setCell (by exact Nat.le_refl _) _).setCell (by exact Nat.le_refl _) _)) (fun hHeld => ?_)
    clear hK K
    try simp (maxSteps := 2000000) only [zz1, zz2, zz3, Act.put, zz4, zz5, zz6]
    refine wpAnyH_done (by kernel_rfl) ?_ _
    simp only [World.size_drew, World.size_alloc] at hown hys
    have hq : FilI w (((y.to.setCell ⟨w4.heap.size, 0, none⟩ (.int .i64 (r : Int))).setCell ⟨w4.heap.size, 1, none⟩ (.int .i64 (m : Int))).setCell ⟨w4.heap.size, 2, none⟩ (.slice (some ⟨w4.heap.size + 1, 0, none⟩) 0 (r * m))) (w.heap.size + 1 + 1) w4.heap.size r m 0 (some ⟨w4.heap.size + 1, 0, none⟩) (r * m) [] ∧ Below w4.heap.size w4 (((y.to.setCell ⟨w4.heap.size, 0, none⟩ (.int .i64 (r : Int))).setCell ⟨w4.heap.size, 1, none⟩ (.int .i64 (m : Int))).setCell ⟨w4.heap.size, 2, none⟩ (.slice (some ⟨w4.heap.size + 1, 0, none⟩) 0 (r * m))) ∧ (∀ k, (Value.slice (some ⟨w4.heap.size + 1, 0, none⟩) 0 (r * m)).ownBlock = some k → w4.heap.size ≤ k) ∧ w4.heap.size ≤ w4.heap.size := by
      have hb9 : Below w4.heap.size w4 y.to := (Below.refl _ _).drew.trans hyb
      have hbs : Below w4.heap.size w4 (((y.to.setCell ⟨w4.heap.size, 0, none⟩ (.int .i64 (r : Int))).setCell ⟨w4.heap.size, 1, none⟩ (.int .i64 (m : Int))).setCell ⟨w4.heap.size, 2, none⟩ (.slice (some ⟨w4.heap.size + 1, 0, none⟩) 0 (r * m))) := ((hb9.setCell (by exact Nat.le_refl _) _).setCell (by exact Nat.le_refl _) _).setCell (by exact Nat.le_refl _) _
      have hbq := ((((BoxAt.new w4 #[.int .i64 0, .int .i64 0, .slice none 0 0] 181).below (w' := y.to) ((Below.refl _ _).drew.trans y.ok)).set 0 (.int .i64 (r : Int))).set 1 (.int .i64 (m : Int))).set 2 (.slice (some ⟨w4.heap.size + 1, 0, none⟩) 0 (r * m))
      refine ⟨⟨?_, by simpa using hbq, HRx.out.below hbs, fun e => ?_, fun e => ?_, by omega, by omega, by omega, HBE.out.trans (hbs.mono hs4)⟩, hbs, fun k hk => by injection hk with hk; dsimp only at hk; omega, Nat.le_refl _⟩
      · obtain ⟨css, h1, h2, h3, h4, h5⟩ := hown
        refine ⟨css, h1.kept (row := some w4.heap.size) ⟨rfl, rfl, rfl, by simp, fun k _ hk => ?_⟩ (.inr (fun e => by injection e with e; dsimp only at e; omega)), h2, h3, h4, fun i cs x hc hx => h5 i cs x hc hx⟩
        have hk2 : k ≠ w4.heap.size := fun e => hk (by rw [e])
        exact (Below.heap_setCell _ _ _ _ hk2).trans ((Below.heap_setCell _ _ _ _ hk2).trans (Below.heap_setCell _ _ _ _ hk2))
      · injection e with e; dsimp only at e; omega
      · injection e with e; dsimp only at e; omega
    obtain ⟨hFQ, hbQ, hoQ, hgQ⟩ := hq
    have HQG := Lib.hid hgQ
    generalize hwQ : (((y.to.setCell ⟨w4.heap.size, 0, none⟩ (.int .i64 (r : Int))).setCell ⟨w4.heap.size, 1, none⟩ (.int .i64 (m : Int))).setCell ⟨w4.heap.size, 2, none⟩ (.slice (some ⟨w4.heap.size + 1, 0, none⟩) 0 (r * m))) = wQ at *
    clear hwQ
    skip
    have HFQ := Lib.hid hFQ
    have HBQ := Lib.hid hbQ
    have HOQ := Lib.hid hoQ
    have aQ := (HA.out.below hbQ).cell 0
    clear hFQ hbQ hoQ hgQ hown s1 hHeld
    go_wp2_with fail
    go_loopw [47] (fun vi wr => ∃ (i : Nat) (A : Option Addr) (c : Nat), i ≤ r ∧ vi = .int .i64 i ∧ Hid (FilI w wr (w.heap.size + 1 + 1) (w4.heap.size) r m (i * m) A c ((mulF U B m).take i).flatten) ∧ Hid (Below w4.heap.size w4 wr) ∧ Hid (∀ k, (Value.slice A (i * m) c).ownBlock = some k → w4.heap.size ≤ k)) (fun vi _ => r - (intOf vi).toNat)
    case atStart => exact ⟨0, _, _, Nat.zero_le _, rfl, by rw [Nat.zero_mul]; exact HFQ, HBQ, HOQ⟩
    case round =>
      obtain ⟨wo, rfl⟩ : ∃ wo, wo = wr := ⟨_, rfl⟩
      clear HFQ HBQ HOQ aQ
      obtain ⟨i, A, c, hi, rfl, HI, HB, HOB⟩ := hrel
      have p0 : (0 : Int) ≤ (i : Int) := Int.natCast_nonneg _
      by_cases hlt : i < r
      · have p1 : (i : Int) < (r : Int) := by omega
        have x0 := (HA.out.below HB.out).cell 1
        have x1 := (HA.out.below HB.out).cell 2
        have y1 := (HBx.out.below HB.out).cell 1
        have y2 := (HBx.out.below HB.out).cell 2
        have hmk := makeBy m (by omega) wo
        have hz := RowIn.made wo m 5
        have hbz : Below wo.heap.size wo (wo.alloc (.cells (Array.replicate m (.int .u8 0)) 5)) := (Below.refl _ _).alloc (Nat.le_refl _) _
        have hzr := hz.rd (S := fun k => wo.heap.size ≤ k) (Nat.le_refl _)
        rw [List.length_replicate] at hzr
        obtain ⟨w5, hw5⟩ : ∃ w5, wo.alloc (.cells (Array.replicate m (.int .u8 0)) 5) = w5 := ⟨_, rfl⟩
        rw [hw5] at hmk hbz hzr
        have x0' := ((HA.out.below HB.out).below hbz).cell 1
        have x1' := ((HA.out.below HB.out).below hbz).cell 2
        have hrow1 := fun w' => row_any (w := w') (A := A1) (Nat.mul_le_mul hlt (Nat.le_refl n)) hc1 (by omega : i ≤ 255) h4 h3
        have HZ := Lib.hid hzr
        have HBZ := Lib.hid hbz
        clear hz hzr hw5 hbz
        go_wp2_with (go_at_call 238; refine (hrow1 _).mono ?_; rintro e w9 ⟨rfl, hw9⟩; rw [hw9]; clear hw9)
        clear hrow1 hmk x0 x1 x0' x1'
        have hul := (hU.row hlt).1
        have hBl := hB.1
        go_loopw [10, 60] (fun vs vj wr => ∃ (j : Nat) (As : Option Addr) (cs : Nat), j ≤ n ∧ vj = .int .i64 j ∧ vs = .slice As m cs ∧ m ≤ cs ∧ Hid (RdL ByR 1 (fun k => wo.heap.size ≤ k) wr As m (combF ((ra U i).take j) (B.take j) (List.replicate m 0))) ∧ Hid (Below wo.heap.size wo wr)) (fun _ vj _ => n - (intOf vj).toNat)
        case atStart => exact ⟨0, _, m, Nat.zero_le _, rfl, rfl, Nat.le_refl _, by rw [List.take_zero, List.take_zero]; exact HZ, HBZ⟩
        case round =>
          clear HZ HBZ y1 y2
          obtain ⟨j, As, cs, hj, rfl, rfl, hcs, HS, HBj⟩ := hrel
          have p2 : (0 : Int) ≤ (j : Int) := Int.natCast_nonneg _
          have hbw : Below w4.heap.size w4 wr := HB.out.trans (HBj.out.mono HB.out.size)
          have hbl : Below w.heap.size w wr := HBE.out.trans (hbw.mono HBE.out.size)
          by_cases hlj : j < n
          · have p3 : (j : Int) < (n : Int) := by omega
            have y1 := (HBx.out.below hbw).cell 1
            have y2 := (HBx.out.below hbw).cell 2
            have hr1 := row_rd hU (HR1.out.below ByR.stable hbl) hlt h3
            obtain ⟨b4, o4, e4, _, l4⟩ := hr1.addr hlj
            rw [e4] at hr1 ⊢
            obtain ⟨v4, x4⟩ := by_at hr1 hlj
            have hr2 := row_rd hB (HR2.out.below ByR.stable hbl) hlj h5
            have hrow2 := fun w' => row_any (w := w') (A := A2) (Nat.mul_le_mul hlj (Nat.le_refl m)) hc2 (by omega : j ≤ 255) h6 h5
            have hfo := fold_any (w := wr) (cp := m) (cp2 := cs) (HF.out.below hbl) x4 hr2 (by omega) (Nat.le_refl _) HS.out (by omega)
            rw [← combF_take (by omega) (by omega)] at hfo
            clear hr1 hr2 hbw hbl
            go_wp2_with (first | (go_at_call 238; refine (hrow2 _).mono ?_; rintro e w9 ⟨rfl, hw9⟩; rw [hw9]; clear hw9) | (go_at_call 210; refine hfo.mono ?_; rintro e w6 ⟨AN, cN, rfl, hcN, hrs, hb6⟩; have HRS := Lib.hid (hrs.weaken ByR.stable (S' := fun k => wo.heap.size ≤ k) (fun k hk => Nat.le_trans HBj.out.size hk)); have HB6 := Lib.hid (HBj.out.trans (hb6.mono HBj.out.size)); clear hrs hb6 hfo))
            exact ⟨⟨j + 1, AN, cN, by omega, by go_num, rfl, hcN, HRS, HB6⟩, by simp [intOf]; omega⟩
          · have p3 : ¬ (j : Int) < (n : Int) := by omega
            obtain rfl : j = n := by omega
            rw [List.take_of_length_le (by omega), List.take_of_length_le (by omega)] at HS
            have hFj := HI.out.below HBj.out
            have z2 := hFj.bq.cell 2
            have hsum : i * m + m ≤ 65025 := by
              have := Nat.mul_le_mul (show i + 1 ≤ r from hlt) (Nat.le_refl m)
              rw [Nat.succ_mul] at this
              omega
            have HFj := Lib.hid hFj
            clear hFj hbl
            go_wp2_with (at_builtin; go_must (refine wpList_appL ByR.stable ByR.one sl_by rfl (by exact rfl) (base := w.heap.size + 1 + 1 + 1) (S := fun _ => True) (by exact rfl) HFj.out.own (by exact rfl) HS.out (fun _ _ h => h) (by unfold maxLen; omega) (by omega) HFj.out.br.lt ?_); intro A7 c7 w7 hc7 hown7 hg7 hat7; have B9 := HFj.out.bq.grw hg7 HFj.out.nq; have c9 := B9.cell 2; have f9 := B9.frozen 2; have hp7 := HFj.out.appended hg7 hown7 hat7; have hb7 : Below w4.heap.size w4 w7 := hbw.trans ⟨hg7.os, hg7.tape, hg7.output, hg7.size, fun k hk => hg7.block k (Nat.lt_of_lt_of_le hk hbw.size) (fun e => by have := HOB.out k e.symm; omega)⟩; have ho7 : ∀ k, (Value.slice A7 (i * m + m) c7).ownBlock = some k → w4.heap.size ≤ k := fun k hk => (by rcases hat7 with e | e; (rw [e] at hk; exact HOB.out k hk); (rw [e] at hk; injection hk with hk; have := hbw.size; omega)); rw [← mulF_take hU hlt] at hp7; have hp8 : FilI w (w7.setCell ⟨w4.heap.size, 2, none⟩ (.slice A7 (i * m + m) c7)) (w.heap.size + 1 + 1) (w4.heap.size) r m ((i + 1) * m) A7 c7 ((mulF U B m).take (i + 1)).flatten := (by rw [Nat.succ_mul]; exact hp7); have HP7 := Lib.hid hp8; have HB7 := Lib.hid (hb7.setCell (p := ⟨w4.heap.size, 2, none⟩) HQG.out (.slice A7 (i * m + m) c7)); have ho8 : ∀ k, (Value.slice A7 ((i + 1) * m) c7).ownBlock = some k → w4.heap.size ≤ k := (by rw [Nat.succ_mul]; exact ho7); have HO7 := Lib.hid ho8; clear hp7 hp8 hb7 ho7 ho8 hown7 hg7 hat7 B9)
            exact ⟨⟨i + 1, A7, c7, by omega, by go_num, HP7, HB7, HO7⟩, by simp [intOf]; omega⟩
      · have p1 : ¬ (i : Int) < (r : Int) := by omega
        obtain rfl : i = r := by omega
        have b0 := HI.out.bq.cell 0
        have b1 := HI.out.bq.cell 1
        have b2 := HI.out.bq.cell 2
        have r0 := HI.out.br.cell 0
        have r1 := HI.out.br.cell 1
        have r2 := HI.out.br.cell 2
        have f0 := HI.out.br.frozen 0
        have f1 := HI.out.br.frozen 1
        have f2 := HI.out.br.frozen 2
        rw [List.take_of_length_le (by unfold mulF; rw [List.length_map, hU.1]; exact Nat.le_refl _)] at HI
        go_wp2_with fail
        refine bodyPost_ret (v := .tuple #[.agg #[.int .i64 (i : Int), .int .i64 (m : Int), .slice A (i * m) c], .int .i64 0]) (by simp [results, Tryz.results208, go_sem, *]) rfl ?_
        obtain ⟨A', c', e1, hc, hr⟩ := HI.out.own.rd (S' := fun k => w.heap.size + 1 + 1 < k) (fun _ hk => hk) (fun cs x hx => hx)
        injection e1 with e1 _ e2
        subst e1; subst e2
        refine ⟨A, c, rfl, hc, RdL.weaken ByR.stable (S := fun k => w.heap.size + 1 + 1 < k) ?_ (fun k hk => by have h9 : w.heap.size + 1 + 1 < k := hk; show _ ≤ k; omega), ?_⟩
        · repeat (first | exact hr | refine RdL.setCell ByR.stable ?_ (show ¬ _ < _ by dsimp only; omega) _)
        · repeat (first | exact HI.out.bel | refine Below.setCell ?_ (by dsimp only; omega) _)
end
section

def risF (a b : Nat) : List Nat := (List.range (b - a)).map (a + ·)
theorem risF_gt {a b i : Nat} (h : i < b - a) : gt (risF a b) i = a + i := range_gt h
theorem risF_nodup (k m : Nat) : (risF k (k + m) ++ risF 0 k).Nodup := by
  have h1 : ∀ a b, (risF a b).Nodup := fun a b => by
    unfold risF
    exact List.Pairwise.map _ (fun x y h h2 => h (by omega)) List.nodup_range
  rw [List.nodup_append]
  refine ⟨h1 _ _, h1 _ _, fun x hx y hy e => ?_⟩
  obtain ⟨i, _, rfl⟩ := List.mem_map.1 hx
  obtain ⟨j, hj, rfl⟩ := List.mem_map.1 hy
  have := List.mem_range.1 hj
  omega
/-- The factor of data row j in shard i. -/
def fac (k i j : Nat) : Nat := if i < k then (if i = j then 1 else 0) else dv 1 (i ^^^ j)
def rowF (k i : Nat) : List Nat := (List.range k).map (fac k i)
theorem fac_lt (k i j : Nat) : fac k i j < 256 := by
  unfold fac
  split
  · split <;> decide
  · exact gm_lt
theorem rowF_len (k i : Nat) : (rowF k i).length = k := by unfold rowF; simp
theorem rowF_byt (k i : Nat) : Byt (rowF k i) := fun x hx => by
  obtain ⟨j, _, rfl⟩ := List.mem_map.1 hx
  exact fac_lt k i j
theorem rowF_gt {k i j : Nat} (hj : j < k) : gt (rowF k i) j = fac k i j := range_gt hj
theorem cau_gt {k m i j : Nat} (hi : i < m) (hj : j < k) : gt (flatF (cauF (risF k (k + m)) (risF 0 k)) m k) (i * k + j) = fac k (k + i) j := by
  have hs : Shp m k (mkF (cauF (risF k (k + m)) (risF 0 k)) m k) := mkF_shp fun _ _ _ _ => gm_lt
  rw [mkF_flat, flat_get hs hi hj, mkF_ra hi, range_gt hj]
  unfold cauF fac
  rw [risF_gt (by omega), risF_gt (by omega), if_neg (by omega), Nat.zero_add]

structure CodAt (w : World) (cb b k m : Nat) : Prop where
  box : ∃ A c, BoxAt w cb #[.int .i64 (k : Int), .int .i64 (m : Int), .pointer (some ⟨b, 0, none⟩), .int .i64 (m : Int), .int .i64 (k : Int), .slice A (m * k) c] ∧ m * k ≤ c ∧
    RdL ByR 1 (fun _ => True) w A (m * k) (flatF (cauF (risF k (k + m)) (risF 0 k)) m k)
  fld : Fld w b
  k1 : 1 ≤ k
  m1 : 1 ≤ m
  km : k + m ≤ 255
theorem CodAt.below {w w' : World} {cb b k m : Nat} (h : CodAt w cb b k m) (hb : Below w.heap.size w w') : CodAt w' cb b k m := by
  obtain ⟨A, c, h1, h2, h3⟩ := h.box
  exact ⟨⟨A, c, h1.below hb, h2, h3.below ByR.stable hb⟩, h.fld.below hb, h.k1, h.m1, h.km⟩
section
variable {w : World} {cb b k m : Nat}
theorem none_any (h : CodAt w cb b k m) : Calls Tryz.prog 121 #[.pointer (some ⟨cb, 0, none⟩)] w fun e w' => e = .returned (.bool false) ∧ w' = w := by
  obtain ⟨A, c, h1, _⟩ := h.box
  have k2 := h1.cell 2
  go_enter Tryz.func121, Tryz.ntmps121
  go_wp2_with fail
  go_ret
  exact ⟨rfl, rfl⟩
theorem all_any (h : CodAt w cb b k m) : Calls Tryz.prog 122 #[.pointer (some ⟨cb, 0, none⟩)] w fun e w' => e = .returned (.int .i64 ((k + m : Nat) : Int)) ∧ Below w.heap.size w w' := by
  obtain ⟨A, c, h1, _⟩ := h.box
  have k0 := h1.cell 0
  have k1 := h1.cell 1
  have hl := h1.lt
  have hkm := h.km
  have q : IntKind.i64.wrap ((k : Int) + (m : Int)) = ((k + m : Nat) : Int) := by rw [IntKind.wrap_i64]; omega
  clear h h1
  go_enter Tryz.func122, Tryz.ntmps122
  go_wp2_with fail
  refine wp_region_later (by kernel_rfl) (by kernel_rfl) ?_
  repeat (go_big_quiet_step (fail))
  refine wpQuiet_nil ?_
  rintro _ ⟨z, rfl⟩
  go_wp2_with fail
  go_ret
  exact ⟨rfl, z.ok⟩
theorem data_any (h : CodAt w cb b k m) : Calls Tryz.prog 140 #[.pointer (some ⟨cb, 0, none⟩)] w fun e w' => e = .returned (.int .i64 (k : Int)) ∧ w' = w := by
  obtain ⟨A, c, h1, _⟩ := h.box
  have k0 := h1.cell 0
  go_enter Tryz.func140, Tryz.ntmps140
  go_wp2_with fail
  go_ret
  exact ⟨rfl, rfl⟩
theorem has_ok (h : CodAt w cb b k m) {i : Nat} (hi : i < k + m) : Calls Tryz.prog 211 #[.pointer (some ⟨cb, 0, none⟩), .int .i64 (i : Int)] w fun e w' => e = .returned (.bool true) ∧ Below w.heap.size w w' := by
  have hA := all_any h
  have q1 : (i : Int) ≥ 0 := Int.natCast_nonneg _
  have q2 : (i : Int) < (k : Int) + (m : Int) := by omega
  clear h
  go_enter Tryz.func211, Tryz.ntmps211
  go_wp2_with (go_at_call 122; refine hA.mono ?_; rintro e w2 ⟨rfl, hb⟩; have HB := Lib.hid hb; clear hb hA)
  go_ret
  exact ⟨rfl, HB.out⟩
theorem cn_any (h : CodAt w cb b k m) : Calls Tryz.prog 57 #[.pointer (some ⟨cb, 0, none⟩)] w fun e w' => e = .returned (.int .i64 ((k + m : Nat) : Int)) ∧ Below w.heap.size w w' := by
  have hA := all_any h
  have hN := none_any h
  clear h
  go_enter Tryz.func57, Tryz.ntmps57
  go_wp2_with (first | (go_at_call 121; refine hN.mono ?_; rintro e w9 ⟨rfl, hw9⟩; rw [hw9]; clear hw9) | (go_at_call 122; refine hA.mono ?_; rintro e w2 ⟨rfl, hb⟩; have HB := Lib.hid hb; clear hb hA))
  go_ret
  exact ⟨rfl, HB.out⟩
theorem ck_any (h : CodAt w cb b k m) : Calls Tryz.prog 88 #[.pointer (some ⟨cb, 0, none⟩)] w fun e w' => e = .returned (.int .i64 (k : Int)) ∧ w' = w := by
  have hA := data_any h
  have hN := none_any h
  clear h
  go_enter Tryz.func88, Tryz.ntmps88
  go_wp2_with (first | (go_at_call 121; refine hN.mono ?_; rintro e w9 ⟨rfl, hw9⟩; rw [hw9]; clear hw9) | (go_at_call 140; refine hA.mono ?_; rintro e w9 ⟨rfl, hw9⟩; rw [hw9]; clear hw9))
  go_ret
  exact ⟨rfl, rfl⟩
theorem cfield_any (h : CodAt w cb b k m) : Calls Tryz.prog 209 #[.pointer (some ⟨cb, 0, none⟩)] w fun e w' => e = .returned (.pointer (some ⟨b, 0, none⟩)) ∧ w' = w := by
  obtain ⟨A, c, h1, _⟩ := h.box
  have k2 := h1.cell 2
  have hN := none_any h
  clear h
  go_enter Tryz.func209, Tryz.ntmps209
  go_wp2_with (go_at_call 121; refine hN.mono ?_; rintro e w9 ⟨rfl, hw9⟩; rw [hw9]; clear hw9)
  go_ret
  exact ⟨rfl, rfl⟩
end
theorem unit_row {k i : Nat} (hi : i < k) : (List.replicate k 0).set i 1 = rowF k i := gt_ext (by rw [List.length_set, List.length_replicate, rowF_len]) fun j hj => by
  rw [List.length_set, List.length_replicate] at hj
  rw [gt_set _ _ _ (by rw [List.length_replicate]; exact hj), rowF_gt hj]
  unfold fac
  rw [if_pos hi]
  by_cases e : j = i
  · rw [if_pos e, if_pos e.symm]
  · rw [if_neg e, if_neg (fun h => e h.symm)]
    unfold gt
    rw [List.getD_eq_getElem?_getD, List.getElem?_replicate]
    split <;> rfl
def rowP (k i j : Nat) : List Nat := (List.range j).map (fac k i) ++ List.replicate (k - j) 0
theorem rowP_zero (k i : Nat) : rowP k i 0 = List.replicate k 0 := by unfold rowP; simp
theorem rowP_end (k i : Nat) : rowP k i k = rowF k i := by unfold rowP rowF; simp
theorem rowP_len {k i j : Nat} (hj : j ≤ k) : (rowP k i j).length = k := by unfold rowP; simp; omega
theorem rowP_next {k i j : Nat} (hj : j < k) : (rowP k i j).set j (fac k i j) = rowP k i (j + 1) := by
  unfold rowP
  rw [List.set_append_right _ _ (by simp), List.range_succ, List.map_append, List.append_assoc]
  congr 1
  obtain ⟨d, hd⟩ : ∃ d, k - j = d + 1 := ⟨k - j - 1, by omega⟩
  rw [hd, show k - (j + 1) = d by omega, List.replicate_succ]
  simp
end
section
set_option maxRecDepth 100000 in
set_option maxHeartbeats 4000000 in
theorem crow_any {w : World} {cb b k m : Nat} (H : CodAt w cb b k m) {i : Nat} (hi : i < k + m) :
    Calls Tryz.prog 177 #[.pointer (some ⟨cb, 0, none⟩), .int .i64 (i : Int)] w fun e w' => ∃ g, e = .returned (.slice (some ⟨g, 0, none⟩) k k) ∧ RdL ByR 1 (fun j => w.heap.size ≤ j) w' (some ⟨g, 0, none⟩) k (rowF k i) ∧ Below w.heap.size w w' := by
  have HC := Lib.hid H
  have hk1 := H.k1
  have hm1 := H.m1
  have hkm := H.km
  have hN := none_any H
  have hH := has_ok H hi
  have q0 : (0 : Int) ≤ (i : Int) := Int.natCast_nonneg _
  have q1 : (i : Int) < ((k + m : Nat) : Int) := by omega
  have q2 : (0 : Int) ≤ (k : Int) := Int.natCast_nonneg _
  have q3 : (k : Int) ≤ 255 := by omega
  clear H
  go_enter Tryz.func177, Tryz.ntmps177
  go_wp2_with (first | (go_at_call 121; refine hN.mono ?_; rintro e w9 ⟨rfl, hw9⟩; rw [hw9]; clear hw9 hN))
  refine hH.mono ?_
  rintro e w2 ⟨rfl, hb⟩
  have hC2 := HC.out.below hb
  obtain ⟨A, c, hbx, hc, hrd⟩ := hC2.box
  have k0 := hbx.cell 0
  have hmk := makeBy k (by omega) w2
  have hz := RowIn.made w2 k 5
  have hbz : Below w2.heap.size w2 (w2.alloc (.cells (Array.replicate k (.int .u8 0)) 5)) := (Below.refl _ _).alloc (Nat.le_refl _) _
  obtain ⟨w5, hw5⟩ : ∃ w5, w2.alloc (.cells (Array.replicate k (.int .u8 0)) 5) = w5 := ⟨_, rfl⟩
  rw [hw5] at hmk hz hbz
  obtain ⟨g, hg⟩ : ∃ g, w2.heap.size = g := ⟨_, rfl⟩
  rw [hg] at hmk hz
  have hgs : w.heap.size ≤ g := by have := hb.size; omega
  have hb5 : Below w.heap.size w w5 := hb.trans (hbz.mono hb.size)
  have HZ := Lib.hid hz
  have HB5 := Lib.hid hb5
  have hbx5 := hbx.below hbz
  have x0 := hbx5.cell 0
  have HC5 := Lib.hid (hC2.below hbz)
  clear hH hb hbx hrd hC2 hbz hb5 hw5 hg
  by_cases hik : i < k
  · have p1 : (i : Int) < (k : Int) := by omega
    have c1 := hz.cell (i := i) (by rw [List.length_replicate]; exact hik)
    have f1 := hz.frozen i
    clear hz
    go_wp2_with fail
    go_ret
    refine ⟨g, rfl, ?_, HB5.out.setCell (by exact hgs) _⟩
    have := (HZ.out.set (i := i) (x := 1) (by rw [List.length_replicate]; exact hik) (by decide)).rd (S := fun j => w.heap.size ≤ j) hgs
    rw [unit_row hik, rowF_len] at this
    exact this
  · have p1 : ¬ (i : Int) < (k : Int) := by omega
    have hz0 : RowIn w5 g (Array.replicate k (.int .u8 0)) (rowP k i 0) := by rw [rowP_zero]; exact hz
    have HZ0 := Lib.hid hz0
    clear hz hz0 HZ
    go_wp2_with fail
    clear hmk x0 k0
    go_loopw [36] (fun vi wr => ∃ (j : Nat) (cur : Array Value), j ≤ k ∧ vi = .int .i64 j ∧ Hid (RowIn wr g cur (rowP k i j)) ∧ Hid (Below w.heap.size w wr)) (fun vi _ => k - (intOf vi).toNat)
    case atStart => exact ⟨0, _, Nat.zero_le _, rfl, HZ0, HB5⟩
    case round =>
      clear HZ0 HB5 HC5 hbx5
      obtain ⟨j, cur, hj, rfl, RW, HB⟩ := hrel
      have p0 : (0 : Int) ≤ (j : Int) := Int.natCast_nonneg _
      by_cases hlt : j < k
      · have p2 : (j : Int) < (k : Int) := by omega
        have hC := (HC.out.below HB.out).below (w' := wr.drew) (Below.refl _ _).drew
        obtain ⟨A, c, hbx, hc, hrd⟩ := hC.box
        have hat := at_any (w := wr.drew) hm1 (by omega) hk1 (by omega) hrd hc (i := i - k) (j := j) (by omega) hlt
        rw [cau_gt (by omega) hlt, show k + (i - k) = i by omega] at hat
        have p3 : IntKind.i64.wrap ((i : Int) - (k : Int)) = ((i - k : Nat) : Int) := by rw [IntKind.wrap_i64]; omega
        have p4 : (i : Int) - (k : Int) = ((i - k : Nat) : Int) := by omega
        have p5 : IntKind.i64.wrap ((i - k : Nat) : Int) = ((i - k : Nat) : Int) := by rw [IntKind.wrap_i64]; omega
        have s1 : wr.drew.cell? ⟨cb, 0, none⟩ = some (.int .i64 k) ∧ wr.drew.cell? ⟨cb, 3, none⟩ = some (.int .i64 m) ∧ wr.drew.cell? ⟨cb, 4, none⟩ = some (.int .i64 k) ∧ wr.drew.cell? ⟨cb, 5, none⟩ = some (.slice A (m * k) c) := ⟨hbx.cell 0, hbx.cell 3, hbx.cell 4, hbx.cell 5⟩
        have hcl := hbx.lt
        have hll := rowP_len (i := i) hj
        clear hC hbx hrd
        go_wp2_with fail
        refine wp_region_L (S := fun w' => w'.cell? ⟨cb, 0, none⟩ = some (.int .i64 k) ∧ w'.cell? ⟨cb, 3, none⟩ = some (.int .i64 m) ∧ w'.cell? ⟨cb, 4, none⟩ = some (.int .i64 k) ∧ w'.cell? ⟨cb, 5, none⟩ = some (.slice A (m * k) c)) [16] (by kernel_rfl) (by first | exact s1 | exact s2) (fun hHeld => ?_)
        refine tkL 0 rfl ?_
        refine tkL 1 rfl ?_
        refine tkL 2 rfl ?_
        refine tkL 3 rfl ?_
        refine tkL 4 rfl ?_
        refine tkL 5 rfl ?_
        refine tkL 6 rfl ?_
        refine tkL 7 rfl ?_
        refine tkL 8 rfl ?_
        refine tkL 9 rfl ?_
        refine tkL 10 rfl ?_
        refine tkL 11 rfl ?_
        refine tkL 12 rfl ?_
        refine tkL 13 rfl ?_
        refine rdL 14 rfl fun K hK => ?_
        try simp (maxSteps := 2000000) only [zz1, zz2, zz3]
        go_simp
        go_at_call 212
        refine hat.mono ?_
        rintro e w6 ⟨rfl, hb6⟩
        have s2 : w6.cell? ⟨cb, 0, none⟩ = some (.int .i64 k) ∧ w6.cell? ⟨cb, 3, none⟩ = some (.int .i64 m) ∧ w6.cell? ⟨cb, 4, none⟩ = some (.int .i64 k) ∧ w6.cell? ⟨cb, 5, none⟩ = some (.slice A (m * k) c) := ⟨(hb6.cell (p := ⟨cb, 0, none⟩) hcl).trans s1.1, (hb6.cell (p := ⟨cb, 3, none⟩) hcl).trans s1.2.1, (hb6.cell (p := ⟨cb, 4, none⟩) hcl).trans s1.2.2.1, (hb6.cell (p := ⟨cb, 5, none⟩) hcl).trans s1.2.2.2⟩
        have c2 := (RW.out.drew.below hb6).cell (i := j) (by omega)
        have f2 := (RW.out.drew.below hb6).frozen j
        have HB6 := Lib.hid hb6
        clear hat hb6
        try (go_wp2_with fail)
        refine hK.out _ _ (by first | exact s1 | exact s2) (fun hHeld => ?_)
        clear hK K
        try simp (maxSteps := 2000000) only [zz1, zz2, zz3, Act.put, zz4, zz5, zz6]
        refine tkL 15 rfl ?_
        refine lsL 16 rfl fun K hK => ?_
        try simp (maxSteps := 2000000) only [zz1, zz2, zz3]
        go_simp
        refine hK.out _ _ ?_
        clear hK K
        try simp (maxSteps := 2000000) only [zz1, zz2, zz3, Act.put, zz4, zz5, zz6]
        refine wpAnyL_done (by kernel_rfl) ?_ _
        have r5 := (RW.out.drew.below HB6.out).set (i := j) (x := fac k i j) (by omega) (fac_lt _ _ _)
        rw [rowP_next hlt] at r5
        have b5 := (HB.out.drew.trans (HB6.out.mono HB.out.size)).setCell (p := ⟨g, j, none⟩) hgs (.int .u8 (fac k i j : Int))
        have R5 := Lib.hid r5
        have B5 := Lib.hid b5
        clear r5 b5 s1 s2 hHeld c2 f2
        go_wp2_with fail
        exact ⟨⟨j + 1, _, by omega, by go_num, R5, B5⟩, by simp [intOf]; omega⟩
      · have p2 : ¬ (j : Int) < (k : Int) := by omega
        obtain rfl : j = k := by omega
        go_wp2_with fail
        go_ret
        refine ⟨g, rfl, ?_, HB.out⟩
        have := RW.out.rd (S := fun i => w.heap.size ≤ i) hgs
        rw [rowP_end, rowF_len] at this
        exact this
end
section

theorem risF_next {a b i : Nat} (h : a + i < b) : risF a (a + (i + 1)) = risF a (a + i) ++ [a + i] := by
  unfold risF
  rw [show a + (i + 1) - a = i + 1 by omega, show a + i - a = i by omega, List.range_succ, List.map_append]; rfl
set_option maxRecDepth 100000 in
set_option maxHeartbeats 4000000 in
theorem rising_any {w : World} {a b : Nat} (hab : a ≤ b) (hb : b ≤ 255) :
    Calls Tryz.prog 134 #[.int .i64 (a : Int), .int .i64 (b : Int)] w fun e w' => ∃ A c, e = .returned (.slice A (b - a) c) ∧ b - a ≤ c ∧ RdL ByR 1 (fun j => w.heap.size ≤ j) w' A (b - a) (risF a b) ∧ Below w.heap.size w w' := by
  have q0 : (0 : Int) ≤ (a : Int) := Int.natCast_nonneg _
  have q1 : (b : Int) ≤ 255 := by omega
  have q2 : (a : Int) ≤ (b : Int) := by omega
  have q3 : IntKind.i64.wrap ((b : Int) - (a : Int)) = ((b - a : Nat) : Int) := by rw [IntKind.wrap_i64]; omega
  have q4 : (b : Int) - (a : Int) = ((b - a : Nat) : Int) := by omega
  have q5 : IntKind.i64.wrap ((b - a : Nat) : Int) = ((b - a : Nat) : Int) := by rw [IntKind.wrap_i64]; omega
  go_enter Tryz.func134, Tryz.ntmps134
  go_wp2_with (at_make; refine wpList_make0 ByR (fun _ => True) sl_by rfl rfl (base := w.heap.size) rfl rfl (b - a) (by omega) (by omega) (by unfold maxLen; omega) (by (first | (with_reducible exact Nat.le_refl _) | omega | (simp only [World.size_alloc, World.size_setCell, World.size_drew] <;> omega))) ?_; intro y hys hown; have hyb : Below w.heap.size w y.to := y.ok; have HO := Lib.hid hown; have HB := Lib.hid hyb; clear hown hyb hys)
  go_loopw [5, 6] (fun vs vi wr => ∃ (i : Nat) (A : Option Addr) (c : Nat), i ≤ b - a ∧ vi = .int .i64 ((a + i : Nat) : Int) ∧ vs = .slice A i c ∧ i ≤ c ∧ Hid (OwnL ByR 5 1 w.heap.size (fun _ => True) wr (.slice A i c) i (risF a (a + i))) ∧ Hid (Below w.heap.size w wr)) (fun _ vi _ => b - (intOf vi).toNat)
  case atStart => exact ⟨0, _, _, Nat.zero_le _, rfl, rfl, Nat.zero_le _, by rw [show risF a (a + 0) = [] by unfold risF; simp]; exact HO, HB⟩
  case round =>
    clear HO HB
    obtain ⟨i, A, c, hi, rfl, rfl, hc, HO, HB⟩ := hrel
    have p0 : (0 : Int) ≤ ((a + i : Nat) : Int) := Int.natCast_nonneg _
    by_cases hlt : i < b - a
    · have p1 : ((a + i : Nat) : Int) < (b : Int) := by omega
      have p2 : IntKind.u8.wrap ((a + i : Nat) : Int) = ((a + i : Nat) : Int) := by rw [IntKind.wrap_u8]; omega
      have p3 : (a : Int) + (i : Int) < (b : Int) := by omega
      have p4 : IntKind.u8.wrap ((a : Int) + (i : Int)) = (a : Int) + (i : Int) := by rw [IntKind.wrap_u8]; omega
      have hnx := risF_next (a := a) (b := b) (i := i) (by omega)
      have HN := Lib.hid hnx
      have hbz := HB.out.size
      clear hnx
      go_wp2_with (at_builtin; go_must (refine wpList_push1 ByR.stable ByR.one sl_by (by rfl) (by rfl) (base := w.heap.size) (S := fun _ => True) (cs := #[.int .u8 ((a + i : Nat) : Int)]) (y := a + i) (by rfl) (by rfl) HO.out (by rfl) ⟨by omega, rfl⟩ (by unfold maxLen; omega) (by omega) hbz ?_); intro A8 c8 u8 hc8 own9 hlt8 hb8 hat8; rw [← HN.out] at own9; have HO9 := Lib.hid own9; have HB9 := Lib.hid (HB.out.trans hb8); clear own9 hb8 hlt8 hat8)
      exact ⟨⟨i + 1, A8, c8, by omega, by go_num, rfl, hc8, HO9, HB9⟩, by simp [intOf]; omega⟩
    · have p1 : ¬ ((a + i : Nat) : Int) < (b : Int) := by omega
      have p3 : ¬ (a : Int) + (i : Int) < (b : Int) := by omega
      obtain rfl : i = b - a := by omega
      go_wp2_with fail
      go_ret
      obtain ⟨A', c', e, _, hr⟩ := HO.out.rd (S' := fun k => w.heap.size ≤ k) (fun _ hk => hk) (fun cs x hx => hx)
      injection e with e1 _ e2
      subst e1; subst e2
      rw [show a + (b - a) = b by omega] at hr
      exact ⟨A, c, rfl, by omega, hr, HB.out⟩
end
section

/-- A number that is not below nought. -/
def NatR (_ : Nat → Prop) (_ : World) (cs : List Value) (x : Nat) : Prop := cs = [.int .i64 (x : Int)]
theorem NatR.stable : Stable NatR := fun _ _ _ _ _ _ h _ => h
theorem NatR.one : ∀ S w cs x, NatR S w cs x → ∀ u ∈ cs, u.oneCell' = true := by
  rintro S w cs x rfl u hu
  simp at hu
  subst hu; rfl
theorem nat_at {S : Nat → Prop} {w : World} {b o n : Nat} {xs : List Nat} (h : RdL NatR 1 S w (some ⟨b, o, none⟩) n xs) {k : Nat} (hk : k < n) : w.cell? ⟨b, o + k, none⟩ = some (.int .i64 (gt xs k : Int)) := by
  obtain ⟨hl, cs, _, rfl, h2⟩ := h.at hk
  have e : gt xs k = xs[k] := Option.some.inj ((gt_of_lt hl).symm.trans (List.getElem?_eq_getElem hl))
  rw [e]
  have := h2 0 _ rfl
  rwa [Nat.mul_one, Nat.add_zero] at this
def useF (k : Nat) (us : List Nat) : Rws := us.map (rowF k)
theorem useF_shp {k n : Nat} {us : List Nat} (h : us.length = n) : Shp n k (useF k us) := ⟨by unfold useF; simpa using h, fun r hr => by
  obtain ⟨i, _, rfl⟩ := List.mem_map.1 hr
  exact ⟨rowF_len k i, rowF_byt k i⟩⟩
theorem useF_take {k j : Nat} {us : List Nat} (hj : j < us.length) : (useF k (us.take (j + 1))).flatten = (useF k (us.take j)).flatten ++ rowF k (gt us j) := by
  unfold useF
  rw [take_gt hj, List.map_append, List.flatten_append]; simp
set_option maxRecDepth 100000 in
set_option maxHeartbeats 8000000 in
theorem inverse_any {w : World} {cb b k m c : Nat} {A : Option Addr} {S : Nat → Prop} {us : List Nat} (H : CodAt w cb b k m) (R : RdL NatR 1 S w A k us) (hus : ∀ u ∈ us, u < k + m) (hI : Inj k (useF k us)) :
    Calls Tryz.prog 207 #[.pointer (some ⟨cb, 0, none⟩), .slice A k c] w fun e w' => ∃ A' c', e = .returned (.tuple #[.agg #[.int .i64 (k : Int), .int .i64 (k : Int), .slice A' (k * k) c'], .int .i64 0]) ∧ k * k ≤ c' ∧
      RdL ByR 1 (fun j => w.heap.size ≤ j) w' A' (k * k) (mkF (invE (useF k us) k) k k).flatten ∧ Below w.heap.size w w' := by
  have HC := Lib.hid H
  have HR := Lib.hid R
  have hul := R.1
  have hk1 := H.k1
  have hm1 := H.m1
  have hkm := H.km
  have q0 : (0 : Int) ≤ (k : Int) := Int.natCast_nonneg _
  have q1 : (k : Int) ≤ 255 := by omega
  have hkk : k * k ≤ 65025 := Nat.mul_le_mul (by omega : k ≤ 255) (by omega : k ≤ 255)
  have hK := fun w' h => ck_any (w := w') (HC.out.below h)
  clear H R
  go_enter Tryz.func207, Tryz.ntmps207
  go_wp2_with (go_at_call 88; refine (hK _ (by repeat (first | (with_reducible exact Below.refl _ _) | (with_reducible assumption) | (with_reducible refine Below.drew ?_) | (with_reducible refine Below.setCell ?_ ?_ _) | (with_reducible refine Below.alloc ?_ ?_ _) | (with_reducible refine Below.later ?_ ?_ _) | (first | (with_reducible exact Nat.le_refl _) | omega | (simp only [World.size_alloc, World.size_setCell, World.size_drew] <;> omega))))).mono ?_; rintro e w9 ⟨rfl, hw9⟩; rw [hw9]; clear hw9)
  have hi0 : FilI w ((w.alloc (.cells #[.int .i64 0, .int .i64 0, .slice none 0 0] 181)).alloc (.cells #[.int .i64 (k : Int), .int .i64 (k : Int), .slice none 0 0] 181)) w.heap.size (w.heap.size + 1) k k 0 none 0 (useF k (us.take 0)).flatten := by
    have e := BoxAt.new (w.alloc (.cells #[.int .i64 0, .int .i64 0, .slice none 0 0] 181)) #[.int .i64 (k : Int), .int .i64 (k : Int), .slice none 0 0] 181
    rw [World.size_alloc] at e
    exact ⟨OwnL.nil_, e, (BoxAt.new w _ _).alloc _, (by intro h; cases h), (by intro h; cases h), by omega, Nat.le_refl _, by omega, (by repeat (first | (with_reducible exact Below.refl _ _) | (with_reducible assumption) | (with_reducible refine Below.drew ?_) | (with_reducible refine Below.setCell ?_ ?_ _) | (with_reducible refine Below.alloc ?_ ?_ _) | (with_reducible refine Below.later ?_ ?_ _) | (first | (with_reducible exact Nat.le_refl _) | omega | (simp only [World.size_alloc, World.size_setCell, World.size_drew] <;> omega))))⟩
  have HI0 := Lib.hid hi0
  clear hi0
  generalize ((w.alloc (.cells #[.int .i64 0, .int .i64 0, .slice none 0 0] 181)).alloc (.cells #[.int .i64 (k : Int), .int .i64 (k : Int), .slice none 0 0] 181)) = wA at *
  go_loopw [16] (fun vi wr => ∃ (i : Nat) (A : Option Addr) (c : Nat), i ≤ k ∧ vi = .int .i64 i ∧ Hid (FilI w wr w.heap.size (w.heap.size + 1) k k (i * k) A c (useF k (us.take i)).flatten)) (fun vi _ => k - (intOf vi).toNat)
  case atStart => exact ⟨0, none, 0, Nat.zero_le _, rfl, by rw [Nat.zero_mul]; exact HI0⟩
  case round =>
    clear HI0
    obtain ⟨i, AR, cR, hi, rfl, HI⟩ := hrel
    have p0 : (0 : Int) ≤ (i : Int) := Int.natCast_nonneg _
    by_cases hlt : i < k
    · have p1 : (i : Int) < (k : Int) := by omega
      obtain ⟨bb, o, rfl, _, hbb⟩ := HR.out.addr hlt
      have c1 := (HI.out.bel.cell (p := ⟨bb, o + i, none⟩) hbb).trans (nat_at HR.out hlt)
      have hD := HI.out.below (w2 := wr.drew) (Below.refl _ _).drew
      have hrow := crow_any (HC.out.below hD.bel) (i := gt us i) (hus _ (gt_mem (by omega)))
      have s1 : wr.drew.cell? ⟨w.heap.size + 1, 2, none⟩ = some (.slice AR (i * k) cR) := hD.bq.cell 2
      have hsum : i * k + k ≤ 65025 := by
        have := Nat.mul_le_mul (show i + 1 ≤ k from hlt) (Nat.le_refl k)
        rw [Nat.succ_mul] at this
        omega
      have hut := useF_take (k := k) (us := us) (j := i) (by omega)
      have HD := Lib.hid hD
      have HUT := Lib.hid hut
      clear hD hut
      go_wp2_with fail
      refine wp_region_L (S := fun w' => w'.cell? ⟨w.heap.size + 1, 2, none⟩ = some (.slice AR (i * k) cR)) [7] (by kernel_rfl) (by first | exact s1 | exact s2 | exact s3) (fun hHeld => ?_)
      refine tkL 0 rfl ?_
      refine tkL 1 rfl ?_
      refine tkL 2 rfl ?_
      refine tkL 3 rfl ?_
      refine rdL 4 rfl fun K hK => ?_
      try simp (maxSteps := 2000000) only [zz1, zz2, zz3]
      go_simp
      go_at_call 177
      refine hrow.mono ?_
      rintro e w2 ⟨g, rfl, hr2, hb2⟩
      have hD2 := HD.out.below hb2
      have s2 : w2.cell? ⟨w.heap.size + 1, 2, none⟩ = some (.slice AR (i * k) cR) := hD2.bq.cell 2
      have HD2 := Lib.hid hD2
      have HR2 := Lib.hid hr2
      clear hrow hb2 hD2 hr2
      try (go_wp2_with fail)
      refine hK.out _ _ (by first | exact s1 | exact s2 | exact s3) (fun hHeld => ?_)
      clear hK K
      try simp (maxSteps := 2000000) only [zz1, zz2, zz3, Act.put, zz4, zz5, zz6]
      refine rdL 5 rfl fun K hK => ?_
      refine step_law (by rfl) (wpList_appL ByR.stable ByR.one sl_by (by rfl) (by rfl) (base := w.heap.size + 1) (S := fun _ => True) (by rfl) HD2.out.own (by rfl) HR2.out (fun _ _ h => h) (by unfold maxLen; omega) (by omega) HD2.out.br.lt ?_)
      intro A7 c7 w7 hc7 hown7 hg7 hat7
      refine And.intro rfl ?_
      have B9 := HD2.out.bq.grw hg7 HD2.out.nq
      have s3 : w7.cell? ⟨w.heap.size + 1, 2, none⟩ = some (.slice AR (i * k) cR) := B9.cell 2
      have f3 := B9.frozen 2
      have hp7 := HD2.out.appended hg7 hown7 hat7
      rw [← HUT.out] at hp7
      have hp8 : FilI w (w7.setCell ⟨w.heap.size + 1, 2, none⟩ (.slice A7 (i * k + k) c7)) w.heap.size (w.heap.size + 1) k k ((i + 1) * k) A7 c7 (useF k (us.take (i + 1))).flatten := by rw [Nat.succ_mul]; exact hp7
      have HP8 := Lib.hid hp8
      clear B9 hp7 hp8 hown7 hg7 hat7
      refine hK.out _ _ (by first | exact s1 | exact s2 | exact s3) (fun hHeld => ?_)
      clear hK K
      try simp (maxSteps := 2000000) only [zz1, zz2, zz3, Act.put, zz4, zz5, zz6]
      refine tkL 6 rfl ?_
      refine lsL 7 rfl fun K hK => ?_
      try simp (maxSteps := 2000000) only [zz1, zz2, zz3]
      go_simp
      refine hK.out _ _ ?_
      clear hK K
      try simp (maxSteps := 2000000) only [zz1, zz2, zz3, Act.put, zz4, zz5, zz6]
      refine wpAnyL_done (by kernel_rfl) ?_ _
      clear s1 s2 s3 f3 hHeld
      go_wp2_with fail
      exact ⟨⟨i + 1, A7, c7, by omega, by go_num, HP8⟩, by simp [intOf]; omega⟩
    · have p1 : ¬ (i : Int) < (k : Int) := by omega
      obtain rfl : i = k := by omega
      have hD := HI.out.below (w2 := wr.drew) (Below.refl _ _).drew
      have hF := cfield_any (HC.out.below hD.bel)
      rw [← hul, List.take_length, hul] at hD
      obtain ⟨A', c', e1, hc', hr'⟩ := hD.own.rd (S' := fun _ => True) (fun _ _ => trivial) (fun cs x hx => hx)
      injection e1 with e1 _ e2
      subst e1; subst e2
      have hiv := invert_any (HC.out.below hD.bel).fld (useF_shp hul) hI hk1 (by omega) hr' hc'
      have s1 : wr.drew.cell? ⟨w.heap.size + 1, 0, none⟩ = some (.int .i64 i) ∧ wr.drew.cell? ⟨w.heap.size + 1, 1, none⟩ = some (.int .i64 i) ∧ wr.drew.cell? ⟨w.heap.size + 1, 2, none⟩ = some (.slice AR (i * i) cR) := ⟨hD.bq.cell 0, hD.bq.cell 1, hD.bq.cell 2⟩
      have hlr := hD.br.lt
      have HD := Lib.hid hD
      clear hD hr'
      go_wp2_with fail
      refine wp_region_L (S := fun w' => w'.cell? ⟨w.heap.size + 1, 0, none⟩ = some (.int .i64 i) ∧ w'.cell? ⟨w.heap.size + 1, 1, none⟩ = some (.int .i64 i) ∧ w'.cell? ⟨w.heap.size + 1, 2, none⟩ = some (.slice AR (i * i) cR)) [6, 7] (by kernel_rfl) (by first | exact s1 | exact s2) (fun hHeld => ?_)
      refine tkL 0 rfl ?_
      refine tkL 2 rfl ?_
      refine rdL 1 rfl fun K hK => ?_
      try simp (maxSteps := 2000000) only [zz1, zz2, zz3]
      go_simp
      go_at_call 209
      refine hF.mono ?_
      rintro e w9 ⟨rfl, hw9⟩
      rw [hw9]
      clear hw9 hF
      try (go_wp2_with fail)
      refine hK.out _ _ (by first | exact s1 | exact s2) (fun hHeld => ?_)
      clear hK K
      try simp (maxSteps := 2000000) only [zz1, zz2, zz3, Act.put, zz4, zz5, zz6]
      refine rdL 3 rfl fun K hK => ?_
      try simp (maxSteps := 2000000) only [zz1, zz2, zz3]
      go_simp
      go_at_call 236
      refine hiv.mono ?_
      rintro e w2 ⟨A2, c2, rfl, hc2, hr2, hb2⟩
      have hD2 := HD.out.below hb2
      have s2 : w2.cell? ⟨w.heap.size + 1, 0, none⟩ = some (.int .i64 i) ∧ w2.cell? ⟨w.heap.size + 1, 1, none⟩ = some (.int .i64 i) ∧ w2.cell? ⟨w.heap.size + 1, 2, none⟩ = some (.slice AR (i * i) cR) := ⟨hD2.bq.cell 0, hD2.bq.cell 1, hD2.bq.cell 2⟩
      have g0 := hD2.br.cell 0
      have g1 := hD2.br.cell 1
      have g2 := hD2.br.cell 2
      have f0 := hD2.br.frozen 0
      have f1 := hD2.br.frozen 1
      have f2 := hD2.br.frozen 2
      have HD2 := Lib.hid hD2
      have HR2 := Lib.hid hr2
      clear hiv hb2 hD2 hr2
      try (go_wp2_with fail)
      refine hK.out _ _ (by first | exact s1 | exact s2) (fun hHeld => ?_)
      clear hK K
      try simp (maxSteps := 2000000) only [zz1, zz2, zz3, Act.put, zz4, zz5, zz6]
      refine tkL 4 rfl ?_
      refine tkL 5 rfl ?_
      refine lsL 6 rfl fun K hK => ?_
      try simp (maxSteps := 2000000) only [zz1, zz2, zz3]
      go_simp
      refine hK.out _ _ ?_
      clear hK K
      try simp (maxSteps := 2000000) only [zz1, zz2, zz3, Act.put, zz4, zz5, zz6]
      refine lsL 7 rfl fun K hK => ?_
      try simp (maxSteps := 2000000) only [zz1, zz2, zz3]
      go_simp
      refine hK.out _ _ ?_
      clear hK K
      try simp (maxSteps := 2000000) only [zz1, zz2, zz3, Act.put, zz4, zz5, zz6]
      refine wpAnyL_done (by kernel_rfl) ?_ _
      go_wp2_with fail
      refine bodyPost_ret (v := .tuple #[.agg #[.int .i64 (i : Int), .int .i64 (i : Int), .slice A2 (i * i) c2], .int .i64 0]) (by simp [results, Tryz.results207, go_sem, *]) rfl ?_
      have hs := HD.out.bel.size
      refine ⟨A2, c2, rfl, hc2, ?_, ?_⟩
      · refine RdL.weaken ByR.stable (S := fun k => wr.drew.heap.size ≤ k) ?_ (fun k hk => Nat.le_trans hs hk)
        repeat (first | exact HR2.out | refine RdL.setCell ByR.stable ?_ (show ¬ wr.drew.heap.size ≤ _ by dsimp only; omega) _)
      · repeat (first | exact HD2.out.bel | refine Below.setCell ?_ (by dsimp only; omega) _)
end
section

def planF (k : Nat) (us : List Nat) (want : Nat) : List Nat := combF (rowF k want) (mkF (invE (useF k us) k) k k) (List.replicate k 0)
theorem inv_shp {k : Nat} {us : List Nat} (hl : us.length = k) (hI : Inj k (useF k us)) : Shp k k (mkF (invE (useF k us) k) k k) := mkF_shp fun i j hi hj => gt_lt ((eliR_ok (useF_shp hl) hI).2.1.shp.row hi).2 _
set_option maxRecDepth 100000 in
set_option maxHeartbeats 8000000 in
theorem plan_any {w : World} {cb b k m c : Nat} {A : Option Addr} {S : Nat → Prop} {us : List Nat} (H : CodAt w cb b k m) (R : RdL NatR 1 S w A k us) (hus : ∀ u ∈ us, u < k + m) (hI : Inj k (useF k us)) {want : Nat} (hw : want < k + m) :
    Calls Tryz.prog 174 #[.pointer (some ⟨cb, 0, none⟩), .slice A k c, .int .i64 (want : Int)] w fun e w' => ∃ A' c', e = .returned (.tuple #[.slice A' k c', .int .i64 0]) ∧ k ≤ c' ∧
      RdL ByR 1 (fun j => w.heap.size ≤ j) w' A' k (planF k us want) ∧ Below w.heap.size w w' := by
  have HC := Lib.hid H
  have HR := Lib.hid R
  have hul := R.1
  have hk1 := H.k1
  have hm1 := H.m1
  have hkm := H.km
  have q0 : (0 : Int) ≤ (k : Int) := Int.natCast_nonneg _
  have q1 : (k : Int) ≤ 255 := by omega
  have hiv := inverse_any (c := c) H R hus hI
  clear H R
  go_enter Tryz.func174, Tryz.ntmps174
  go_wp2_with fail
  refine hiv.mono ?_
  rintro e w1 ⟨A1, c1, rfl, hc1, hr1, hb1⟩
  have hbe : Below w1.heap.size w1 (w1.alloc (.cells #[.int .i64 (k : Int), .int .i64 (k : Int), .slice A1 (k * k) c1] 181)) := (Below.refl _ _).alloc (Nat.le_refl _) _
  have hbx := BoxAt.new w1 #[.int .i64 (k : Int), .int .i64 (k : Int), .slice A1 (k * k) c1] 181
  have hs1 := hb1.size
  go_wp2_with fail
  generalize w1.alloc (.cells #[.int .i64 (k : Int), .int .i64 (k : Int), .slice A1 (k * k) c1] 181) = w2 at *
  obtain ⟨xb, hxb⟩ : ∃ xb, w1.heap.size = xb := ⟨_, rfl⟩
  have hbw2 := hb1.trans (hbe.mono hs1)
  have hr2 := hr1.below ByR.stable hbe
  refine (crow_any (HC.out.below hbw2) hw).mono ?_
  rintro e w3 ⟨g, rfl, hr3, hb3⟩
  have hbw3 := hbw2.trans (hb3.mono hbw2.size)
  have hx3 := hbx.below hb3
  have hr4 := hr2.below ByR.stable hb3
  rw [hxb] at hx3 ⊢
  have hC3 := HC.out.below hbw3
  have hF := cfield_any hC3
  have hmu := fun w' (hb : Below w3.heap.size w3 w') => mmul_any (w := w') (r := 1) (c1 := k) (c2 := c1) (S := fun _ => True) (hC3.below hb).fld (U := [rowF k want]) (B := mkF (invE (useF k us) k) k k) (n := k) (m := k) ⟨rfl, fun r hr => by rw [List.mem_singleton.1 hr]; exact ⟨rowF_len _ _, rowF_byt _ _⟩⟩ (inv_shp hul hI) (Nat.le_refl _) (by decide) hk1 (by omega) hk1 (by omega)
    (A1 := some ⟨g, 0, none⟩) (by rw [Nat.one_mul, List.flatten_cons, List.flatten_nil, List.append_nil]; exact (hr3.below ByR.stable hb).weaken ByR.stable fun _ _ => trivial) ((hr4.below ByR.stable hb).weaken ByR.stable fun _ _ => trivial) (by omega) hc1
  have hone : (mulF [rowF k want] (mkF (invE (useF k us) k) k k) k).flatten = planF k us want := by unfold mulF planF; simp
  rw [hone] at hmu
  simp only [Nat.one_mul] at hmu
  have hcast : ((1 : Nat) : Int) = 1 := rfl
  rw [hcast] at hmu
  have hxl : xb < w3.heap.size := hx3.lt
  have hw3s := hbw3.size
  have hwx : w.heap.size ≤ xb := by omega
  have keepB : ∀ w', Below w3.heap.size w3 w' → w'.cell? ⟨xb, 0, none⟩ = some (.int .i64 k) ∧ w'.cell? ⟨xb, 1, none⟩ = some (.int .i64 k) ∧ w'.cell? ⟨xb, 2, none⟩ = some (.slice A1 (k * k) c1) := fun w' h => ⟨(hx3.below h).cell 0, (hx3.below h).cell 1, (hx3.below h).cell 2⟩
  have KB := Lib.hid keepB
  have s1 := keepB w3.drew (Below.refl _ _).drew
  have hb3d : Below w3.heap.size w3 w3.drew := (Below.refl _ _).drew
  have HM := Lib.hid hmu
  have HBW := Lib.hid hbw3
  have hF2 := fun w' (hb : Below w3.heap.size w3 w') => cfield_any ((HC.out.below hbw3).below hb)
  have HF2 := Lib.hid hF2
  have hal3 : Below w3.heap.size w3 (w3.alloc (.cells #[.int .i64 0, .int .i64 0, .slice none 0 0] 181)) := (Below.refl _ _).alloc (Nat.le_refl _) _
  clear keepB hmu hC3 hF hF2 hr1 hr2 hr3 hr4 hb1 hb3 hbe hbx hx3 hbw2 hbw3 hiv
  go_wp2_with fail
  refine wp_region_held_drew (S := fun w' => w'.cell? ⟨xb, 0, none⟩ = some (.int .i64 k) ∧ w'.cell? ⟨xb, 1, none⟩ = some (.int .i64 k) ∧ w'.cell? ⟨xb, 2, none⟩ = some (.slice A1 (k * k) c1)) (by kernel_rfl) (by first | exact s1 | exact KB.out _ (by assumption)) (fun hHeld => ?_)
  refine tkH 0 rfl ?_
  refine tkH 2 rfl ?_
  refine tkH 3 rfl ?_
  refine tkH 4 rfl ?_
  refine tkH 5 rfl ?_
  refine tkH 6 rfl ?_
  refine wpAnyH_ready (rs := [1, 11]) (by kernel_rfl) (by simp) ?_
  refine AllReadyH.cons rfl (fun K hK => ?_) (AllReadyH.cons rfl (fun K hK => ?_) AllReadyH.nil)
  · try simp (maxSteps := 2000000) only [zz1, zz2, zz3]
    go_simp
    go_at_call 209
    refine (HF2.out _ hb3d).mono ?_
    rintro e w9 ⟨rfl, hw9⟩
    rw [hw9]
    clear hw9
    try (go_wp2_with fail)
    refine hK.out _ _ (KB.out _ hb3d) (fun hHeld => ?_)
    clear hK K
    try simp (maxSteps := 2000000) only [zz1, zz2, zz3, Act.put, zz4, zz5, zz6]
    refine wpAnyH_ready (rs := [7, 11]) (by kernel_rfl) (by simp) ?_
    refine AllReadyH.cons rfl (fun K hK => ?_) (AllReadyH.cons rfl (fun K hK => ?_) AllReadyH.nil)
    · try simp (maxSteps := 2000000) only [zz1, zz2, zz3]
      go_simp
      go_at_call 208
      refine (HM.out _ hb3d).mono ?_
      rintro e w5 ⟨A5, c5, rfl, hc5, hr5, hb5⟩
      have hs5 := hb5.size
      have hb35 : Below w3.heap.size w3 w5 := Below.trans hb3d (hb5.mono (Below.size hb3d))
      try (go_wp2_with fail)
      refine hK.out _ _ (KB.out _ hb35) (fun hHeld => ?_)
      clear hK K
      try simp (maxSteps := 2000000) only [zz1, zz2, zz3, Act.put, zz4, zz5, zz6]
      refine tkH 8 rfl ?_
      refine tkH 9 rfl ?_
      refine tkH 10 rfl ?_
      refine rdH 11 rfl fun K hK => ?_
      try simp (maxSteps := 2000000) only [zz1, zz2, zz3]
      go_simp
      refine hK.out _ _ (KB.out _ (hb35.alloc hb35.size _)) (fun hHeld => ?_)
      clear hK K
      try simp (maxSteps := 2000000) only [zz1, zz2, zz3, Act.put, zz4, zz5, zz6]
      refine rdH 12 rfl fun K hK => ?_
      try simp (maxSteps := 2000000) only [zz1, zz2, zz3]
      go_simp
      refine hK.out _ _ (KB.out _ (hb35.alloc hb35.size _)) (fun hHeld => ?_)
      clear hK K
      try simp (maxSteps := 2000000) only [zz1, zz2, zz3, Act.put, zz4, zz5, zz6]
      refine rdH 13 rfl fun K hK => ?_
      try simp (maxSteps := 2000000) only [zz1, zz2, zz3]
      go_simp
      refine hK.out _ _ (KB.out _ (hb35.alloc hb35.size _)) (fun hHeld => ?_)
      clear hK K
      try simp (maxSteps := 2000000) only [zz1, zz2, zz3, Act.put, zz4, zz5, zz6]
      refine wpAnyH_done (by kernel_rfl) ?_ _
      go_wp2_with fail
      go_ret2
      exact ⟨A5, c5, rfl, hc5, (RdL.alloc ByR.stable (hr5.weaken ByR.stable (S' := fun j => w.heap.size ≤ j) fun j hj => Nat.le_trans hw3s hj) _), (HBW.out.trans (hb35.mono hw3s)).alloc (by have := hb35.size; omega) _⟩
    · try simp (maxSteps := 2000000) only [zz1, zz2, zz3]
      go_simp
      refine hK.out _ _ (KB.out _ (show Below w3.heap.size w3 ((w3.alloc (.cells #[.int .i64 0, .int .i64 0, .slice none 0 0] 181)).drew) from hal3.drew)) (fun hHeld => ?_)
      clear hK K
      try simp (maxSteps := 2000000) only [zz1, zz2, zz3, Act.put, zz4, zz5, zz6]
      refine rdH 7 rfl fun K hK => ?_
      try simp (maxSteps := 2000000) only [zz1, zz2, zz3]
      go_simp
      go_at_call 208
      refine (HM.out _ (show Below w3.heap.size w3 ((w3.alloc (.cells #[.int .i64 0, .int .i64 0, .slice none 0 0] 181)).drew) from hal3.drew)).mono ?_
      rintro e w5 ⟨A5, c5, rfl, hc5, hr5, hb5⟩
      have hs5 := hb5.size
      have hb35 : Below w3.heap.size w3 w5 := Below.trans (show Below w3.heap.size w3 ((w3.alloc (.cells #[.int .i64 0, .int .i64 0, .slice none 0 0] 181)).drew) from hal3.drew) (hb5.mono (Below.size (show Below w3.heap.size w3 ((w3.alloc (.cells #[.int .i64 0, .int .i64 0, .slice none 0 0] 181)).drew) from hal3.drew)))
      try (go_wp2_with fail)
      refine hK.out _ _ (KB.out _ hb35) (fun hHeld => ?_)
      clear hK K
      try simp (maxSteps := 2000000) only [zz1, zz2, zz3, Act.put, zz4, zz5, zz6]
      have hpb := ((BoxAt.new w3 #[.int .i64 0, .int .i64 0, .slice none 0 0] 181).below (w' := (w3.alloc (.cells #[.int .i64 0, .int .i64 0, .slice none 0 0] 181)).drew) (Below.refl _ _).drew).below hb5
      have g0 := hpb.cell 0
      have g1 := hpb.cell 1
      have g2 := hpb.cell 2
      have f0 := hpb.frozen 0
      have f1 := hpb.frozen 1
      have f2 := hpb.frozen 2
      refine tkH 8 rfl ?_
      refine tkH 9 rfl ?_
      refine tkH 10 rfl ?_
      refine rdH 12 rfl fun K hK => ?_
      try simp (maxSteps := 2000000) only [zz1, zz2, zz3]
      go_simp
      refine hK.out _ _ (KB.out _ (((hb35.setCell (by exact Nat.le_refl _) _).setCell (by exact Nat.le_refl _) _).setCell (by exact Nat.le_refl _) _)) (fun hHeld => ?_)
      clear hK K
      try simp (maxSteps := 2000000) only [zz1, zz2, zz3, Act.put, zz4, zz5, zz6]
      refine rdH 13 rfl fun K hK => ?_
      try simp (maxSteps := 2000000) only [zz1, zz2, zz3]
      go_simp
      refine hK.out _ _ (KB.out _ (((hb35.setCell (by exact Nat.le_refl _) _).setCell (by exact Nat.le_refl _) _).setCell (by exact Nat.le_refl _) _)) (fun hHeld => ?_)
      clear hK K
      try simp (maxSteps := 2000000) only [zz1, zz2, zz3, Act.put, zz4, zz5, zz6]
      refine wpAnyH_done (by kernel_rfl) ?_ _
      go_wp2_with fail
      go_ret2
      have hsz : w3.heap.size < w5.heap.size := by have := hs5; have e := World.size_alloc w3 (.cells #[.int .i64 0, .int .i64 0, .slice none 0 0] 181); simp only [World.size_drew] at this; omega
      refine ⟨A5, c5, rfl, hc5, RdL.weaken ByR.stable (S := fun j => (w3.alloc (.cells #[.int .i64 0, .int .i64 0, .slice none 0 0] 181)).heap.size ≤ j) ?_ (fun j hj => Nat.le_trans hw3s (Nat.le_trans hal3.size hj)), ?_⟩
      · repeat (first | exact hr5 | refine RdL.setCell ByR.stable ?_ (show ¬ _ ≤ _ by rw [World.size_alloc]; dsimp only; omega) _)
      · repeat (first | exact HBW.out.trans (hb35.mono hw3s) | refine Below.setCell ?_ (by dsimp only; omega) _)
  · try simp (maxSteps := 2000000) only [zz1, zz2, zz3]
    go_simp
    refine hK.out _ _ (KB.out _ (show Below w3.heap.size w3 ((w3.alloc (.cells #[.int .i64 0, .int .i64 0, .slice none 0 0] 181)).drew) from hal3.drew)) (fun hHeld => ?_)
    clear hK K
    try simp (maxSteps := 2000000) only [zz1, zz2, zz3, Act.put, zz4, zz5, zz6]
    refine rdH 1 rfl fun K hK => ?_
    try simp (maxSteps := 2000000) only [zz1, zz2, zz3]
    go_simp
    go_at_call 209
    refine (HF2.out _ (show Below w3.heap.size w3 ((w3.alloc (.cells #[.int .i64 0, .int .i64 0, .slice none 0 0] 181)).drew) from hal3.drew)).mono ?_
    rintro e w9 ⟨rfl, hw9⟩
    rw [hw9]
    clear hw9
    try (go_wp2_with fail)
    refine hK.out _ _ (KB.out _ (show Below w3.heap.size w3 ((w3.alloc (.cells #[.int .i64 0, .int .i64 0, .slice none 0 0] 181)).drew) from hal3.drew)) (fun hHeld => ?_)
    clear hK K
    try simp (maxSteps := 2000000) only [zz1, zz2, zz3, Act.put, zz4, zz5, zz6]
    refine rdH 7 rfl fun K hK => ?_
    try simp (maxSteps := 2000000) only [zz1, zz2, zz3]
    go_simp
    go_at_call 208
    refine (HM.out _ (show Below w3.heap.size w3 ((w3.alloc (.cells #[.int .i64 0, .int .i64 0, .slice none 0 0] 181)).drew) from hal3.drew)).mono ?_
    rintro e w5 ⟨A5, c5, rfl, hc5, hr5, hb5⟩
    have hs5 := hb5.size
    have hb35 : Below w3.heap.size w3 w5 := Below.trans (show Below w3.heap.size w3 ((w3.alloc (.cells #[.int .i64 0, .int .i64 0, .slice none 0 0] 181)).drew) from hal3.drew) (hb5.mono (Below.size (show Below w3.heap.size w3 ((w3.alloc (.cells #[.int .i64 0, .int .i64 0, .slice none 0 0] 181)).drew) from hal3.drew)))
    try (go_wp2_with fail)
    refine hK.out _ _ (KB.out _ hb35) (fun hHeld => ?_)
    clear hK K
    try simp (maxSteps := 2000000) only [zz1, zz2, zz3, Act.put, zz4, zz5, zz6]
    have hpb := ((BoxAt.new w3 #[.int .i64 0, .int .i64 0, .slice none 0 0] 181).below (w' := (w3.alloc (.cells #[.int .i64 0, .int .i64 0, .slice none 0 0] 181)).drew) (Below.refl _ _).drew).below hb5
    have g0 := hpb.cell 0
    have g1 := hpb.cell 1
    have g2 := hpb.cell 2
    have f0 := hpb.frozen 0
    have f1 := hpb.frozen 1
    have f2 := hpb.frozen 2
    refine tkH 8 rfl ?_
    refine tkH 9 rfl ?_
    refine tkH 10 rfl ?_
    refine rdH 12 rfl fun K hK => ?_
    try simp (maxSteps := 2000000) only [zz1, zz2, zz3]
    go_simp
    refine hK.out _ _ (KB.out _ (((hb35.setCell (by exact Nat.le_refl _) _).setCell (by exact Nat.le_refl _) _).setCell (by exact Nat.le_refl _) _)) (fun hHeld => ?_)
    clear hK K
    try simp (maxSteps := 2000000) only [zz1, zz2, zz3, Act.put, zz4, zz5, zz6]
    refine rdH 13 rfl fun K hK => ?_
    try simp (maxSteps := 2000000) only [zz1, zz2, zz3]
    go_simp
    refine hK.out _ _ (KB.out _ (((hb35.setCell (by exact Nat.le_refl _) _).setCell (by exact Nat.le_refl _) _).setCell (by exact Nat.le_refl _) _)) (fun hHeld => ?_)
    clear hK K
    try simp (maxSteps := 2000000) only [zz1, zz2, zz3, Act.put, zz4, zz5, zz6]
    refine wpAnyH_done (by kernel_rfl) ?_ _
    go_wp2_with fail
    go_ret2
    have hsz : w3.heap.size < w5.heap.size := by have := hs5; have e := World.size_alloc w3 (.cells #[.int .i64 0, .int .i64 0, .slice none 0 0] 181); simp only [World.size_drew] at this; omega
    refine ⟨A5, c5, rfl, hc5, RdL.weaken ByR.stable (S := fun j => (w3.alloc (.cells #[.int .i64 0, .int .i64 0, .slice none 0 0] 181)).heap.size ≤ j) ?_ (fun j hj => Nat.le_trans hw3s (Nat.le_trans hal3.size hj)), ?_⟩
    · repeat (first | exact hr5 | refine RdL.setCell ByR.stable ?_ (show ¬ _ ≤ _ by rw [World.size_alloc]; dsimp only; omega) _)
    · repeat (first | exact HBW.out.trans (hb35.mono hw3s) | refine Below.setCell ?_ (by dsimp only; omega) _)
end
section
theorem eq_slB (w : World) (p : Option Addr) (n c : Nat) : (binOp .eql 68 (.slice p n c) (.slice none 0 0)).run Tryz.prog w = .ok (.bool p.isNone) w := Lib.run_eql_slice_nil _ _ _ _ _ _ _ _ sl_by.und
attribute [local go_sem] eq_slB

set_option maxRecDepth 100000 in
theorem cloneB_any {S : Nat → Prop} {w : World} {A : Option Addr} {m c : Nat} {xs : List Nat} (R : Hid (RdL ByR 1 S w A m xs)) (hm : m ≤ 1000000) :
    Calls Tryz.prog 173 #[.slice A m c] w fun e w' => ∃ A' c', e = .returned (.slice A' m c') ∧ m ≤ c' ∧ RdL ByR 1 (w.heap.size ≤ ·) w' A' m xs ∧ Below w.heap.size w w' := by
  cases A with
  | none =>
    have hm0 : m = 0 := by
      rcases Nat.eq_zero_or_pos m with h | h
      · exact h
      · obtain ⟨b, o, hA, _⟩ := R.out.addr h; cases hA
    subst hm0
    have hx := R.out.1
    have : xs = [] := List.length_eq_zero_iff.1 hx
    subst this
    go_enter Tryz.func173, Tryz.ntmps173
    go_wp2_with fail
    go_ret
    exact ⟨none, 0, rfl, Nat.le_refl _, RdL.nil, Below.refl _ _⟩
  | some p =>
    go_enter Tryz.func173, Tryz.ntmps173
    have hA := Lib.hid (R.out.alloc ByR.stable (.cells #[] 5))
    go_wp2_with (at_builtin; refine wpList_appL ByR.stable ByR.one sl_by rfl (by exact rfl) (base := w.heap.size) (S := fun _ => True) (n := 0) (xs := []) (by exact rfl) (OwnL.made #[] 0 (Nat.le_refl _) (by unfold maxLen; omega) rfl) (by exact rfl) hA.out (fun _ _ h => h) (by unfold maxLen; omega) (by omega) (by simp only [World.size_alloc]; omega) ?_; intro A' c' w' hc hown hg hat)
    have hb : Below w.heap.size w w' := ((Below.refl _ _).alloc (Nat.le_refl _) _).grown hg (by simp only [World.size_alloc]; omega) (fun k hk => by simp only [Value.ownBlock, Option.some.injEq] at hk; omega)
    rw [Nat.zero_add, List.nil_append] at hown
    obtain ⟨A2, c2, hv, hc2, hrd⟩ := hown.rd (S' := fun b => w.heap.size ≤ b) (fun b hb => hb) (fun cs x hx => hx)
    simp only [Value.slice.injEq] at hv
    obtain ⟨rfl, _, rfl⟩ := hv
    clear hA hown hg hat
    go_ret
    exact ⟨A', c', rfl, hc2, hrd, hb⟩

def madeF (ws us : List Nat) (ss : Rws) (n : Nat) : List Nat := combF ws (us.map (ra ss)) (List.replicate n 0)
set_option maxRecDepth 100000 in
set_option maxHeartbeats 4000000 in
theorem made_any {w : World} {cb b k m N cs cu cw n : Nat} {As Au Aw : Option Addr} {S1 S2 S3 : Nat → Prop} {ss : Rws} {us ws : List Nat} (H : CodAt w cb b k m) (R1 : RdL RowR 1 S1 w As N ss) (R2 : RdL NatR 1 S2 w Au k us) (R3 : RdL ByR 1 S3 w Aw k ws)
    (hus : ∀ u ∈ us, u < N ∧ (ra ss u).length = n) (hn : n ≤ 1000000) :
    Calls Tryz.prog 175 #[.pointer (some ⟨cb, 0, none⟩), .slice As N cs, .slice Au k cu, .slice Aw k cw] w fun e w' => ∃ A' c', e = .returned (.slice A' n c') ∧ n ≤ c' ∧ RdL ByR 1 (fun j => w.heap.size ≤ j) w' A' n (madeF ws us ss n) ∧ Below w.heap.size w w' := by
  have HC := Lib.hid H
  have H1 := Lib.hid R1
  have H2 := Lib.hid R2
  have H3 := Lib.hid R3
  have hk1 := H.k1
  have hkm := H.km
  have hul := R2.1
  have hwl := R3.1
  have q0 : (k : Int) ≤ 255 := by omega
  have q1 : (0 : Int) < (k : Int) := by omega
  have hrow : ∀ u, u ∈ us → ∃ bb o, As = some ⟨bb, o, none⟩ ∧ bb < w.heap.size ∧ ∃ A c, w.cell? ⟨bb, o + u, none⟩ = some (.slice A n c) ∧ n ≤ c ∧ RdL ByR 1 S1 w A n (ra ss u) := fun u hu => by
    obtain ⟨h5, h6⟩ := hus u hu
    obtain ⟨bb, o, rfl, _, hb⟩ := R1.addr h5
    obtain ⟨A, mm, c, v, hc, hr⟩ := row_at R1 h5
    have hmm : mm = n := by rw [← hr.1, h6]
    subst hmm
    exact ⟨bb, o, rfl, hb, A, c, v, hc, hr⟩
  have HROW := Lib.hid hrow
  obtain ⟨bu, ou, rfl, _, hbu⟩ := R2.addr (k := 0) (by omega)
  have u0 := nat_at R2 (k := 0) (by omega)
  rw [Nat.add_zero] at u0
  obtain ⟨bs, os, rfl, hbs, Ar, cr, v0, hcr, hr0⟩ := hrow (gt us 0) (gt_mem (by omega))
  have q2 : ((gt us 0 : Nat) : Int) < (N : Int) := by have := (hus (gt us 0) (gt_mem (by omega))).1; omega
  have q3 : (0 : Int) ≤ ((gt us 0 : Nat) : Int) := Int.natCast_nonneg _
  have q4 : (n : Int) ≤ 1000000 := by omega
  have q5 : (0 : Int) ≤ (n : Int) := Int.natCast_nonneg _
  have hmk := makeBy n (by omega) w
  have hz := RowIn.made w n 5
  have hbz : Below w.heap.size w (w.alloc (.cells (Array.replicate n (.int .u8 0)) 5)) := (Below.refl _ _).alloc (Nat.le_refl _) _
  have hzr := hz.rd (S := fun j => w.heap.size ≤ j) (Nat.le_refl _)
  rw [List.length_replicate] at hzr
  obtain ⟨wA, hwA⟩ : ∃ wA, w.alloc (.cells (Array.replicate n (.int .u8 0)) 5) = wA := ⟨_, rfl⟩
  rw [hwA] at hmk hbz hzr
  have HZ := Lib.hid hzr
  have HBZ := Lib.hid hbz
  clear H R1 R2 R3 hrow hz hbz hzr hwA hr0
  go_enter Tryz.func175, Tryz.ntmps175
  go_wp2_with fail
  clear hmk
  go_loopw [9, 22] (fun vs vi wr => ∃ (i : Nat) (A : Option Addr) (c : Nat), i ≤ k ∧ vi = .int .i64 i ∧ vs = .slice A n c ∧ n ≤ c ∧ Hid (RdL ByR 1 (fun j => w.heap.size ≤ j) wr A n (combF (ws.take i) ((us.map (ra ss)).take i) (List.replicate n 0))) ∧ Hid (Below w.heap.size w wr)) (fun _ vi _ => k - (intOf vi).toNat)
  case atStart => exact ⟨0, _, n, Nat.zero_le _, rfl, rfl, Nat.le_refl _, by rw [List.take_zero, List.take_zero]; exact HZ, HBZ⟩
  case round =>
    clear HZ HBZ u0 v0 q2 q3
    obtain ⟨i, A, c, hi, rfl, rfl, hc, HR, HB⟩ := hrel
    have p0 : (0 : Int) ≤ (i : Int) := Int.natCast_nonneg _
    by_cases hlt : i < k
    · have p1 : (i : Int) < (k : Int) := by omega
      have hum : gt us i ∈ us := gt_mem (by omega)
      have u1 := (HB.out.cell (p := ⟨bu, ou + i, none⟩) hbu).trans (nat_at H2.out hlt)
      obtain ⟨b2, o2, e2, _, A1, c1, v1, hc1, hr1⟩ := HROW.out _ hum
      injection e2 with e2
      injection e2 with e2 e3
      subst e2; subst e3
      obtain ⟨bw, ow, rfl, _, hbw⟩ := H3.out.addr hlt
      obtain ⟨w1, x1⟩ := by_at H3.out hlt
      have hbd : Below w.heap.size w wr.drew := HB.out.drew
      have s1 : wr.drew.cell? ⟨bw, ow + i, none⟩ = some (.int .u8 (gt ws i : Int)) ∧ wr.drew.cell? ⟨bs, os + gt us i, none⟩ = some (.slice A1 n c1) := ⟨(hbd.cell (p := ⟨bw, ow + i, none⟩) hbw).trans w1, (hbd.cell (p := ⟨bs, os + gt us i, none⟩) hbs).trans v1⟩
      have q2 : ((gt us i : Nat) : Int) < (N : Int) := by have := (hus _ hum).1; omega
      have q3 : (0 : Int) ≤ ((gt us i : Nat) : Int) := Int.natCast_nonneg _
      have hF := cfield_any (HC.out.below hbd)
      have hfo := fold_any (w := wr.drew) (cp := c1) (cp2 := c) (HC.out.below hbd).fld x1 (hr1.below ByR.stable hbd) hn hc1 (HR.out.below ByR.stable (Below.refl _ _).drew) hn
      have hrm : ra (us.map (ra ss)) i = ra ss (gt us i) := ra_some (by rw [List.getElem?_map, gt_of_lt (by omega)]; rfl)
      rw [← hrm, ← combF_take (by omega) (by rw [List.length_map]; omega)] at hfo
      clear hr1 hrm hum
      go_wp2_with fail
      refine wp_region_held_drew (S := fun w' => w'.cell? ⟨bw, ow + i, none⟩ = some (.int .u8 (gt ws i : Int)) ∧ w'.cell? ⟨bs, os + gt us i, none⟩ = some (.slice A1 n c1)) (by kernel_rfl) (by first | exact s1 | exact s2) (fun hHeld => ?_)
      refine tkH 0 rfl ?_
      refine tkH 2 rfl ?_
      refine tkH 3 rfl ?_
      refine tkH 4 rfl ?_
      refine tkH 5 rfl ?_
      refine tkH 6 rfl ?_
      refine tkH 7 rfl ?_
      refine tkH 8 rfl ?_
      refine tkH 9 rfl ?_
      refine tkH 10 rfl ?_
      refine rdH 1 rfl fun K hK => ?_
      try simp (maxSteps := 2000000) only [zz1, zz2, zz3]
      go_simp
      go_at_call 209
      refine hF.mono ?_
      rintro e w9 ⟨rfl, hw9⟩
      rw [hw9]
      clear hw9 hF
      try (go_wp2_with fail)
      refine hK.out _ _ (by first | exact s1 | exact s2) (fun hHeld => ?_)
      clear hK K
      try simp (maxSteps := 2000000) only [zz1, zz2, zz3, Act.put, zz4, zz5, zz6]
      refine rdH 11 rfl fun K hK => ?_
      try simp (maxSteps := 2000000) only [zz1, zz2, zz3]
      go_simp
      go_at_call 210
      refine hfo.mono ?_
      rintro e w6 ⟨AN, cN, rfl, hcN, hrs, hb6⟩
      have hs9 := HB.out.size
      have s2 : w6.cell? ⟨bw, ow + i, none⟩ = some (.int .u8 (gt ws i : Int)) ∧ w6.cell? ⟨bs, os + gt us i, none⟩ = some (.slice A1 n c1) := ⟨(hb6.cell (p := ⟨bw, ow + i, none⟩) (Nat.lt_of_lt_of_le hbw hs9)).trans s1.1, (hb6.cell (p := ⟨bs, os + gt us i, none⟩) (Nat.lt_of_lt_of_le hbs hs9)).trans s1.2⟩
      have HRS := Lib.hid (hrs.weaken ByR.stable (S' := fun j => w.heap.size ≤ j) (fun j hj => Nat.le_trans hs9 hj))
      have HB6 := Lib.hid (hbd.trans (hb6.mono hs9))
      clear hrs hb6 hfo
      try (go_wp2_with fail)
      refine hK.out _ _ (by first | exact s1 | exact s2) (fun hHeld => ?_)
      clear hK K
      try simp (maxSteps := 2000000) only [zz1, zz2, zz3, Act.put, zz4, zz5, zz6]
      refine tkH 12 rfl ?_
      refine wpAnyH_done (by kernel_rfl) ?_ _
      clear s1 s2 hHeld u1 w1 v1
      go_wp2_with fail
      exact ⟨⟨i + 1, AN, cN, by omega, by go_num, rfl, hcN, HRS, HB6⟩, by simp [intOf]; omega⟩
    · have p1 : ¬ (i : Int) < (k : Int) := by omega
      obtain rfl : i = k := by omega
      rw [List.take_of_length_le (by omega), List.take_of_length_le (by rw [List.length_map]; omega)] at HR
      go_wp2_with fail
      go_ret
      exact ⟨A, c, rfl, hc, HR.out, HB.out⟩
end
section

def ixF (f : Nat → Bool) : List Nat → Nat → Int
  | [], _ => -1
  | x :: l, i => if f x = true then (i : Int) else ixF f l (i + 1)
theorem ixF_cons (f : Nat → Bool) (x : Nat) (l : List Nat) (i : Nat) : ixF f (x :: l) i = if f x = true then (i : Int) else ixF f l (i + 1) := rfl
theorem ixF_any (f : Nat → Bool) : ∀ (l : List Nat) (i : Nat), decide (ixF f l i ≥ 0) = l.any f
  | [], _ => rfl
  | x :: l, i => by
    rw [List.any_cons, ixF_cons]
    by_cases h : f x = true
    · rw [if_pos h, h]; simp
    · rw [if_neg h, ixF_any f l (i + 1)]
      simp only [Bool.not_eq_true] at h
      rw [h, Bool.false_or]
theorem drop_gt {l : List Nat} {k : Nat} (hk : k < l.length) : l.drop k = gt l k :: l.drop (k + 1) := by
  rw [List.drop_eq_getElem_cons hk]
  congr 1
  exact (Option.some.inj ((gt_of_lt hk).symm.trans (List.getElem?_eq_getElem hk))).symm
set_option maxRecDepth 100000 in
set_option maxHeartbeats 4000000 in
theorem index_any {w : World} {A : Option Addr} {n c : Nat} {S : Nat → Prop} {xs : List Nat} {g : FuncId} {cap : Array Value} {f : Nat → Bool} (R : RdL NatR 1 S w A n xs) (hn : n ≤ 1000000) (hg : Hid (∀ args w, (callFunc g args).run Tryz.prog w = .ok (.enter g args) w))
    (hstep : Hid (∀ i W, i < n → Below w.heap.size w W → Calls Tryz.prog g (#[.int .i64 (gt xs i : Int)] ++ cap) W fun e W' => e = .returned (.bool (f (gt xs i))) ∧ Below W.heap.size W W')) :
    Calls Tryz.prog 235 #[.slice A n c, .func (.func g) #[] cap] w fun e w' => e = .returned (.int .i64 (ixF f xs 0)) ∧ Below w.heap.size w w' := by
  have hgg := hg.out
  have HR := Lib.hid R
  have hl := R.1
  have q0 : (n : Int) ≤ 1000000 := by omega
  clear R
  go_enter Tryz.func235, Tryz.ntmps235
  go_wp2_with fail
  go_loopw [8] (fun vi wr => ∃ i : Nat, i ≤ n ∧ vi = .int .i64 i ∧ Hid (ixF f xs 0 = ixF f (xs.drop i) i) ∧ Hid (Below w.heap.size w wr)) (fun vi _ => n - (intOf vi).toNat)
  case atStart => exact ⟨0, Nat.zero_le _, rfl, Lib.hid rfl, Lib.hid (Below.refl _ _)⟩
  case round =>
    obtain ⟨i, hi, rfl, HX, HB⟩ := hrel
    have p0 : (0 : Int) ≤ (i : Int) := Int.natCast_nonneg _
    by_cases hlt : i < n
    · have p1 : (i : Int) < (n : Int) := by omega
      obtain ⟨b, o, rfl, _, hb⟩ := HR.out.addr hlt
      have c1 := (HB.out.cell (p := ⟨b, o + i, none⟩) hb).trans (nat_at HR.out hlt)
      have hst := hstep.out i wr hlt HB.out
      have hx := HX.out
      rw [drop_gt (by omega), ixF_cons] at hx
      by_cases hf : f (gt xs i) = true
      · rw [if_pos hf] at hx
        rw [hf] at hst
        have HX2 := Lib.hid hx
        clear hx HX hf
        go_wp2_with fail
        refine hst.mono ?_
        rintro e w2 ⟨rfl, hb2⟩
        have HB2 := Lib.hid (HB.out.trans (hb2.mono HB.out.size))
        clear hst hb2
        go_wp2_with fail
        go_ret
        exact ⟨by rw [HX2.out]; rfl, HB2.out⟩
      · rw [if_neg hf] at hx
        simp only [Bool.not_eq_true] at hf
        rw [hf] at hst
        have HX2 : Hid (ixF f xs 0 = ixF f (xs.drop (i + 1)) (i + 1)) := Lib.hid hx
        clear hx HX hf
        go_wp2_with fail
        refine hst.mono ?_
        rintro e w2 ⟨rfl, hb2⟩
        have HB2 := Lib.hid (HB.out.trans (hb2.mono HB.out.size))
        clear hst hb2
        go_wp2_with fail
        exact ⟨⟨i + 1, by omega, by go_num, HX2, HB2⟩, by simp [intOf]; omega⟩
    · have p1 : ¬ (i : Int) < (n : Int) := by omega
      have hx := HX.out
      rw [List.drop_of_length_le (by omega)] at hx
      have HX2 : Hid (ixF f xs 0 = -1) := Lib.hid hx
      clear hx HX
      go_wp2_with fail
      go_ret
      exact ⟨by rw [HX2.out]; rfl, HB.out⟩
set_option maxRecDepth 100000 in
theorem contains_any {w : World} {A : Option Addr} {n c : Nat} {S : Nat → Prop} {xs : List Nat} {g : FuncId} {cap : Array Value} {f : Nat → Bool} (R : RdL NatR 1 S w A n xs) (hn : n ≤ 1000000) (hg : Hid (∀ args w, (callFunc g args).run Tryz.prog w = .ok (.enter g args) w))
    (hstep : Hid (∀ i W, i < n → Below w.heap.size w W → Calls Tryz.prog g (#[.int .i64 (gt xs i : Int)] ++ cap) W fun e W' => e = .returned (.bool (f (gt xs i))) ∧ Below W.heap.size W W')) :
    Calls Tryz.prog 206 #[.slice A n c, .func (.func g) #[] cap] w fun e w' => e = .returned (.bool (xs.any f)) ∧ Below w.heap.size w w' := by
  have hix := index_any (c := c) R hn hg hstep
  have ha := ixF_any f xs 0
  obtain ⟨v, hv⟩ : ∃ v, v = ixF f xs 0 := ⟨_, rfl⟩
  rw [← hv] at hix ha
  rw [← ha]
  clear hv ha R hstep
  go_enter Tryz.func206, Tryz.ntmps206
  go_wp2_with (go_at_call 235; refine hix.mono ?_; rintro e w2 ⟨rfl, hb⟩; have HB := Lib.hid hb; clear hb hix)
  go_ret
  exact ⟨rfl, HB.out⟩
theorem call_odd (args : Array Value) (w : World) : (callFunc 205 args).run Tryz.prog w = .ok (.enter 205 args) w := by go_simp
def lenF (ss : Rws) (i : Nat) : Nat := (ra ss i).length
def oddB (ss : Rws) (l : List Nat) (i : Nat) : Bool := decide (lenF ss i ≠ lenF ss (gt l 0))
set_option maxRecDepth 100000 in
set_option maxHeartbeats 4000000 in
theorem odd_any {w : World} {As Al : Option Addr} {N n cs cl sb lb i : Nat} {S S2 : Nat → Prop} {ss : Rws} {l : List Nat} (hs : BoxAt w sb #[.slice As N cs]) (hlb : BoxAt w lb #[.slice Al n cl]) (R : RdL RowR 1 S w As N ss) (R2 : RdL NatR 1 S2 w Al n l) (hn : 0 < n) (hall : ∀ u ∈ l, u < N) (hi : i < N) :
    Calls Tryz.prog 205 #[.int .i64 (i : Int), .pointer (some ⟨sb, 0, none⟩), .pointer (some ⟨lb, 0, none⟩)] w fun e w' => e = .returned (.bool (oddB ss l i)) ∧ Below w.heap.size w w' := by
  have k1 := hs.cell 0
  have k2 := hlb.cell 0
  have g1 := hs.lt
  have g2 := hlb.lt
  have hl := R2.1
  obtain ⟨b2, o2, rfl, _, hb2⟩ := R2.addr hn
  have v2 := nat_at R2 hn
  rw [Nat.add_zero] at v2
  have h0 : gt l 0 < N := hall _ (gt_mem (by omega))
  obtain ⟨b1, o1, rfl, _, hb1⟩ := R.addr hi
  obtain ⟨A1, m1, c1, v1, _, r1⟩ := row_at R hi
  obtain ⟨A3, m3, c3, v3, _, r3⟩ := row_at R h0
  have e1 := r1.1
  have e3 := r3.1
  have hodd : oddB ss l i = ((m1 : Int) != (m3 : Int)) := by
    unfold oddB lenF
    rw [e1, e3]
    by_cases h : m1 = m3
    · subst h; simp
    · rw [decide_eq_true h]
      simp
      omega
  rw [hodd]
  have q1 : (i : Int) < (N : Int) := by omega
  have q2 : (0 : Int) ≤ (i : Int) := Int.natCast_nonneg _
  have q3 : ((gt l 0 : Nat) : Int) < (N : Int) := by omega
  have q4 : (0 : Int) ≤ ((gt l 0 : Nat) : Int) := Int.natCast_nonneg _
  have q5 : (0 : Int) < (n : Int) := by omega
  clear hs hlb R R2 r1 r3 e1 e3 hodd
  go_enter Tryz.func205, Tryz.ntmps205
  go_wp2_with fail
  refine wp_region_later (by kernel_rfl) (by kernel_rfl) ?_
  repeat (go_big_quiet_step (fail))
  refine wpQuiet_nil ?_
  rintro _ ⟨z, rfl⟩
  go_wp2_with fail
  go_ret
  exact ⟨rfl, z.ok⟩
end
end Go.Proofs.YtihnlhfngmbglaaGreat
