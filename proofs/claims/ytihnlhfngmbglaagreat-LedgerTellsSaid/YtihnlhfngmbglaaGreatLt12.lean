/-
  What is missing of all stripes, the most of one, whether all is within, how many drives more may die.
  Which stripes are lost.
  A scrubber: the first least one; which stripe is next.
  A scrubber comes to a stripe; a step.
  A scrubber's step.
  Drives that die and are replaced, stripes that are made anew; which is next; sums: plain.
  Law 31: whether stripes are few and short.
  Law 31: stripes that are laid.
  Law 30: stripes that are put, what befalls drives; are there few?
  Law 30: what any name reads, whatever befell the drives.
  Law 30: the names of the stripes, and another one.
  Law 30: where there is no coder.
  The page's example: a stripe with a dead drive.
  Law 31: the page's example.
  The document's count of a long text's stripes; lists of ints that are the same.
  Law 30: the page's example.
  Law 31: steps come to stripes by their places, and how often that was.
  Law 31: a step where shards are missing.
  Law 31: ScrubTurns: the walk.
  Law 31: ScrubLost: the walk.
  Law 31: ScrubAll: plain.
  What a region's operations keep may be sharpened on the way.
  An operation of a drawn region taken first, its slot said (for slots far behind).
  Law 31: ScrubAll: the walk.
  Law 30: what lies at each place, whatever befell the drives: plain.
  Law 30: stripes are put, and what befalls the drives: ours and the document's.
-/
import Derived.Test.YtihnlhfngmbglaaGreatLt11
import Derived.Test.YtihnlhfngmbglaaGreatLt10
import Derived.Test.YtihnlhfngmbglaaGreatLt8
import Derived.Test.YtihnlhfngmbglaaGreatLt4
set_option linter.unusedSimpArgs false
set_option linter.unusedVariables false
namespace Go.Proofs.YtihnlhfngmbglaaGreat
open Go.RowKit Go.Cib
attribute [local go_sem] cell_set Later.cell Later.frozen Grw.cell Grw.frozen
section
theorem run_max_l (ts : Array TypeId) (t : TypeId) (x y : Int) (w : World) : (Builtin.max_ ts t #[.int .i64 x, .int .i64 y]).run Tryz.prog w = .ok (.int .i64 (max x y)) w := by
  rw [run_max_int2, show (if x < y then y else x) = max x y by omega]
attribute [local go_sem ↓] run_max_l
section
variable {w : World}
theorem cm_any {cb b k m : Nat} (h : CodAt w cb b k m) : Calls Tryz.prog 58 #[.pointer (some ⟨cb, 0, none⟩)] w fun e w' => e = .returned (.int .i64 (m : Int)) ∧ Below w.heap.size w w' := by
  obtain ⟨A, c, h1, _⟩ := h.box
  have k1 : w.cell? ⟨cb, 1, none⟩ = some (.int .i64 (m : Int)) := h1.cell 1
  have hN := none_any h
  clear h h1
  go_enter Tryz.func58, Tryz.ntmps58
  go_wp2_with (go_at_call 121; refine hN.mono ?_; rintro e w9 ⟨rfl, hw9⟩; rw [hw9]; clear hw9)
  go_ret
  exact ⟨rfl, Below.refl _ _⟩
def CMt (w : World) (vc : Value) (m : Nat) : Prop := ∀ W, Below w.heap.size w W → Calls Tryz.prog 58 #[vc] W fun e w' => e = .returned (.int .i64 (m : Int)) ∧ Below W.heap.size W w'
theorem CMt.below {w' : World} {vc : Value} {m : Nat} (h : CMt w vc m) (hb : Below w.heap.size w w') : CMt w' vc m := fun W hW => h W (hb.trans (hW.mono hb.size))
def misN (gs : Nat → Nat → Bool) (N i : Nat) : Nat := (missL (gs i) N).length
theorem misN_le (gs : Nat → Nat → Bool) (N i : Nat) : misN gs N i ≤ N := by
  have := List.length_filter_le (fun d => !gs i d) (List.range N)
  rw [List.length_range] at this
  exact this
def sumM (gs : Nat → Nat → Bool) (N : Nat) : Nat → Nat
  | 0 => 0
  | i + 1 => sumM gs N i + misN gs N i
def maxM (gs : Nat → Nat → Bool) (N : Nat) : Nat → Nat
  | 0 => 0
  | i + 1 => max (maxM gs N i) (misN gs N i)
theorem sumM_le (gs : Nat → Nat → Bool) (N : Nat) : ∀ i, sumM gs N i ≤ i * N
  | 0 => Nat.zero_le _
  | i + 1 => by
    have h1 := sumM_le gs N i
    have h2 := misN_le gs N i
    rw [sumM, Nat.succ_mul]
    omega
theorem maxM_le (gs : Nat → Nat → Bool) (N : Nat) : ∀ i, maxM gs N i ≤ N
  | 0 => Nat.zero_le _
  | i + 1 => by
    have h1 := maxM_le gs N i
    have h2 := misN_le gs N i
    rw [maxM]
    omega
theorem call_t1 (args : Array Value) (w : World) : (callFunc 62 args).run Tryz.prog w = .ok (.enter 62 args) w := by go_simp
theorem call_w1 (args : Array Value) (w : World) : (callFunc 70 args).run Tryz.prog w = .ok (.enter 70 args) w := by go_simp
theorem total1_any {t : Nat} {r : RfI} {x y : Nat} (hb : BoxAt w t #[.int .i64 (x : Int)]) (hx : x ≤ 1000000000) (hy : y ≤ 255) :
    Calls Tryz.prog 62 #[.agg r.C, .int .i64 (y : Int), .pointer (some ⟨t, 0, none⟩)] w fun e w' => e = .returned (.tuple #[]) ∧ BoxAt w' t #[.int .i64 ((x + y : Nat) : Int)] ∧ Keep (fun j => j = t) w w' := by
  obtain ⟨rk, rp, rg⟩ := r
  unfold RfI.C
  dsimp only
  have htl := hb.lt
  have k0 : w.cell? ⟨t, 0, none⟩ = some (.int .i64 (x : Int)) := hb.cell 0
  have z0 := hb.frozen 0
  have BT := Lib.hid hb
  have p0 : (x : Int) ≤ 1000000000 := by omega
  have p1 : (y : Int) ≤ 255 := by omega
  clear hb
  go_enter Tryz.func62, Tryz.ntmps62
  go_wp2_with fail
  go_end0
  refine ⟨rfl, ?_, ?_⟩
  · have := (BT.out.set 0 (.int .i64 ((x : Int) + (y : Int)))).alloc (.cells #[.int .u8 rk, .int .i64 rp, .int .u64 rg] 38)
    push_cast
    exact this
  · exact (Keep.setCell (F := fun j => j = t) (p := ⟨t, 0, none⟩) (Keep.refl _ _) (fun _ => rfl) _).alloc _
theorem worst1_any {t : Nat} {r : RfI} {x y : Nat} (hb : BoxAt w t #[.int .i64 (x : Int)]) :
    Calls Tryz.prog 70 #[.agg r.C, .int .i64 (y : Int), .pointer (some ⟨t, 0, none⟩)] w fun e w' => e = .returned (.tuple #[]) ∧ BoxAt w' t #[.int .i64 ((max x y : Nat) : Int)] ∧ Keep (fun j => j = t) w w' := by
  obtain ⟨rk, rp, rg⟩ := r
  unfold RfI.C
  dsimp only
  have htl := hb.lt
  have k0 : w.cell? ⟨t, 0, none⟩ = some (.int .i64 (x : Int)) := hb.cell 0
  have z0 := hb.frozen 0
  have BT := Lib.hid hb
  clear hb
  go_enter Tryz.func70, Tryz.ntmps70
  go_wp2_with fail
  go_end0
  refine ⟨rfl, ?_, ?_⟩
  · have := (BT.out.set 0 (.int .i64 (max (x : Int) (y : Int)))).alloc (.cells #[.int .u8 rk, .int .i64 rp, .int .u64 rg] 38)
    rw [show ((max x y : Nat) : Int) = max (x : Int) (y : Int) by omega]
    exact this
  · exact (Keep.setCell (F := fun j => j = t) (p := ⟨t, 0, none⟩) (Keep.refl _ _) (fun _ => rfl) _).alloc _
theorem ltotal_any {va vc : Value} {S : Nat → Prop} {A : Option Addr} {n c N : Nat} {rs : List RfI} {gs : Nat → Nat → Bool} (R : RdL RfIR 3 S w A n rs) (hn : n ≤ 1000000) (hN : CNt w vc N) (hN2 : N ≤ 255) (hW : Hid (∀ i r, rs[i]? = some r → WhC w va vc r (gs i) N)) :
    Calls Tryz.prog 19 #[va, vc, .slice A n c] w fun e w' => e = .returned (.int .i64 (sumM gs N n : Nat)) ∧ Below w.heap.size w w' := by
  have hb0 : Below w.heap.size w (w.alloc (.cells #[.int .i64 0] 3)) := (Below.refl _ _).alloc (Nat.le_refl _) _
  have bT := BoxAt.new w #[.int .i64 0] 3
  obtain ⟨W, hW0⟩ : ∃ W, w.alloc (.cells #[.int .i64 0] 3) = W := ⟨_, rfl⟩
  rw [hW0] at hb0 bT
  have hxl := R.1
  have hov := over_any (w := w) (w1 := W) (c := c) hb0 R hn hN hN2 hW (f := 62) (cap := #[.pointer (some ⟨w.heap.size, 0, none⟩)]) (Lib.hid call_t1) (Inv := fun i W' => Below w.heap.size w W' ∧ BoxAt W' w.heap.size #[.int .i64 (sumM gs N i : Nat)] ∧ i ≤ n ∨ n < i ∧ Below w.heap.size w W' )
    (Lib.hid (.inl ⟨hb0, bT, Nat.zero_le _⟩))
    (Lib.hid fun i W1 W2 h hb => by
      rcases h with ⟨h1, h2, h3⟩ | ⟨h1, h2⟩
      · exact .inl ⟨h1.trans (hb.mono h1.size), h2.below hb, h3⟩
      · exact .inr ⟨h1, h2.trans (hb.mono h2.size)⟩)
    (Lib.hid fun i W1 h => by
      rcases h with ⟨h1, _⟩ | ⟨_, h2⟩
      · exact h1
      · exact h2)
    (Lib.hid fun i r W1 hr h => by
      have hi : i < n := by rw [← hxl]; exact (List.getElem?_eq_some_iff.1 hr).1
      rcases h with ⟨h1, h2, h3⟩ | ⟨h1, _⟩
      · have hs := sumM_le gs N i
        have hm := misN_le gs N i
        have : i * N ≤ 1000000 * 255 := Nat.mul_le_mul (by omega) hN2
        refine (total1_any (r := r) (y := misN gs N i) h2 (by omega) (by omega)).mono ?_
        rintro e w' ⟨rfl, hb, hk⟩
        exact ⟨rfl, .inl ⟨h1.trans (hk.below h1.size (fun j hj => by rw [hj]; exact Nat.le_refl _)), hb, by omega⟩⟩
      · omega)
  have q0 : ¬ n < n := by omega
  have HW0 := Lib.hid hW0
  have HOV := Lib.hid hov
  have HS0 := Lib.hid (show (0 : Int) = ((sumM gs N 0 : Nat) : Int) from rfl)
  clear hov hW hN hb0 bT R hW0
  go_enter Tryz.func19, Tryz.ntmps19
  go_wp2_with fail
  rw [HW0.out]
  refine HOV.out.mono ?_
  clear HOV
  rintro e w1 ⟨rfl, ⟨h1, h2, _⟩ | ⟨h1, _⟩⟩
  · have k0 := h2.cell 0
    have HB := Lib.hid h1
    clear h1 h2
    go_wp2_with fail
    go_ret
    exact ⟨rfl, HB.out⟩
  · omega
theorem lworst_any {va vc : Value} {S : Nat → Prop} {A : Option Addr} {n c N : Nat} {rs : List RfI} {gs : Nat → Nat → Bool} (R : RdL RfIR 3 S w A n rs) (hn : n ≤ 1000000) (hN : CNt w vc N) (hN2 : N ≤ 255) (hW : Hid (∀ i r, rs[i]? = some r → WhC w va vc r (gs i) N)) :
    Calls Tryz.prog 27 #[va, vc, .slice A n c] w fun e w' => e = .returned (.int .i64 (maxM gs N n : Nat)) ∧ Below w.heap.size w w' := by
  have hb0 : Below w.heap.size w (w.alloc (.cells #[.int .i64 0] 3)) := (Below.refl _ _).alloc (Nat.le_refl _) _
  have bT := BoxAt.new w #[.int .i64 0] 3
  obtain ⟨W, hW0⟩ : ∃ W, w.alloc (.cells #[.int .i64 0] 3) = W := ⟨_, rfl⟩
  rw [hW0] at hb0 bT
  have hxl := R.1
  have hov := over_any (w := w) (w1 := W) (c := c) hb0 R hn hN hN2 hW (f := 70) (cap := #[.pointer (some ⟨w.heap.size, 0, none⟩)]) (Lib.hid call_w1) (Inv := fun i W' => Below w.heap.size w W' ∧ BoxAt W' w.heap.size #[.int .i64 (maxM gs N i : Nat)] ∧ i ≤ n ∨ n < i ∧ Below w.heap.size w W' )
    (Lib.hid (.inl ⟨hb0, bT, Nat.zero_le _⟩))
    (Lib.hid fun i W1 W2 h hb => by
      rcases h with ⟨h1, h2, h3⟩ | ⟨h1, h2⟩
      · exact .inl ⟨h1.trans (hb.mono h1.size), h2.below hb, h3⟩
      · exact .inr ⟨h1, h2.trans (hb.mono h2.size)⟩)
    (Lib.hid fun i W1 h => by
      rcases h with ⟨h1, _⟩ | ⟨_, h2⟩
      · exact h1
      · exact h2)
    (Lib.hid fun i r W1 hr h => by
      have hi : i < n := by rw [← hxl]; exact (List.getElem?_eq_some_iff.1 hr).1
      rcases h with ⟨h1, h2, h3⟩ | ⟨h1, _⟩
      · refine (worst1_any (r := r) (y := misN gs N i) h2).mono ?_
        rintro e w' ⟨rfl, hb, hk⟩
        exact ⟨rfl, .inl ⟨h1.trans (hk.below h1.size (fun j hj => by rw [hj]; exact Nat.le_refl _)), hb, by omega⟩⟩
      · omega)
  have q0 : ¬ n < n := by omega
  have HW0 := Lib.hid hW0
  have HOV := Lib.hid hov
  have HS0 := Lib.hid (show (0 : Int) = ((maxM gs N 0 : Nat) : Int) from rfl)
  clear hov hW hN hb0 bT R hW0
  go_enter Tryz.func27, Tryz.ntmps27
  go_wp2_with fail
  rw [HW0.out]
  refine HOV.out.mono ?_
  clear HOV
  rintro e w1 ⟨rfl, ⟨h1, h2, _⟩ | ⟨h1, _⟩⟩
  · have k0 := h2.cell 0
    have HB := Lib.hid h1
    clear h1 h2
    go_wp2_with fail
    go_ret
    exact ⟨rfl, HB.out⟩
  · omega
theorem lwithin_any {va vc : Value} {S : Nat → Prop} {A : Option Addr} {n c N m : Nat} {rs : List RfI} {gs : Nat → Nat → Bool} (R : RdL RfIR 3 S w A n rs) (hn : n ≤ 1000000) (hN : CNt w vc N) (hN2 : N ≤ 255) (hW : Hid (∀ i r, rs[i]? = some r → WhC w va vc r (gs i) N)) (hm : CMt w vc m) :
    Calls Tryz.prog 17 #[va, vc, .slice A n c] w fun e w' => e = .returned (.bool (decide (maxM gs N n ≤ m))) ∧ Below w.heap.size w w' := by
  have hwo := lworst_any (c := c) R hn hN hN2 hW
  have HM := Lib.hid hm
  obtain ⟨M, hM⟩ : ∃ M, maxM gs N n = M := ⟨_, rfl⟩
  rw [hM] at hwo ⊢
  clear R hN hW hm hM
  go_enter Tryz.func17, Tryz.ntmps17
  go_wp2_with fail
  refine hwo.mono ?_
  clear hwo
  rintro e w1 ⟨rfl, hb1⟩
  have hm1 := HM.out w1 hb1
  have HB1 := Lib.hid hb1
  clear hb1
  go_wp2_with fail
  refine hm1.mono ?_
  clear hm1
  rintro e w2 ⟨rfl, hb2⟩
  have HB2 := Lib.hid (HB1.out.trans (hb2.mono HB1.out.size))
  clear hb2
  go_wp2_with fail
  go_ret
  exact ⟨by simp, HB2.out⟩
theorem lspare_any {va vc : Value} {S : Nat → Prop} {A : Option Addr} {n c N m : Nat} {rs : List RfI} {gs : Nat → Nat → Bool} (R : RdL RfIR 3 S w A n rs) (hn : n ≤ 1000000) (hN : CNt w vc N) (hN2 : N ≤ 255) (hW : Hid (∀ i r, rs[i]? = some r → WhC w va vc r (gs i) N)) (hm : CMt w vc m) (hm2 : m ≤ 255) :
    Calls Tryz.prog 16 #[va, vc, .slice A n c] w fun e w' => e = .returned (.int .i64 (if N = 0 then -1 else max (-1) ((m : Int) - (maxM gs N n : Nat)))) ∧ Below w.heap.size w w' := by
  have hcn := hN w (Below.refl _ _)
  have HR := Lib.hid R
  have HN := Lib.hid hN
  have HM := Lib.hid hm
  have hml := maxM_le gs N n
  by_cases h0 : N = 0
  · subst h0
    rw [if_pos rfl]
    clear R hN hW hm hml
    go_enter Tryz.func16, Tryz.ntmps16
    go_wp2_with fail
    refine hcn.mono ?_
    clear hcn
    rintro e w1 ⟨rfl, hb1⟩
    have HB1 := Lib.hid hb1
    clear hb1
    go_wp2_with fail
    go_ret
    exact ⟨rfl, HB1.out⟩
  · have f0 : ((N : Int) == 0) = false := by
      have : (N : Int) ≠ 0 := by omega
      simpa using this
    rw [if_neg h0]
    have hwo := fun w' (hb : Below w.heap.size w w') => lworst_any (c := c) (R.below RfIR.stable hb) hn (HN.out.below hb) hN2 (Lib.hid fun i r hr => (hW.out i r hr).below hb)
    obtain ⟨M, hM⟩ : ∃ M, maxM gs N n = M := ⟨_, rfl⟩
    rw [hM] at hwo hml ⊢
    have q1 : (m : Int) ≤ 255 := by omega
    have q2 : (M : Int) ≤ 255 := by omega
    have q3 : (0 : Int) ≤ (M : Int) := by omega
    clear R hN hW hm hM
    go_enter Tryz.func16, Tryz.ntmps16
    go_wp2_with fail
    refine hcn.mono ?_
    clear hcn
    rintro e w1 ⟨rfl, hb1⟩
    have hm1 := HM.out w1 hb1
    have HB1 := Lib.hid hb1
    clear hb1
    go_wp2_with fail
    refine hm1.mono ?_
    clear hm1
    rintro e w2 ⟨rfl, hb2⟩
    have hb2' := HB1.out.trans (hb2.mono HB1.out.size)
    have hw2 := hwo w2 hb2'
    have HB2 := Lib.hid hb2'
    clear hb2 hb2' hwo
    go_wp2_with fail
    refine hw2.mono ?_
    clear hw2
    rintro e w3 ⟨rfl, hb3⟩
    have HB3 := Lib.hid (HB2.out.trans (hb3.mono HB2.out.size))
    clear hb3
    go_wp2_with fail
    go_ret
    exact ⟨rfl, HB3.out⟩
end
end
section
theorem OwnL.kpL {T : Type} {R : (Nat → Prop) → World → List Value → T → Prop} {E : TypeId} {s base n : Nat} {X S S' : Nat → Prop} {w w' : World} {v : Value} {xs : List T} (hR : Stable R) (h : OwnL R E s base S w v n xs) (hk : KpX X w w')
    (hv : ∀ g, v.ownBlock = some g → X g) (hS : ∀ b, S b → b < w.heap.size → X b ∧ S' b) : OwnL R E s base S' w' v n xs := by
  obtain ⟨css, h1, h2, h3, h4, h5⟩ := h
  refine ⟨css, ⟨h1.1, ?_⟩, h2, h3, h4, fun i cs x hc hx => ?_⟩
  · rcases h1.2 with h | ⟨g, cap, cur, rfl, g1, g2, g3⟩
    · exact .inl h
    · exact .inr ⟨g, cap, cur, rfl, g1, (hk.1 g (hv g rfl)).trans g2, g3⟩
  · exact hR _ _ _ _ _ _ (h5 i cs x hc hx) fun b hb hl => ⟨⟨(hS b hb.1 hl).2, hb.2⟩, hk.1 b (hS b hb.1 hl).1⟩
def lostL (gs : Nat → Nat → Bool) (N m : Nat) (rs : List RfI) : Nat → List RfI
  | 0 => []
  | i + 1 => lostL gs N m rs i ++ if m < misN gs N i then [rs.getD i RfI.none_] else []
theorem lostL_len (gs : Nat → Nat → Bool) (N m : Nat) (rs : List RfI) : ∀ i, (lostL gs N m rs i).length ≤ i
  | 0 => Nat.le_refl _
  | i + 1 => by
    have := lostL_len gs N m rs i
    rw [lostL, List.length_append]
    split <;> simp <;> omega
theorem call_l1 (args : Array Value) (w : World) : (callFunc 71 args).run Tryz.prog w = .ok (.enter 71 args) w := by go_simp
set_option maxHeartbeats 4000000 in
theorem lost1_any {w w0 : World} {vc : Value} {m t q base l : Nat} {r : RfI} {y : Nat} {xs : List RfI} {A : Option Addr} {c : Nat} (hw : Below w0.heap.size w0 w) (hm : CMt w0 vc m) (hq : BoxAt w q #[vc]) (ht : BoxAt w t #[.slice A l c]) (hl : l ≤ 1000000) (hlc : l ≤ c)
    (hO : OwnL RfIR 38 3 base (fun j => base ≤ j) w (.slice A l c) l xs) (htb : t < base) (hqb : q < base) (hqt : q ≠ t) (h0t : w0.heap.size ≤ t) (hbs0 : base ≤ w.heap.size) :
    Calls Tryz.prog 71 #[.agg r.C, .int .i64 (y : Int), .pointer (some ⟨q, 0, none⟩), .pointer (some ⟨t, 0, none⟩)] w fun e w' => e = .returned (.tuple #[]) ∧ Below w0.heap.size w0 w' ∧ w.heap.size ≤ w'.heap.size ∧ BoxAt w' q #[vc] ∧
      ∃ A' l' c', BoxAt w' t #[.slice A' l' c'] ∧ l' ≤ c' ∧ OwnL RfIR 38 3 base (fun j => base ≤ j) w' (.slice A' l' c') l' (xs ++ if m < y then [r] else []) := by
  obtain ⟨rk, rp, rg⟩ := r
  unfold RfI.C
  dsimp only
  have hb1 : Below w.heap.size w (w.alloc (.cells #[.int .u8 rk, .int .i64 rp, .int .u64 rg] 38)) := (Below.refl _ _).alloc (Nat.le_refl _) _
  have bR := BoxAt.new w #[.int .u8 rk, .int .i64 rp, .int .u64 rg] 38
  obtain ⟨W, hW⟩ : ∃ W, w.alloc (.cells #[.int .u8 rk, .int .i64 rp, .int .u64 rg] 38) = W := ⟨_, rfl⟩
  rw [hW] at hb1 bR
  have hbw := hw.trans (hb1.mono hw.size)
  have hmm := hm W hbw
  have bq1 := hq.below hb1
  have bt1 := ht.below hb1
  have HO1 := Lib.hid (hO.keep RfIR.stable hb1)
  have k0 := bq1.cell 0
  have HB1 := Lib.hid hbw
  have BQ1 := Lib.hid bq1
  have BT1 := Lib.hid bt1
  obtain ⟨z, hz⟩ : ∃ z, w.heap.size = z := ⟨_, rfl⟩
  rw [hz] at bR
  have BR1 := Lib.hid bR
  have HWS := Lib.hid (Nat.le_trans hbs0 hb1.size)
  have HWZ := Lib.hid hb1.size
  clear hb1 bR hbw bq1 bt1 hq ht hO hm hw hbs0
  by_cases hlt : m < y
  · have p0 : (y : Int) > (m : Int) := by omega
    rw [if_pos hlt]
    go_enter Tryz.func71, Tryz.ntmps71
    go_wp2_with fail
    refine hmm.mono ?_
    clear hmm k0
    rintro e w2 ⟨rfl, hb2⟩
    have HB2 := Lib.hid (HB1.out.trans (hb2.mono HB1.out.size))
    have bQ2 := BQ1.out.below hb2
    have bT2 := BT1.out.below hb2
    have bR2 := BR1.out.below hb2
    have HO2 := Lib.hid (HO1.out.keep RfIR.stable hb2)
    have t0 := bT2.cell 0
    have k0 : w2.cell? ⟨z, 0, none⟩ = some (.int .u8 rk) := bR2.cell 0
    have k1 : w2.cell? ⟨z, 1, none⟩ = some (.int .i64 rp) := bR2.cell 1
    have k2 : w2.cell? ⟨z, 2, none⟩ = some (.int .u64 rg) := bR2.cell 2
    have hbs : base ≤ w2.heap.size := by have := hb2.size; have := HWS.out; omega
    have HT2 := Lib.hid bT2
    have HZ2 := Lib.hid (Nat.le_trans HWZ.out hb2.size)
    have HQ2 := Lib.hid bQ2
    have hgb : w0.heap.size ≤ base := by omega
    clear hb2 bR2 bT2 bQ2
    go_wp2_with (at_builtin; go_must (refine wpList_push1 RfIR.stable RfIR.one sl_rfi (by rfl) (by rfl) (base := base) (S := fun j => base ≤ j) (cs := #[.int .u8 rk, .int .i64 rp, .int .u64 rg]) (y := ⟨rk, rp, rg⟩) (by rfl) (by rfl) HO2.out (by rfl) (by rfl) (by unfold maxLen; omega) (by omega) hbs ?_); intro A8 c8 ug hc8 own9 hlt8 hb8 hat8; have HO9 := Lib.hid own9; have HB9 := Lib.hid (HB2.out.trans (hb8.mono hgb)); have HZ9 := Lib.hid (Nat.le_trans HZ2.out hb8.size); have hnt : some t ≠ Value.ownBlock (.slice A l c) := fun e => by { have := HO2.out.lt t e.symm; omega }; have hnq : some q ≠ Value.ownBlock (.slice A l c) := fun e => by { have := HO2.out.lt q e.symm; omega }; have hT9 := HT2.out.grw ug.ok hnt; have HQ9 := Lib.hid (HQ2.out.grw ug.ok hnq); have HT9 := Lib.hid hT9; have t1 := hT9.cell 0; have z1 := hT9.frozen 0; clear own9 hb8 hat8 hlt8 hT9 hnt hnq)
    go_end0
    refine ⟨rfl, HB9.out.setCell (p := ⟨t, 0, none⟩) h0t _, by rw [World.size_setCell]; exact HZ9.out, HQ9.out.set_other hqt _, A8, l + 1, c8, HT9.out.set 0 _, hc8, ?_⟩
    exact OwnL.kpL RfIR.stable HO9.out (X := fun j => base ≤ j) ⟨fun j hj => Below.heap_setCell _ _ _ _ (fun e => by have e2 : j = t := e; omega), by rw [World.size_setCell]; exact Nat.le_refl _⟩ (fun g hg => (HO9.out.lt g hg).1) (fun b hb _ => ⟨hb, hb⟩)
  · have p0 : ¬ (y : Int) > (m : Int) := by omega
    rw [if_neg hlt, List.append_nil]
    go_enter Tryz.func71, Tryz.ntmps71
    go_wp2_with fail
    refine hmm.mono ?_
    clear hmm k0
    rintro e w2 ⟨rfl, hb2⟩
    have HB2 := Lib.hid (HB1.out.trans (hb2.mono HB1.out.size))
    have HZ2 := Lib.hid (Nat.le_trans HWZ.out hb2.size)
    have HQ2 := Lib.hid (BQ1.out.below hb2)
    have HT2 := Lib.hid (BT1.out.below hb2)
    have HO2 := Lib.hid (HO1.out.keep RfIR.stable hb2)
    clear hb2
    go_wp2_with fail
    go_end0
    exact ⟨rfl, HB2.out, HZ2.out, HQ2.out, A, l, c, HT2.out, hlc, HO2.out⟩
set_option maxHeartbeats 4000000 in
theorem llost_any {w : World} {pc : Option Addr} {va : Value} {S : Nat → Prop} {A : Option Addr} {n c N m : Nat} {rs : List RfI} {gs : Nat → Nat → Bool} (R : RdL RfIR 3 S w A n rs) (hn : n ≤ 1000000) (hN : CNt w (.pointer pc) N) (hN2 : N ≤ 255) (hW : Hid (∀ i r, rs[i]? = some r → WhC w va (.pointer pc) r (gs i) N)) (hm : CMt w (.pointer pc) m) :
    Calls Tryz.prog 29 #[va, .pointer pc, .slice A n c] w fun e w' => ∃ A' l' c', e = .returned (.slice A' l' c') ∧ l' ≤ c' ∧ RdL RfIR 3 (fun j => w.heap.size ≤ j) w' A' l' (lostL gs N m rs n) ∧ Below w.heap.size w w' := by
  obtain ⟨W, hW0⟩ : ∃ W, (w.alloc (.cells #[.pointer pc] 30)).alloc (.cells #[.slice none 0 0] 34) = W := ⟨_, rfl⟩
  have hb0 : Below w.heap.size w W := by rw [← hW0]; exact (by repeat (first | (with_reducible exact Below.refl _ _) | (with_reducible assumption) | (with_reducible refine Below.drew ?_) | (with_reducible refine Below.setCell ?_ ?_ _) | (with_reducible refine Below.alloc ?_ ?_ _) | (with_reducible refine Below.later ?_ ?_ _) | (first | (with_reducible exact Nat.le_refl _) | omega | (simp only [World.size_alloc, World.size_setCell, World.size_drew] <;> omega))))
  have bQ : BoxAt W w.heap.size #[.pointer pc] := by rw [← hW0]; exact (BoxAt.new w _ _).alloc _
  have bT : BoxAt W (w.heap.size + 1) #[.slice none 0 0] := by
    rw [← hW0]
    have := BoxAt.new (w.alloc (.cells #[.pointer pc] 30)) #[.slice none 0 0] 34
    rwa [World.size_alloc] at this
  have hsz : W.heap.size = w.heap.size + 2 := by rw [← hW0, World.size_alloc, World.size_alloc]
  have hxl := R.1
  have hov := over_any (w := w) (w1 := W) (c := c) hb0 R hn hN hN2 hW (f := 71) (cap := #[.pointer (some ⟨w.heap.size, 0, none⟩), .pointer (some ⟨w.heap.size + 1, 0, none⟩)]) (Lib.hid call_l1)
    (Inv := fun i W' => Below w.heap.size w W' ∧ BoxAt W' w.heap.size #[.pointer pc] ∧ W.heap.size ≤ W'.heap.size ∧ ∃ A' l' c', BoxAt W' (w.heap.size + 1) #[.slice A' l' c'] ∧ l' ≤ c' ∧ OwnL RfIR 38 3 W.heap.size (fun j => W.heap.size ≤ j) W' (.slice A' l' c') l' (lostL gs N m rs i))
    (Lib.hid ⟨hb0, bQ, Nat.le_refl _, none, 0, 0, bT, Nat.le_refl _, OwnL.nil_⟩)
    (Lib.hid fun i W1 W2 h hb => by
      obtain ⟨h1, h2, h3, A', l', c', h4, h5, h6⟩ := h
      exact ⟨h1.trans (hb.mono h1.size), h2.below hb, Nat.le_trans h3 hb.size, A', l', c', h4.below hb, h5, h6.keep RfIR.stable hb⟩)
    (Lib.hid fun i W1 h => h.1)
    (Lib.hid fun i r W1 hr h => by
      have hi : i < n := by rw [← hxl]; exact (List.getElem?_eq_some_iff.1 hr).1
      obtain ⟨h1, h2, h3, A', l', c', h4, h5, h6⟩ := h
      have hll := lostL_len gs N m rs i
      rw [h6.len] at hll
      refine (lost1_any (r := r) (y := misN gs N i) h1 hm h2 h4 (by omega) h5 h6 (by omega) (by omega) (by omega) (by omega) h3).mono ?_
      rintro e w' ⟨rfl, hb, hz, hq, A2, l2, c2, ht, hlc, hO⟩
      refine ⟨rfl, hb, hq, Nat.le_trans h3 hz, A2, l2, c2, ht, hlc, ?_⟩
      rw [lostL, List.getD_eq_getElem?_getD, hr]
      exact hO)
  have HW0 := Lib.hid hW0
  have HOV := Lib.hid hov
  have HSZ := Lib.hid hsz
  have HB0 := Lib.hid hb0
  clear hov hW hN hb0 bQ bT R hm hsz hW0
  go_enter Tryz.func29, Tryz.ntmps29
  go_wp2_with fail
  rw [HW0.out]
  refine HOV.out.mono ?_
  clear HOV
  rintro e w1 ⟨rfl, h1, h2, h3, A', l', c', h4, h5, h6⟩
  have k0 := h4.cell 0
  have HB := Lib.hid h1
  have HO := Lib.hid h6
  clear h1 h2 h3 h4 h6
  go_wp2_with fail
  go_ret
  obtain ⟨A2, c2, e, h, hr⟩ := HO.out.rd (S' := fun j => w.heap.size ≤ j) (fun k hk => by have := HSZ.out; omega) (fun cs x hx => hx)
  injection e with e1 _ e2
  subst e1; subst e2
  exact ⟨A', l', c', rfl, h5, hr, HB.out⟩
end
section
def aboveF (began : Bool) (place : Int) (xs : List RfI) (i : Nat) : Bool := !began || decide (plF xs i > place)
/-- Which is next: its number. -/
def nextN (began : Bool) (place : Int) (xs : List RfI) : Option Nat :=
  if (lstF (aboveF began place xs) (plF xs) xs.length).2 = true then some (lstF (aboveF began place xs) (plF xs) xs.length).1
  else if (lstF (fun _ => true) (plF xs) xs.length).2 = true then some (lstF (fun _ => true) (plF xs) xs.length).1 else none
def nextR (began : Bool) (place : Int) (xs : List RfI) : RfI × Bool :=
  match nextN began place xs with
  | some i => (xs.getD i RfI.none_, true)
  | none => (RfI.none_, false)
end
section
end
section
end
section
section
variable {n k N : Nat} {ps : List Pt} {gs : Nat → Nat → Bool} {sts : List DSt}
theorem Hds.repl {g : Nat → Bool} {r : Ref} {xs : List Nat} (h : Hds g k N r xs sts) (hr : r.ok n) (x : Int) : Hds (butB g x) k N r xs (replA n sts x) := by
  unfold replA
  split
  · rename_i hx
    refine h.set (fun d hd => ?_) fun hl => .inr ⟨?_, lost_zero (DSt.seen_new hr.p)⟩
    · unfold butB
      rw [decide_eq_false (by omega)]; simp
    · unfold butB
      rw [decide_eq_true (by omega)]; simp
  · rename_i hx
    refine h.congr fun d hd => ?_
    unfold butB
    rw [decide_eq_false (by omega)]; simp
/-! ### Made anew -/
end
/-! ### Which is next -/
theorem lstF_spec (is : Nat → Bool) (pl : Nat → Int) : ∀ n, ((lstF is pl n).2 = false → ∀ i, i < n → is i = false) ∧ ((lstF is pl n).2 = true → is (lstF is pl n).1 = true ∧ (lstF is pl n).1 < n ∧ ∀ i, i < n → is i = true → pl (lstF is pl n).1 ≤ pl i)
  | 0 => ⟨fun _ i hi => by omega, fun h => by simp [lstF] at h⟩
  | n + 1 => by
    obtain ⟨h1, h2⟩ := lstF_spec is pl n
    rw [lstF]
    split
    · rename_i h
      refine ⟨fun h => (by cases h), fun _ => ⟨h.1, Nat.lt_succ_self n, fun i hi hs => ?_⟩⟩
      show pl n ≤ pl i
      by_cases e : i = n
      · rw [e]; exact Int.le_refl _
      · rcases h.2 with h3 | h3
        · have := h1 h3 i (by omega); rw [hs] at this; cases this
        · cases hb : (lstF is pl n).2 with
          | false => have := h1 hb i (by omega); rw [hs] at this; cases this
          | true => have := (h2 hb).2.2 i (by omega) hs; omega
    · rename_i h
      refine ⟨fun hf i hi => ?_, fun ht => ?_⟩
      · by_cases e : i = n
        · subst e
          cases hs : is i with
          | false => rfl
          | true => exact absurd ⟨hs, .inl hf⟩ h
        · exact h1 hf i (by omega)
      · obtain ⟨a, b, c⟩ := h2 ht
        refine ⟨a, by omega, fun i hi hs => ?_⟩
        by_cases e : i = n
        · subst e
          have : ¬ pl i < pl (lstF is pl i).1 := fun hl => h ⟨hs, .inr hl⟩
          omega
        · exact c i (by omega) hs
/-- A list of names, the places of which are 0, .., L - 1, each once. -/
structure Around (R : Nat → RfI) (L : Nat) (xs : List RfI) : Prop where
  pl : ∀ p, (R p).place = (p : Int)
  all : ∀ p, p < L → ∃ i : Nat, xs[i]? = some (R p)
  sub : ∀ (i : Nat) x, xs[i]? = some x → ∃ p, p < L ∧ x = R p
theorem plF_gt {xs : List RfI} {i : Nat} (hi : i < xs.length) : xs[i]? = some (xs.getD i RfI.none_) := by
  rw [List.getD_eq_getElem?_getD, List.getElem?_eq_getElem hi]; rfl
theorem Around.next {R : Nat → RfI} {L : Nat} {xs : List RfI} (h : Around R L xs) (hL : 1 ≤ L) {began : Bool} {place : Int} {q : Nat} (hb : (began = false ∧ q = 0) ∨ ∃ p : Nat, began = true ∧ place = p ∧ p < L ∧ q = (p + 1) % L) : nextR began place xs = (R q, true) := by
  have hq : q < L := by
    rcases hb with ⟨_, rfl⟩ | ⟨p, _, _, _, rfl⟩
    · omega
    · exact Nat.mod_lt _ (by omega)
  have key : ∀ is : Nat → Bool, (∀ (i : Nat) p, xs[i]? = some (R p) → p < L → is i = true → q ≤ p) → (∀ i : Nat, xs[i]? = some (R q) → is i = true) → (lstF is (plF xs) xs.length).2 = true ∧ xs.getD (lstF is (plF xs) xs.length).1 RfI.none_ = R q := by
    intro is h1 h2
    obtain ⟨i0, hi0⟩ := h.all q hq
    obtain ⟨s1, s2⟩ := lstF_spec is (plF xs) xs.length
    have hil := (List.getElem?_eq_some_iff.1 hi0).1
    cases hbo : (lstF is (plF xs) xs.length).2 with
    | false => have := s1 hbo i0 hil; rw [h2 i0 hi0] at this; cases this
    | true =>
      obtain ⟨t1, t2, t3⟩ := s2 hbo
      refine ⟨rfl, ?_⟩
      have t4 := t3 i0 hil (h2 i0 hi0)
      have e1 := plF_gt t2
      obtain ⟨p, hp, ep⟩ := h.sub _ _ e1
      rw [ep] at e1 ⊢
      have hqp := h1 _ p e1 hp t1
      rw [plF_at e1, plF_at hi0, h.pl, h.pl] at t4
      obtain rfl : p = q := by omega
      rfl
  have hz : ∀ is : Nat → Bool, (∀ i, i < xs.length → is i = false) → (lstF is (plF xs) xs.length).2 = false := fun is hn => by
    cases hbo : (lstF is (plF xs) xs.length).2 with
    | false => rfl
    | true =>
      obtain ⟨t1, t2, _⟩ := (lstF_spec is (plF xs) xs.length).2 hbo
      rw [hn _ t2] at t1; cases t1
  unfold nextR nextN
  rcases hb with ⟨rfl, rfl⟩ | ⟨p, rfl, rfl, hp, rfl⟩
  · obtain ⟨k1, k2⟩ := key (aboveF false place xs) (fun _ _ _ _ _ => Nat.zero_le _) (fun _ _ => rfl)
    rw [if_pos k1]
    dsimp only
    rw [k2]
  · by_cases hw : p + 1 < L
    · rw [Nat.mod_eq_of_lt hw] at key ⊢
      obtain ⟨k1, k2⟩ := key (aboveF true (p : Int) xs) (fun i p2 hi _ hs => by
        unfold aboveF at hs
        rw [plF_at hi, h.pl] at hs
        simp at hs
        omega) (fun i hi => by
        unfold aboveF
        rw [plF_at hi, h.pl]
        simp only [Bool.not_true, Bool.false_or, decide_eq_true_eq]
        omega)
      rw [if_pos k1]
      dsimp only
      rw [k2]
    · have e : (p + 1) % L = 0 := by rw [show p + 1 = L by omega, Nat.mod_self]
      rw [e] at key ⊢
      have hn := hz (aboveF true (p : Int) xs) (fun i hi => by
        obtain ⟨p2, hp2, ep⟩ := h.sub _ _ (plF_gt hi)
        unfold aboveF
        rw [plF_at (plF_gt hi), ep, h.pl]
        simp
        omega)
      obtain ⟨k1, k2⟩ := key (fun _ => true) (fun _ _ _ _ _ => Nat.zero_le _) (fun _ _ => rfl)
      rw [if_neg (by rw [hn]; decide), if_pos k1]
      dsimp only
      rw [k2]
/-! ### The names of what is laid -/
end
section
def PtR (S : Nat → Prop) (w : World) (cs : List Value) (x : Pt) : Prop := ∃ A n c, cs = [.int .u64 (x.1 : Int), .slice A n c] ∧ n ≤ c ∧ RdL ByR 1 S w A n x.2 ∧ x.1 < 2 ^ 64
theorem PtR.stable : Stable PtR := fun S S' w w' cs x ⟨A, n, c, h1, h2, h3, h4⟩ hk => ⟨A, n, c, h1, h2, h3.stable ByR.stable hk, h4⟩
end
section
section
variable {X : Nat → Prop} {w0 w : World} {a cb bf k m n : Nat} {sts : List DSt}
theorem MX.cnt (h : MX X w0 w a cb bf k m n sts) : CNt w (.pointer (some ⟨cb, 0, none⟩)) (k + m) := fun W hW => cn_any (h.below' hW).cod
theorem MX.cmt (h : MX X w0 w a cb bf k m n sts) : CMt w (.pointer (some ⟨cb, 0, none⟩)) m := fun W hW => cm_any (h.below' hW).cod
theorem MX.whc {g : Nat → Bool} {r : Ref} {xs : List Nat} {rf : RfI} (h : MX X w0 w a cb bf k m n sts) (hr : r.ok n) (hg : Hid (r.gen < 2 ^ 64)) (hx : Byt xs) (hl : xs.length ≤ k * 44) (hc : Hds g k (k + m) r xs sts) (hC : rf.C = refC r) (hp : rf.place = (r.place : Int)) : WhC w (.pointer (some ⟨a, 0, none⟩)) (.pointer (some ⟨cb, 0, none⟩)) rf g (k + m) := fun W hW => by
  rw [hC]
  refine (whole_view (h.below' hW).mid hr hg hx hl hc).mono ?_
  rintro e w' ⟨b, rfl, hr, hb⟩
  exact ⟨_, _, _, _, rfl, Nat.le_refl _, hr, .inr ⟨r.place, hp, rfl⟩, hb⟩
end
end
section
structure LPt where
  kd : Nat
  pl : Int
  gn : Nat
  b : List Nat
def LPt.r (p : LPt) : RfI := ⟨(p.kd : Int), p.pl, (p.gn : Int)⟩
def LPtR (S : Nat → Prop) (w : World) (cs : List Value) (x : LPt) : Prop := ∃ A n c, cs = [.int .u8 (x.kd : Int), .int .i64 x.pl, .int .u64 (x.gn : Int), .slice A n c] ∧ n ≤ c ∧ RdL ByR 1 S w A n x.b ∧ x.kd < 256 ∧ x.gn < 2 ^ 64
theorem LPtR.stable : Stable LPtR := fun S S' w w' cs x ⟨A, n, c, h1, h2, h3, h4⟩ hk => ⟨A, n, c, h1, h2, h3.stable ByR.stable hk, h4⟩
theorem lpt_at {S : Nat → Prop} {w : World} {A : Option Addr} {L : Nat} {ps : List LPt} (h : RdL LPtR 4 S w A L ps) {i : Nat} (hi : i < L) : ∃ b o x A2 n c, A = some ⟨b, o, none⟩ ∧ ps[i]? = some x ∧ b < w.heap.size ∧ S b ∧ (w.cell? ⟨b, o + i * 4, none⟩ = some (.int .u8 (x.kd : Int)) ∧ w.cell? ⟨b, o + i * 4 + 1, none⟩ = some (.int .i64 x.pl) ∧ w.cell? ⟨b, o + i * 4 + 2, none⟩ = some (.int .u64 (x.gn : Int)) ∧ w.cell? ⟨b, o + i * 4 + 3, none⟩ = some (.slice A2 n c)) ∧ n ≤ c ∧ RdL ByR 1 S w A2 n x.b ∧ x.kd < 256 ∧ x.gn < 2 ^ 64 := by
  obtain ⟨b, o, rfl, hS, hlt⟩ := h.addr hi
  obtain ⟨hl, cs, h1, ⟨A2, n, c, h2, hc, hr, h4, h5⟩, h3⟩ := h.at hi
  subst h2
  refine ⟨b, o, ps[i], A2, n, c, rfl, by simp [hl], hlt, hS, ⟨?_, ?_, ?_, ?_⟩, hc, hr, h4, h5⟩
  · simpa using h3 0 _ rfl
  · simpa using h3 1 _ rfl
  · simpa using h3 2 _ rfl
  · simpa using h3 3 _ rfl
structure Hrt where
  kind : Int
  d : Int
  at_ : Int
def HrtR (_ : Nat → Prop) (_ : World) (cs : List Value) (x : Hrt) : Prop := cs = [.int .i64 x.kind, .int .i64 x.d, .int .i64 x.at_]
theorem HrtR.stable : Stable HrtR := fun _ _ _ _ _ _ h _ => h
theorem hrt_at {S : Nat → Prop} {w : World} {A : Option Addr} {L : Nat} {hs : List Hrt} (h : RdL HrtR 3 S w A L hs) {i : Nat} (hi : i < L) : ∃ b o x, A = some ⟨b, o, none⟩ ∧ hs[i]? = some x ∧ b < w.heap.size ∧ S b ∧ (w.cell? ⟨b, o + i * 3, none⟩ = some (.int .i64 x.kind) ∧ w.cell? ⟨b, o + i * 3 + 1, none⟩ = some (.int .i64 x.d) ∧ w.cell? ⟨b, o + i * 3 + 2, none⟩ = some (.int .i64 x.at_)) := by
  obtain ⟨b, o, rfl, hS, hlt⟩ := h.addr hi
  obtain ⟨hl, cs, h1, h2, h3⟩ := h.at hi
  subst h2
  refine ⟨b, o, hs[i], rfl, by simp [hl], hlt, hS, ?_, ?_, ?_⟩
  · simpa using h3 0 _ rfl
  · simpa using h3 1 _ rfl
  · simpa using h3 2 _ rfl
def FewQ (w : World) (L1 L2 : Nat) (ps : List LPt) (e : Ending) (w' : World) : Prop := ∃ B, e = .returned (.bool B) ∧ (B = true → L1 ≤ 12 ∧ L2 ≤ 30 ∧ ∀ p ∈ ps, p.b.length ≤ 500) ∧ Below w.heap.size w w'
set_option maxRecDepth 100000 in
set_option maxHeartbeats 8000000 in
theorem lfew_any {w : World} {S1 : Nat → Prop} {A1 A2 : Option Addr} {L1 L2 c1 c2 : Nat} {ps : List LPt} (R : RdL LPtR 4 S1 w A1 L1 ps) (h2 : L2 ≤ maxLen) (h1 : L1 ≤ maxLen) :
    Calls Tryz.prog 12 #[.slice A1 L1 c1, .slice A2 L2 c2] w fun e w' => FewQ w L1 L2 ps e w' := by
  have HR := Lib.hid R
  have HL := Lib.hid R.1
  have q1 : (0 : Int) ≤ (L1 : Int) := by omega
  have q2 : (0 : Int) ≤ (L2 : Int) := by omega
  have q3 : (L1 : Int) ≤ 9223372036854775807 := by unfold maxLen at h1; omega
  have q4 : (L2 : Int) ≤ 9223372036854775807 := by unfold maxLen at h2; omega
  clear R h1 h2
  go_enter Tryz.func12, Tryz.ntmps12
  go_wp2_with fail
  go_loopw [5] (fun vi wr => ∃ i : Nat, i ≤ 40 ∧ i ≤ L1 ∧ vi = .int .i64 i ∧ Hid (∀ j p, j < i → ps[j]? = some p → p.b.length ≤ 500) ∧ wr = w) (fun vi _ => 40 - (intOf vi).toNat)
  case atStart => exact ⟨0, by omega, Nat.zero_le _, rfl, Lib.hid fun j p h => by omega, rfl⟩
  case round =>
    obtain ⟨i, hi, hiL, rfl, HU, hw⟩ := hrel
    rw [hw]
    clear hw
    have p0 : (0 : Int) ≤ (i : Int) := Int.natCast_nonneg _
    by_cases hlt : i < L1
    · have p1 : (i : Int) < (L1 : Int) := by omega
      by_cases h40 : i < 40
      · have p2 : (i : Int) < 40 := by omega
        obtain ⟨b, o, x, A3, n3, c3, rfl, hx, hbl, _, ⟨_, _, _, x3⟩, hc3, hr3, _⟩ := lpt_at HR.out hlt
        have hn3 := hr3.1
        by_cases hg : 500 < n3
        · have p3 : (n3 : Int) > 500 := by omega
          clear hr3 hx hn3
          go_wp2_with fail
          go_ret
          unfold FewQ; exact ⟨false, rfl, fun h => by simp at h, Below.refl _ _⟩
        · have p3 : ¬ (n3 : Int) > 500 := by omega
          have HU2 := Lib.hid (show ∀ j p, j < i + 1 → ps[j]? = some p → p.b.length ≤ 500 from fun j p hj hp => by
            by_cases e : j = i
            · subst e
              rw [hx] at hp
              obtain rfl := Option.some.inj hp
              omega
            · exact HU.out j p (by omega) hp)
          clear hr3 hx hn3
          go_wp2_with fail
          exact ⟨⟨i + 1, h40, hlt, by go_num, HU2, trivial⟩, by simp [intOf]; omega⟩
      · have p2 : ¬ (i : Int) < 40 := by omega
        have p4 : ¬ (L1 : Int) ≤ 12 := by omega
        go_wp2_with fail
        go_ret
        unfold FewQ; exact ⟨false, rfl, fun h => by simp at h, Below.refl _ _⟩
    · have p1 : ¬ (i : Int) < (L1 : Int) := by omega
      obtain rfl : i = L1 := by omega
      have HA := Lib.hid (show ∀ p ∈ ps, p.b.length ≤ 500 from fun p hp => by
        obtain ⟨j, hj⟩ := List.getElem?_of_mem hp
        exact HU.out j p (by have := (List.getElem?_eq_some_iff.1 hj).1; rw [HL.out] at this; exact this) hj)
      by_cases h12 : (i : Int) ≤ 12
      · by_cases h30 : (L2 : Int) ≤ 30
        · go_wp2_with fail
          go_ret
          unfold FewQ; exact ⟨true, rfl, fun _ => ⟨by omega, by omega, HA.out⟩, Below.refl _ _⟩
        · go_wp2_with fail
          go_ret
          unfold FewQ; exact ⟨false, rfl, fun h => by simp at h, Below.refl _ _⟩
      · go_wp2_with fail
        go_ret
        unfold FewQ; exact ⟨false, rfl, fun h => by simp at h, Below.refl _ _⟩
end
section
/-- Which drives have their shard of a stripe. -/
def viewX (sts : List DSt) (n k N kd : Nat) (pl : Int) (gn : Nat) (d : Nat) : Bool := rrtB kd pl n && (lookS (wholeF (stR sts k ⟨kd, pl.toNat, gn⟩) N).1 (ixN N pl.toNat d)).isSome
section
variable {X : Nat → Prop} {w0 w : World} {a cb bf k m n t kd gn : Nat} {pl : Int} {sts : List DSt}
theorem view_bad (h : rrtB kd pl n = false) (N d : Nat) : viewX sts n k N kd pl gn d = false := by unfold viewX; rw [h]; rfl
theorem view_home {N p i : Nat} (h : rrtB kd (p : Int) n = true) (hN : 1 ≤ N) (hi : i < N) : viewX sts n k N kd (p : Int) gn (homeN N p i) = (lookS (wholeF (stR sts k ⟨kd, p, gn⟩) N).1 i).isSome := by
  unfold viewX
  rw [h, Int.toNat_natCast, ix_home hN hi, Bool.true_and]
theorem MX.whx (h : MX X w0 w a cb bf k m n sts) (hG : GdA t sts) (kd gn : Nat) (pl : Int) : WhC w (.pointer (some ⟨a, 0, none⟩)) (.pointer (some ⟨cb, 0, none⟩)) ⟨(kd : Int), pl, (gn : Int)⟩ (viewX sts n k (k + m) kd pl gn) (k + m) := by
  intro W hb
  have hp := h.pos
  obtain ⟨U, C, hA, hC, _⟩ := h.mid.ex
  obtain ⟨v, Fs, ps, hB⟩ := hA.below hb
  by_cases hr : rrtB kd pl n = true
  · obtain ⟨p, rfl, hok⟩ := goodP_ok (k := 0) (len := 0) hr
    have hok2 : (⟨kd, p, gn⟩ : Ref).ok n := ⟨hok.k1, hok.k4, hok.p⟩
    refine (swholes_any (Lib.hid hB) (h.cod.below hb) h.len hok2 (hG.rd h.mid.ok hok2.p)).mono ?_
    rintro e w1 ⟨g, rfl, hrd, hb1⟩
    refine ⟨_, _, _, _, rfl, Nat.le_refl _, hrd, .inr ⟨p, rfl, ?_⟩, hb1⟩
    unfold wsU
    refine List.map_congr_left fun i hi => ?_
    rw [if_pos (List.mem_range.1 hi), view_home hr (by omega) (List.mem_range.1 hi)]
  · have hr' : rrtB kd pl n = false := by simpa using hr
    refine (swh_no ⟨v, Fs, ps, hB⟩ (h.cod.below hb) h.len (by omega) hr').mono ?_
    rintro e w1 ⟨rfl, hb1⟩
    exact ⟨none, 0, 0, [], rfl, Nat.le_refl _, RdL.nil, .inl ⟨rfl, fun d _ => view_bad hr' _ d⟩, hb1⟩
end
end
section
def namesU (ps : List LPt) (i : Nat) : List RfI := (ps.take i).map LPt.r
theorem namesU_next {ps : List LPt} {i : Nat} {p : LPt} (h : ps[i]? = some p) : namesU ps (i + 1) = namesU ps i ++ [p.r] := by
  unfold namesU
  rw [List.take_add_one, h, Option.toList_some, List.map_append]; rfl
def namesL (ps : List LPt) (r : RfI) : List RfI := ps.map LPt.r ++ [r]
set_option maxRecDepth 100000 in
set_option maxHeartbeats 8000000 in
theorem named_any {w : World} {S1 : Nat → Prop} {A1 : Option Addr} {L1 c1 kd gn : Nat} {pl : Int} {ps : List LPt} (R : RdL LPtR 4 S1 w A1 L1 ps) (hL : L1 ≤ 12) :
    Calls Tryz.prog 15 #[.slice A1 L1 c1, .agg #[.int .u8 (kd : Int), .int .i64 pl, .int .u64 (gn : Int)]] w fun e w' => ∃ A c, e = .returned (.slice A (L1 + 1) c) ∧ L1 + 1 ≤ c ∧ RdL RfIR 3 (fun j => w.heap.size ≤ j) w' A (L1 + 1) (namesL ps ⟨(kd : Int), pl, (gn : Int)⟩) ∧ Below w.heap.size w w' := by
  have b0 := BoxAt.new w #[.int .u8 (kd : Int), .int .i64 pl, .int .u64 (gn : Int)] 38
  have hb0 : Below w.heap.size w (w.alloc (.cells #[.int .u8 (kd : Int), .int .i64 pl, .int .u64 (gn : Int)] 38)) := (Below.refl _ _).alloc (Nat.le_refl _) _
  obtain ⟨W, hW⟩ : ∃ W, w.alloc (.cells #[.int .u8 (kd : Int), .int .i64 pl, .int .u64 (gn : Int)] 38) = W := ⟨_, rfl⟩
  have hsW : W.heap.size = w.heap.size + 1 := by rw [← hW, World.size_alloc]
  rw [hW] at b0 hb0
  obtain ⟨p0, hp0⟩ : ∃ p0, w.heap.size = p0 := ⟨_, rfl⟩
  rw [hp0] at b0 hsW
  have HRL := Lib.hid R.1
  have HR := Lib.hid (R.below LPtR.stable hb0)
  have HX := Lib.hid b0
  have HB0 := Lib.hid hb0
  have HSW := Lib.hid hsW
  have q1 : (0 : Int) ≤ (L1 : Int) := by omega
  have q2 : (L1 : Int) ≤ 12 := by omega
  clear R b0 hb0 hsW
  go_enter Tryz.func15, Tryz.ntmps15
  go_wp2_with fail
  clear hW
  go_loopw [5, 6] (fun vs vi wr => ∃ (i : Nat) (A : Option Addr) (c : Nat), i ≤ L1 ∧ vi = .int .i64 i ∧ vs = .slice A i c ∧ Hid (OwnL RfIR 38 3 W.heap.size NoB wr (.slice A i c) i (namesU ps i)) ∧ Hid (Below W.heap.size W wr)) (fun _ vi _ => L1 - (intOf vi).toNat)
  case atStart => exact ⟨0, none, 0, Nat.zero_le _, rfl, rfl, Lib.hid (by exact OwnL.nil_), Lib.hid (Below.refl _ _)⟩
  case round =>
    obtain ⟨i, AO, cO, hi, rfl, rfl, HO, HB⟩ := hrel
    have i0 : (0 : Int) ≤ (i : Int) := Int.natCast_nonneg _
    have hszr := HB.out.size
    by_cases hlt : i < L1
    · have i1 : (i : Int) < (L1 : Int) := by omega
      obtain ⟨b, o, p, A3, n3, c3, rfl, hpi, hbl, _, ⟨x0, x1, x2, _⟩, _, _, _, _⟩ := lpt_at (HR.out.below LPtR.stable HB.out) hlt
      have HN := Lib.hid (namesU_next hpi)
      clear hpi
      go_wp2_with (at_builtin; go_must (refine wpList_push1 RfIR.stable RfIR.one sl_rfi (by rfl) (by rfl) (base := W.heap.size) (S := NoB) (cs := #[.int .u8 (p.kd : Int), .int .i64 p.pl, .int .u64 (p.gn : Int)]) (y := p.r) (by rfl) (by rfl) HO.out (by rfl) (by rfl) (by unfold maxLen; omega) (by omega) hszr ?_); intro A8 c8 ug hc8 own9 hlt8 hb8 hat8; rw [← HN.out] at own9; have HO9 := Lib.hid own9; have HB9 := Lib.hid (HB.out.trans hb8); clear own9 hb8 hlt8 hat8)
      exact ⟨⟨i + 1, A8, c8, hlt, by go_num, rfl, HO9, HB9⟩, by simp [intOf]; omega⟩
    · have i1 : ¬ (i : Int) < (L1 : Int) := by omega
      obtain rfl : i = L1 := by omega
      have hbx := HX.out.below HB.out
      have g0 := hbx.cell 0
      have g1 := hbx.cell 1
      have g2 := hbx.cell 2
      have HN := Lib.hid (show namesU ps i ++ [⟨(kd : Int), pl, (gn : Int)⟩] = namesL ps ⟨(kd : Int), pl, (gn : Int)⟩ by unfold namesU namesL; rw [List.take_of_length_le (by rw [HRL.out]; exact Nat.le_refl _)])
      clear hbx
      go_wp2_with (at_builtin; go_must (refine wpList_push1 RfIR.stable RfIR.one sl_rfi (by rfl) (by rfl) (base := W.heap.size) (S := NoB) (cs := #[.int .u8 (kd : Int), .int .i64 pl, .int .u64 (gn : Int)]) (y := ⟨(kd : Int), pl, (gn : Int)⟩) (by rfl) (by rfl) HO.out (by rfl) (by rfl) (by unfold maxLen; omega) (by omega) hszr ?_); intro A8 c8 ug hc8 own9 hlt8 hb8 hat8; rw [HN.out] at own9; have HO9 := Lib.hid own9; have HB9 := Lib.hid (HB.out.trans hb8); clear own9 hb8 hlt8 hat8)
      obtain ⟨A', c', e, hcc, hr⟩ := HO9.out.rd (S' := fun j => w.heap.size ≤ j) (fun j hj => by have := HSW.out; omega) (fun cs x hx => hx)
      injection e with e1 _ e2
      subst e1; subst e2
      have HR9 := Lib.hid hr
      have HC9 := Lib.hid hcc
      have HBW := Lib.hid (HB0.out.trans (HB9.out.mono HB0.out.size))
      clear hr hcc
      go_wp2_with fail
      go_ret
      exact ⟨_, _, rfl, HC9.out, by first | exact HR9.out | (rw [← hp0]; exact HR9.out), by first | exact HBW.out | (rw [← hp0]; exact HBW.out)⟩
end
section
section
variable {U : Nat → Prop} {w : World} {a n : Nat} {v : Value} {Fs : Nat → Nat → Prop} {ps : List Nat} {sts : List DSt}
set_option maxRecDepth 100000 in
set_option maxHeartbeats 8000000 in
theorem meant_cnil (h : Hid (ArrB U w a v Fs ps n sts)) (h1 : 1 ≤ sts.length) (h2 : sts.length ≤ 255) (r : RfI) :
    Calls Tryz.prog 86 #[.pointer (some ⟨a, 0, none⟩), .pointer none, .agg r.C] w fun e w' => e = .returned (.tuple #[.pointer none, .int .i64 1]) ∧ Below w.heap.size w w' := by
  have hb0 : Below w.heap.size w (w.alloc (.cells #[.int .u8 r.kind, .int .i64 r.place, .int .u64 r.gen] 38)) := (Below.refl _ _).alloc (Nat.le_refl _) _
  have hN := an_any (Lib.hid (h.out.below hb0)) (by omega)
  have HB0 := Lib.hid hb0
  have HN := Lib.hid hN
  obtain ⟨N, hNe⟩ : ∃ N, sts.length = N := ⟨_, rfl⟩
  rw [hNe] at HN h1 h2
  have e0 : ((N : Int) == 0) = false := by simp; omega
  clear hb0 hN h hNe
  unfold RfI.C
  go_enter Tryz.func86, Tryz.ntmps86
  go_wp2_with fail
  refine HN.out.mono ?_
  clear HN
  rintro e w1 ⟨rfl, hb1⟩
  have HB1 := Lib.hid (HB0.out.trans (hb1.mono HB0.out.size))
  clear hb1
  go_wp2_with fail
  refine (cn_nil (w := w1)).mono ?_
  rintro e w2 ⟨rfl, hw2⟩
  rw [hw2]
  clear hw2
  go_wp2_with fail
  go_ret2
  exact ⟨rfl, HB1.out⟩
set_option maxRecDepth 100000 in
set_option maxHeartbeats 8000000 in
theorem swh_cnil (h : Hid (ArrB U w a v Fs ps n sts)) (h1 : 1 ≤ sts.length) (h2 : sts.length ≤ 255) (r : RfI) :
    Calls Tryz.prog 64 #[.pointer (some ⟨a, 0, none⟩), .pointer none, .agg r.C] w fun e w' => e = .returned (.slice none 0 0) ∧ Below w.heap.size w w' := by
  have hb0 : Below w.heap.size w (w.alloc (.cells #[.int .u8 r.kind, .int .i64 r.place, .int .u64 r.gen] 38)) := (Below.refl _ _).alloc (Nat.le_refl _) _
  have HM := Lib.hid (meant_cnil (Lib.hid (h.out.below hb0)) h1 h2 r)
  have HB0 := Lib.hid hb0
  clear hb0 h
  unfold RfI.C at HM ⊢
  go_enter Tryz.func64, Tryz.ntmps64
  go_wp2_with fail
  refine HM.out.mono ?_
  clear HM
  rintro e w1 ⟨rfl, hb1⟩
  have HB1 := Lib.hid (HB0.out.trans (hb1.mono HB0.out.size))
  clear hb1
  go_wp2_with fail
  go_ret
  exact ⟨rfl, HB1.out⟩
end
section
variable {X : Nat → Prop} {w0 w : World} {a cb bf k m n : Nat} {sts : List DSt}
theorem cnt_nil (w : World) : CNt w (.pointer none) 0 := fun W _ => (cn_nil (w := W)).mono fun _ _ ⟨h1, h2⟩ => ⟨h1, by rw [h2]; exact Below.refl _ _⟩
theorem MX.whn (h : MX X w0 w a cb bf k m n sts) (r : RfI) (g : Nat → Bool) : WhC w (.pointer (some ⟨a, 0, none⟩)) (.pointer none) r g 0 := by
  intro W hb
  have hp := h.pos
  have hl := h.len
  obtain ⟨U, C, hA, hC, _⟩ := h.mid.ex
  obtain ⟨v, Fs, ps, hB⟩ := hA.below hb
  refine (swh_cnil (Lib.hid hB) (by omega) (by omega) r).mono ?_
  rintro e w1 ⟨rfl, hb1⟩
  exact ⟨none, 0, 0, [], rfl, Nat.le_refl _, RdL.nil, .inl ⟨rfl, fun d hd => by omega⟩, hb1⟩
end
end
section
def g1 (d : Nat) : Bool := decide (d ≠ 1)
def g2 (d : Nat) : Bool := decide (d ≠ 1) && decide (d ≠ 2)
theorem marked_rd {w : World} {t : TypeId} {m : Nat × Nat} {xs : List Nat} (hx : Byt xs) (hn : 0 < xs.length) : RdL ByR 1 (fun j => w.heap.size ≤ j) (w.alloc (.cells (xs.map fun b : Nat => Value.int .u8 (b : Int)).toArray t m)) (some ⟨w.heap.size, 0, none⟩) xs.length xs := by
  refine ⟨rfl, fun _ => ⟨w.heap.size, 0, rfl, Nat.le_refl _, by rw [World.size_alloc]; omega, fun i x hi => ⟨[.int .u8 (x : Int)], rfl, ⟨hx x (List.mem_of_getElem? hi), rfl⟩, fun j v hj => ?_⟩⟩⟩
  rcases j with _ | j
  · simp at hj; subst hj
    have hb : (w.alloc (.cells (xs.map fun b : Nat => Value.int .u8 (b : Int)).toArray t m)).heap[w.heap.size]? = some (.cells (xs.map fun b : Nat => Value.int .u8 (b : Int)).toArray t m) := by
      show (w.heap.push _)[w.heap.size]? = _
      simp
    unfold World.cell?
    dsimp only
    rw [hb]
    simp [hi]
  · simp at hj
end
section
def rX : Ref := ⟨3, 1, 4⟩
theorem rX_ok : rX.ok 3 := ⟨by decide, by decide, by decide⟩
def xX : List Nat := [120]
theorem xX_byt : Byt xX := by intro y hy; simp [xX] at hy; omega
def s1X : List DSt := (newS 3 3).mapIdx (putQ 3 2 3 rX xX)
theorem hX1 : Hds (fun _ => true) 2 3 rX xX s1X := by
  refine (Hds.new rX_ok xX_byt (fun st hst hd => ?_)).congr fun d hd => ?_
  · obtain ⟨d, h⟩ := List.getElem?_of_mem hst
    obtain ⟨rfl, _⟩ := newS_at h
    cases hd
  · have hl : d < 3 := by have : s1X.length = 3 := by decide +kernel
                          have hd : d < s1X.length := hd
                          omega
    have : ∀ d, d < 3 → deadL (newS 3 3) d = false := by decide +kernel
    rw [this d hl]; rfl
def rfX : RfI := ⟨3, 1, 4⟩
end
section
set_option maxRecDepth 100000 in
set_option maxHeartbeats 4000000 in
theorem ints7_same {w : World} {A1 A2 : Option Addr} {n c1 c2 : Nat} {S1 S2 : Nat → Prop} {xs : List Int} (R1 : RdL IntR 1 S1 w A1 n xs) (R2 : RdL IntR 1 S2 w A2 n xs) (hn : n ≤ 1000000) :
    Calls Tryz.prog 20 #[.slice A1 n c1, .slice A2 n c2] w fun e w' => e = .returned (.bool true) ∧ Below w.heap.size w w' := by
  have H1 := Lib.hid R1
  have H2 := Lib.hid R2
  have en : ((n : Int) != (n : Int)) = false := by simp
  clear R1 R2
  go_enter Tryz.func20, Tryz.ntmps20
  go_wp2_with fail
  clear en
  go_loopw [5] (fun vi wr => ∃ i : Nat, i ≤ n ∧ vi = .int .i64 i ∧ Hid (Below w.heap.size w wr)) (fun vi _ => n - (intOf vi).toNat)
  case atStart => exact ⟨0, Nat.zero_le _, rfl, Lib.hid (Below.refl _ _)⟩
  case round =>
    obtain ⟨i, hi, rfl, HB⟩ := hrel
    have p0 : (0 : Int) ≤ (i : Int) := Int.natCast_nonneg _
    by_cases hlt : i < n
    · have p1 : (i : Int) < (n : Int) := by omega
      obtain ⟨b1, o1, rfl, _, hb1⟩ := (H1.out.below IntR.stable HB.out).addr hlt
      obtain ⟨b2, o2, rfl, _, hb2⟩ := (H2.out.below IntR.stable HB.out).addr hlt
      obtain ⟨x, hx, v1⟩ := int_at1 (H1.out.below IntR.stable HB.out) hlt
      obtain ⟨y, hy, v2⟩ := int_at1 (H2.out.below IntR.stable HB.out) hlt
      obtain rfl : x = y := Option.some.inj (hx.symm.trans hy)
      clear hx hy
      go_wp2_with fail
      refine wp_region_later (by kernel_rfl) (by kernel_rfl) ?_
      repeat (go_big_quiet_step (fail))
      refine wpQuiet_nil ?_
      rintro _ ⟨z, rfl⟩
      go_wp2_with fail
      exact ⟨⟨i + 1, by omega, by go_num, Lib.hid (HB.out.trans (z.ok.mono HB.out.size))⟩, by simp [intOf]; omega⟩
    · have p1 : ¬ (i : Int) < (n : Int) := by omega
      go_wp2_with fail
      go_ret
      exact ⟨rfl, HB.out⟩
end
section
def s5X : List DSt := failA 3 s1X 2
def g5X : Nat → Bool := butB (fun _ => true) 2
theorem hX5f : Hds g5X 2 3 rX xX s5X := hX1.fail rX_ok 2
theorem m0X : missL (fun _ => true) 3 = [] := by decide
theorem m1X : missL g5X 3 = [2] := by decide
theorem z1X : missZ g5X 3 = [2] := by unfold missZ; rw [m1X]; rfl
theorem x1X : maxM (fun _ => g5X) 3 1 = 1 := by unfold maxM maxM misN; rw [m1X]; rfl
set_option maxRecDepth 100000 in
set_option maxHeartbeats 32000000 in
theorem counts_any {w : World} : Calls Tryz.prog 13 #[] w fun e w' => e = .returned (.bool true) ∧ Below w.heap.size w w' := by
  have hmd := made_m (w0 := w) (w := w) (k := 2) (m := 1) (n := 3) (Below.refl _ _) (by omega) (by omega) (by omega) (by omega) (by omega)
  have e0 : geoC ((2 : Nat) : Int) ((1 : Nat) : Int) ((3 : Nat) : Int) = #[.int .i64 2, .int .i64 1, .int .i64 3] := rfl
  rw [e0] at hmd
  clear e0
  go_enter Tryz.func13, Tryz.ntmps13
  go_wp2_with fail
  refine hmd.mono ?_
  clear hmd
  rintro e w1 ⟨a, cb, bf, rfl, hM, hb1⟩
  have HM1 := Lib.hid (show MX NoB w w1 a cb bf 2 1 3 (newS 3 3) from hM.sub fun j hj => hj.elim)
  clear hM hb1
  -- the name
  have bR := BoxAt.new w1 #[.int .u8 3, .int .i64 1, .int .u64 4] 38
  have hbR : Below w1.heap.size w1 (w1.alloc (.cells #[.int .u8 3, .int .i64 1, .int .u64 4] 38)) := (Below.refl _ _).alloc (Nat.le_refl _) _
  have hX0 := (HM1.out.below hbR)
  obtain ⟨wA, hwA⟩ : ∃ wA, w1.alloc (.cells #[.int .u8 3, .int .i64 1, .int .u64 4] 38) = wA := ⟨_, rfl⟩
  obtain ⟨q, hq⟩ : ∃ q, w1.heap.size = q := ⟨_, rfl⟩
  have hqA : q < wA.heap.size := by rw [← hwA, ← hq, World.size_alloc]; omega
  rw [hwA] at bR hX0
  rw [hq] at bR hX0
  have cA : wA.cell? ⟨q, 0, none⟩ = some (.int .u8 3) ∧ wA.cell? ⟨q, 1, none⟩ = some (.int .i64 1) ∧ wA.cell? ⟨q, 2, none⟩ = some (.int .u64 4) := ⟨bR.cell 0, bR.cell 1, bR.cell 2⟩
  have hkc := Lib.run_convert_bytes_const (P := Tryz.prog) wA 68 5 #[.int .u8 120] 1 1 (by kernel_rfl) (by kernel_rfl)
  have hr2 : RdL ByR 1 (fun j => wA.heap.size ≤ j) (wA.alloc (.cells #[.int .u8 120] 5 (1, 2))) (some ⟨wA.heap.size, 0, none⟩) 1 xX := marked_rd (w := wA) (t := 5) (m := (1, 2)) xX_byt (by decide)
  have hb2 : Below wA.heap.size wA (wA.alloc (.cells #[.int .u8 120] 5 (1, 2))) := (Below.refl _ _).alloc (Nat.le_refl _) _
  have hkc2 : (convert 68 68 (.slice (some ⟨wA.heap.size, 0, none⟩) 1 1)).run Tryz.prog (wA.alloc (.cells #[.int .u8 120] 5)) = .ok (.slice (some ⟨wA.heap.size, 0, none⟩) 1 1) (wA.alloc (.cells #[.int .u8 120] 5 (1, 2))) := hkc
  obtain ⟨w2, hw2⟩ : ∃ w2, wA.alloc (.cells #[.int .u8 120] 5 (1, 2)) = w2 := ⟨_, rfl⟩
  rw [hw2] at hr2 hb2 hkc2
  have HM2 := Lib.hid ((hX0.below' hb2).sub (Y := fun j => j = q) fun j hj => .inr (by omega))
  have bR2 := bR.below hb2
  have hpu := put_m HM2.out (r := rX) rX_ok (Lib.hid (by decide)) cache_new (c := 1) hr2 (Nat.le_refl _) (by decide)
  have eR : refC rX = #[.int .u8 3, .int .i64 1, .int .u64 4] := rfl
  rw [eR, live_new] at hpu
  have HPU := Lib.hid hpu
  clear hkc hr2 hb2 HM1 hbR bR hw2 hpu hX0 hqA
  have c0 : w2.cell? ⟨q, 0, none⟩ = some (.int .u8 3) ∧ w2.cell? ⟨q, 1, none⟩ = some (.int .i64 1) ∧ w2.cell? ⟨q, 2, none⟩ = some (.int .u64 4) := ⟨bR2.cell 0, bR2.cell 1, bR2.cell 2⟩
  go_wp2_with fail
  refine HPU.out.mono ?_
  clear HPU c0 cA hkc2 hwA hq HM2
  rintro e w3 ⟨rfl, hM3, hK3⟩
  have HM3 := Lib.hid (show MX (fun j => j = q) w w3 a cb bf 2 1 3 s1X from hM3)
  have bR3 := hK3.box bR2 rfl
  clear hM3 hK3 bR2
  have hmi := missing_any HM3.out.cnt (HM3.out.whc (rf := rfX) rX_ok (Lib.hid (by decide)) xX_byt (by decide) hX1 rfl rfl) (by omega)
  rw [m0X] at hmi
  have HMI := Lib.hid hmi
  have c3 : w3.cell? ⟨q, 0, none⟩ = some (.int .u8 3) ∧ w3.cell? ⟨q, 1, none⟩ = some (.int .i64 1) ∧ w3.cell? ⟨q, 2, none⟩ = some (.int .u64 4) := ⟨bR3.cell 0, bR3.cell 1, bR3.cell 2⟩
  clear hmi
  go_wp2_with fail
  refine HMI.out.mono ?_
  clear HMI c3
  rintro e w4 ⟨rfl, hb4⟩
  have HM4 := Lib.hid (HM3.out.below' hb4)
  have bR4 := bR3.below hb4
  have hf := fail_m HM4.out 2
  rw [if_pos (show (0 : Int) ≤ 2 ∧ (2 : Int) < (s1X.length : Nat) by decide +kernel)] at hf
  have HF := Lib.hid hf
  clear hf hb4 bR3 HM3
  go_wp2_with fail
  refine HF.out.mono ?_
  clear HF HM4
  rintro e w5 ⟨rfl, hM5, hK5⟩
  have HM5 := Lib.hid (show MX (fun j => j = q) w w5 a cb bf 2 1 3 s5X from hM5)
  have HR5 := Lib.hid (hK5.box bR4 rfl)
  clear hM5 hK5 bR4
  have c5 : w5.cell? ⟨q, 0, none⟩ = some (.int .u8 3) ∧ w5.cell? ⟨q, 1, none⟩ = some (.int .i64 1) ∧ w5.cell? ⟨q, 2, none⟩ = some (.int .u64 4) := ⟨HR5.out.cell 0, HR5.out.cell 1, HR5.out.cell 2⟩
  have hb6 : Below w5.heap.size w5 (w5.alloc (.cells #[.int .u8 3, .int .i64 1, .int .u64 4] 38)) := (Below.refl _ _).alloc (Nat.le_refl _) _
  have hr6 : RdL RfIR 3 (fun _ => True) (w5.alloc (.cells #[.int .u8 3, .int .i64 1, .int .u64 4] 38)) (some ⟨w5.heap.size, 0, none⟩) 1 [rfX] := RdL.one RfIR.stable (S := NoB) (cs := #[.int .u8 3, .int .i64 1, .int .u64 4]) (y := rfX) rfl rfl
  obtain ⟨w6, hw6⟩ : ∃ w6, w5.alloc (.cells #[.int .u8 3, .int .i64 1, .int .u64 4] 38) = w6 := ⟨_, rfl⟩
  obtain ⟨q6, hq6⟩ : ∃ q6, w5.heap.size = q6 := ⟨_, rfl⟩
  rw [hw6] at hb6 hr6
  rw [hq6] at hr6
  have hM6 := HM5.out.below' hb6
  have HBX := Lib.hid (HR5.out.below hb6)
  have HCN := Lib.hid hM6.cnt
  have HCM := Lib.hid hM6.cmt
  have HWH := Lib.hid (hM6.whc (rf := rfX) rX_ok (Lib.hid (by decide)) xX_byt (by decide) hX5f rfl rfl)
  have HWN := Lib.hid (hM6.whn rfX (fun _ => true))
  have HBW := Lib.hid hM6.bel
  have HR6 := Lib.hid hr6
  have c6 : w6.cell? ⟨q, 0, none⟩ = some (.int .u8 3) ∧ w6.cell? ⟨q, 1, none⟩ = some (.int .i64 1) ∧ w6.cell? ⟨q, 2, none⟩ = some (.int .u64 4) := ⟨HBX.out.cell 0, HBX.out.cell 1, HBX.out.cell 2⟩
  have hmi := missing_any HCN.out HWH.out (by omega)
  rw [m1X] at hmi
  have HMI := Lib.hid hmi
  clear hmi hM6 hb6 hr6
  go_wp2_with fail
  clear c5 hw6 hq6
  refine HMI.out.mono ?_
  clear HMI c6
  rintro e w7 ⟨rfl, hb7⟩
  have HB7 := Lib.hid hb7
  have hbx7 := HBX.out.below hb7
  have c7 : w7.cell? ⟨q, 0, none⟩ = some (.int .u8 3) ∧ w7.cell? ⟨q, 1, none⟩ = some (.int .i64 1) ∧ w7.cell? ⟨q, 2, none⟩ = some (.int .u64 4) := ⟨hbx7.cell 0, hbx7.cell 1, hbx7.cell 2⟩
  have hsp := spots_any (HCN.out.below hb7) (HWH.out.below hb7) (by omega)
  rw [m1X, z1X] at hsp
  have HSP := Lib.hid hsp
  clear hsp hb7 hbx7
  go_wp2_with fail
  refine HSP.out.mono ?_
  clear HSP c7
  rintro e w8 ⟨A8, c8, rfl, hc8, hr8, hb8⟩
  have HB8 := Lib.hid (HB7.out.trans (hb8.mono HB7.out.size))
  have hb9 : Below w8.heap.size w8 (w8.alloc (.cells #[.int .i64 2] 3)) := (Below.refl _ _).alloc (Nat.le_refl _) _
  have hr9 : RdL IntR 1 (fun _ => True) (w8.alloc (.cells #[.int .i64 2] 3)) (some ⟨w8.heap.size, 0, none⟩) 1 [2] := RdL.one IntR.stable (S := NoB) (cs := #[.int .i64 2]) (y := 2) rfl rfl
  have HIN := Lib.hid (ints7_same (c1 := c8) (c2 := 1) (hr8.below IntR.stable hb9) hr9 (show ([2] : List Nat).length ≤ 1000000 by decide))
  have HB9 := Lib.hid (HB8.out.trans (hb9.mono HB8.out.size))
  clear hc8 hr8 hb8 hb9 hr9
  go_wp2_with fail
  refine HIN.out.mono ?_
  clear HIN
  rintro e w10 ⟨rfl, hb10⟩
  have HB10 := Lib.hid (HB9.out.trans (hb10.mono HB9.out.size))
  clear hb10
  have hWs : Hid (∀ (i : Nat) (r : RfI), [rfX][i]? = some r → WhC w10 (.pointer (some ⟨a, 0, none⟩)) (.pointer (some ⟨cb, 0, none⟩)) r ((fun _ => g5X) i) 3) := Lib.hid fun i r h => by
    match i, h with
    | 0, h => obtain rfl : rfX = r := Option.some.inj h
              exact HWH.out.below HB10.out
  have hspr := lspare_any (c := 1) (HR6.out.below RfIR.stable HB10.out) (by omega) (HCN.out.below HB10.out) (by omega) hWs (HCM.out.below HB10.out) (by omega)
  rw [x1X] at hspr
  have HSR := Lib.hid (show Calls Tryz.prog _ _ w10 (fun e w' => e = .returned (.int .i64 0) ∧ Below w10.heap.size w10 w') from hspr)
  clear hspr hWs
  go_wp2_with fail
  refine HSR.out.mono ?_
  clear HSR
  rintro e w11 ⟨rfl, hb11⟩
  have HB11 := Lib.hid (HB10.out.trans (hb11.mono HB10.out.size))
  clear hb11
  have hWs : Hid (∀ (i : Nat) (r : RfI), [rfX][i]? = some r → WhC w11 (.pointer (some ⟨a, 0, none⟩)) (.pointer (some ⟨cb, 0, none⟩)) r ((fun _ => g5X) i) 3) := Lib.hid fun i r h => by
    match i, h with
    | 0, h => obtain rfl : rfX = r := Option.some.inj h
              exact HWH.out.below HB11.out
  have hwi := lwithin_any (c := 1) (HR6.out.below RfIR.stable HB11.out) (by omega) (HCN.out.below HB11.out) (by omega) hWs (HCM.out.below HB11.out)
  rw [x1X, show decide (1 ≤ 1) = true from rfl] at hwi
  have HWI := Lib.hid hwi
  clear hwi hWs
  go_wp2_with fail
  refine HWI.out.mono ?_
  clear HWI
  rintro e w12 ⟨rfl, hb12⟩
  have HB12 := Lib.hid (HB11.out.trans (hb12.mono HB11.out.size))
  clear hb12
  have hbx12 := HBX.out.below HB12.out
  have c12 : w12.cell? ⟨q, 0, none⟩ = some (.int .u8 3) ∧ w12.cell? ⟨q, 1, none⟩ = some (.int .i64 1) ∧ w12.cell? ⟨q, 2, none⟩ = some (.int .u64 4) := ⟨hbx12.cell 0, hbx12.cell 1, hbx12.cell 2⟩
  have hmn := missing_any (cnt_nil w12) (HWN.out.below HB12.out) (by omega)
  rw [show missL (fun _ => true) 0 = [] by rfl] at hmn
  have HMN := Lib.hid hmn
  clear hmn hbx12
  go_wp2_with fail
  refine HMN.out.mono ?_
  clear HMN c12
  rintro e w13 ⟨rfl, hb13⟩
  have HB13 := Lib.hid (HBW.out.trans ((HB12.out.trans (hb13.mono HB12.out.size)).mono HBW.out.size))
  clear hb13
  go_wp2_with fail
  go_ret
  exact ⟨rfl, HB13.out⟩
end
section
end
section
section
variable {X : Nat → Prop} {w0 w : World} {a cb bf k m n : Nat} {sts sts1 : List DSt} {ps : List Pt} {gs : Nat → Nat → Bool} {s i L : Nat} {S : Nat → Prop} {A : Option Addr} {c : Nat} {xs : List RfI} {cn er : Int}
end
/-! ### ScrubLost: plain -/
end
section
theorem run_max_s (ts : Array TypeId) (t : TypeId) (x y : Int) (w : World) : (Builtin.max_ ts t #[.int .i64 x, .int .i64 y]).run Tryz.prog w = .ok (.int .i64 (max x y)) w := run_max_l ts t x y w
theorem run_min_s (ts : Array TypeId) (t : TypeId) (x y : Int) (w : World) : (Builtin.min_ ts t #[.int .i64 x, .int .i64 y]).run Tryz.prog w = .ok (.int .i64 (min x y)) w := by
  rw [run_min_int2, show (if y < x then y else x) = min x y by omega]
attribute [local go_sem ↓] run_max_s run_min_s
end
section
attribute [local go_sem ↓] run_max_s run_min_s
section
variable {X : Nat → Prop} {w0 w w' : World} {a cb bf k m n : Nat} {ps : List Pt} {gs gs' : Nat → Nat → Bool}
/-- Between two rots. -/
def LsI (X : Nat → Prop) (w0 w : World) (a cb bf k m n : Nat) (ps : List Pt) (gs : Nat → Nat → Bool) : Prop := ∃ sts, MX X w0 w a cb bf k m n sts ∧ Qt n (k + m) sts ∧ Vws k (k + m) ps gs sts ∧ RtV k (k + m) ps gs sts
theorem LsI.congr (h : LsI X w0 w a cb bf k m n ps gs) (hg : ∀ p, p < ps.length → ∀ x, gs' p x = gs p x) : LsI X w0 w a cb bf k m n ps gs' := by
  obtain ⟨sts, h1, h2, h3, h4⟩ := h
  exact ⟨sts, h1, h2, fun i p hi => (h3 i p hi).congr fun x _ => hg i (List.getElem?_eq_some_iff.1 hi).1 x, fun i p d st hi hd => by rw [hg i (List.getElem?_eq_some_iff.1 hi).1 d]; exact h4 i p d st hi hd⟩
theorem LsI.rot (h : LsI X w0 w a cb bf k m n ps gs) (hp : PtOk k n ps) {d z : Nat} (hd : d < k + m) :
    Calls Tryz.prog 32 #[.pointer (some ⟨a, 0, none⟩), .int .i64 (d : Int), .int .i64 (z : Int), .int .i64 16, .int .u32 255] w fun e w' => (∃ E : Int, e = .returned (.int .i64 E)) ∧ LsI X w0 w' a cb bf k m n ps (rotG gs d z) ∧ KpX X w w' := by
  obtain ⟨sts, h1, h2, h3, h4⟩ := h
  have hpo := h1.pos
  obtain ⟨r1, r2, r3⟩ := rot_step (d := d) (z := z) h2 h3 h4 hp (by omega) (by omega) (by omega) (by omega) hd
  refine (rot_m h1 (d : Int) (z : Int) 16 255).mono ?_
  rintro e w' ⟨he, hM, hK⟩
  exact ⟨⟨_, he⟩, ⟨_, hM, r1, r2, r3⟩, hK⟩
end
end
section
end
section
end
section
end
section
attribute [local go_sem ↓] run_max_s run_min_s
section
variable {X : Nat → Prop} {w0 w : World} {a cb bf k m n : Nat} {sts : List DSt}
theorem fail_e (h : MX X w0 w a cb bf k m n sts) (d : Int) : Calls Tryz.prog 18 #[.pointer (some ⟨a, 0, none⟩), .int .i64 d] w fun e w' => (∃ E : Int, e = .returned (.int .i64 E)) ∧ MX X w0 w' a cb bf k m n (failA n sts d) ∧ KpX X w w' := (fail_m h d).mono fun _ _ ⟨h1, h2, h3⟩ => ⟨⟨_, h1⟩, h2, h3⟩
theorem repl_e (h : MX X w0 w a cb bf k m n sts) (d : Int) : Calls Tryz.prog 49 #[.pointer (some ⟨a, 0, none⟩), .int .i64 d] w fun e w' => (∃ E : Int, e = .returned (.int .i64 E)) ∧ MX X w0 w' a cb bf k m n (replA n sts d) ∧ KpX X w w' := (repl_m h d).mono fun _ _ ⟨h1, h2, h3⟩ => ⟨⟨_, h1⟩, h2, h3⟩
end
end
section
/-- Rot as the law's faults are. -/
def rot1 (Y : List Int) : List Int := rotTo Y 20 ((1 : Nat) : Int) 4
/-- What a drive has of the shards X z that were put there last (none: nothing was). -/
structure Lie (n : Nat) (X : Nat → Option Shd) (st : DSt) : Prop where
  ok : st.ok n
  c : ∀ (z : Nat) i, z < n → lastIx st.cache (z : Int) = some i → ∃ x, X z = some x ∧ st.seen z = wrI x
  s : ∀ z, z < n → ∃ Y, (Y = rep 0 ∨ ∃ x, X z = some x ∧ Y = wrI x) ∧ ((st.rotten[z]? = some false ∧ st.stored[z]? = some Y) ∨ (st.rotten[z]? = some true ∧ st.stored[z]? = some (rot1 Y)))
section
variable {n : Nat} {X : Nat → Option Shd} {st : DSt}
theorem seen_st {z : Nat} (h : lastIx st.cache (z : Int) = none) : st.seen z = (st.stored[z]?).getD [] := by unfold DSt.seen; rw [h]
theorem Lie.seen (h : Lie n X st) {z : Nat} (hz : z < n) : ∃ Y, (Y = rep 0 ∨ ∃ x, X z = some x ∧ Y = wrI x) ∧ (st.seen z = Y ∨ (lastIx st.cache (z : Int) = none ∧ st.rotten[z]? = some true ∧ st.seen z = rot1 Y)) := by
  cases hl : lastIx st.cache (z : Int) with
  | some i =>
    obtain ⟨x, hx, hs⟩ := h.c z i hz hl
    exact ⟨_, .inr ⟨x, hx, rfl⟩, .inl hs⟩
  | none =>
    obtain ⟨Y, hY, h1 | h1⟩ := h.s z hz
    · exact ⟨Y, hY, .inl (by rw [seen_st hl, h1.2]; rfl)⟩
    · exact ⟨Y, hY, .inr ⟨rfl, h1.1, by rw [seen_st hl, h1.2]; rfl⟩⟩
theorem new_cells {z : Nat} (hz : z < n) : (DSt.new n).rotten[z]? = some false ∧ (DSt.new n).stored[z]? = some (rep 0) := by
  unfold DSt.new
  simp [hz, rep]
theorem Lie.new (n : Nat) (X : Nat → Option Shd) : Lie n X (DSt.new n) := ⟨DSt.ok.new n, fun z i _ h => by simp [DSt.new, lastIx] at h, fun z hz => ⟨rep 0, .inl rfl, .inl (new_cells hz)⟩⟩
theorem Lie.gone (n : Nat) (X : Nat → Option Shd) : Lie n X (DSt.gone n) := by
  have h := Lie.new n X
  exact ⟨⟨h.ok.sl, h.ok.rl, h.ok.s64, h.ok.c64, h.ok.cat⟩, h.c, h.s⟩
theorem freshL_true : ∀ (c : List (Int × List Int)) (i : Nat) (xs : List Bool) (k : Nat), (∀ p ∈ c, 0 ≤ p.1) → k < xs.length →
    (freshL (fun _ => true) i c xs)[k]? = (match lastIx c k with | some _ => some false | none => xs[k]?)
  | [], i, xs, k, _, _ => by simp [freshL, lastIx]
  | p :: c, i, xs, k, hc, hk => by
    rw [freshL, freshL_true c (i + 1) _ k (fun q hq => hc q (List.mem_cons_of_mem _ hq)) (by simpa using hk), lastIx]
    cases h : lastIx c k with
    | some j => simp
    | none =>
      have h0 := hc p (by simp)
      simp only [↓reduceIte]
      by_cases hpk : p.1 = k
      · have : p.1.toNat = k := by omega
        simp [hpk, this, hk]
      · have : p.1.toNat ≠ k := by omega
        simp [hpk, List.getElem?_set_ne this]
theorem Lie.flush (h : Lie n X st) : Lie n X (flushG st) := by
  unfold flushG
  split
  · refine ⟨h.ok.settle _, fun z i _ h1 => by simp [DSt.settle, lastIx] at h1, fun z hz => ?_⟩
    have hc : ∀ p ∈ st.cache, 0 ≤ p.1 := fun p hp => (h.ok.cat p hp).1
    have e1 := putL_true st.cache 0 st.stored z hc (by rw [h.ok.sl]; exact hz)
    have e2 := freshL_true st.cache 0 st.rotten z hc (by rw [h.ok.rl]; exact hz)
    show ∃ Y, _ ∧ (((freshL (fun _ => true) 0 st.cache st.rotten)[z]? = _ ∧ (putL (fun _ => true) 0 st.cache st.stored)[z]? = _) ∨ ((freshL (fun _ => true) 0 st.cache st.rotten)[z]? = _ ∧ (putL (fun _ => true) 0 st.cache st.stored)[z]? = _))
    rw [e1, e2]
    cases hl : lastIx st.cache (z : Int) with
    | some i =>
      obtain ⟨x, hx, hs⟩ := h.c z i hz hl
      obtain ⟨s, hi⟩ := lastIx_some hl
      unfold DSt.seen at hs
      rw [hl] at hs
      dsimp only at hs
      rw [hi] at hs
      refine ⟨wrI x, .inr ⟨x, hx, rfl⟩, .inl ⟨rfl, ?_⟩⟩
      dsimp only
      rw [hi]
      exact congrArg some hs
    | none => exact h.s z hz
  · exact h
theorem Lie.rot (h : Lie n X st) {off mask : Int} (ho : off = 20) (hm : mask = 1) (z : Int) : Lie n X (rtDA n st z off mask) := by
  subst ho; subst hm
  unfold rtDA
  split
  · rename_i hr
    obtain ⟨⟨_, hz0, hz1⟩, _, hr2⟩ := hr
    obtain ⟨a, rfl⟩ : ∃ a : Nat, z = a := ⟨z.toNat, by omega⟩
    rw [Int.toNat_natCast] at hr2 ⊢
    have ha : a < n := by omega
    have hal : a < st.stored.length := by rw [h.ok.sl]; exact ha
    refine ⟨⟨?_, ?_, ?_, h.ok.c64, h.ok.cat⟩, fun z i hz hl => ?_, fun z hz => ?_⟩
    · show (st.stored.set a _).length = n; rw [List.length_set]; exact h.ok.sl
    · show (st.rotten.set a true).length = n; rw [List.length_set]; exact h.ok.rl
    · intro y hy
      have hy : y ∈ st.stored.set a (rotTo ((st.stored[a]?).getD []) 20 1 4) := hy
      rcases List.mem_or_eq_of_mem_set hy with hy | rfl
      · exact h.ok.s64 y hy
      · rw [List.getElem?_eq_getElem hal]
        rw [rotTo_len]
        exact h.ok.s64 _ (List.getElem_mem hal)
    · have hl' : lastIx st.cache (z : Int) = some i := hl
      obtain ⟨x, hx, hs⟩ := h.c z i hz hl'
      refine ⟨x, hx, ?_⟩
      rw [← hs]
      unfold DSt.seen
      rw [hl', hl]
      rfl
    · show ∃ Y, _ ∧ (((st.rotten.set a true)[z]? = _ ∧ (st.stored.set a (rotTo ((st.stored[a]?).getD []) 20 1 4))[z]? = _) ∨ ((st.rotten.set a true)[z]? = _ ∧ (st.stored.set a (rotTo ((st.stored[a]?).getD []) 20 1 4))[z]? = _))
      obtain ⟨Y, hY, h1⟩ := h.s z hz
      by_cases e : z = a
      · subst e
        rcases h1 with h1 | h1
        · refine ⟨Y, hY, .inr ⟨by rw [List.getElem?_set_self (by rw [h.ok.rl]; exact hz)], ?_⟩⟩
          rw [List.getElem?_set_self hal, h1.2]
          rfl
        · rw [hr2] at h1
          simp at h1
      · refine ⟨Y, hY, ?_⟩
        rw [List.getElem?_set_ne (fun h9 => e h9.symm), List.getElem?_set_ne (fun h9 => e h9.symm)]
        exact h1
  · exact h
end
/-! ### While stripes are put -/
structure Lay (n : Nat) (X : Nat → Option Shd) (st : DSt) : Prop where
  live : st.dead = false
  lie : Lie n X st
  z : ∀ z, z < n → st.rotten[z]? = some false ∧ st.stored[z]? = some (rep 0)
theorem Lay.new (n : Nat) (X : Nat → Option Shd) : Lay n X (DSt.new n) := ⟨rfl, Lie.new n X, fun _ hz => new_cells hz⟩
theorem Lay.write {n : Nat} {X X' : Nat → Option Shd} {st : DSt} (h : Lay n X st) {p : Nat} (hp : p < n) {x : Shd} (hx : (wrI x).length = 64) (h1 : X' p = some x) (h2 : ∀ z, z ≠ p → X' z = X z) : Lay n X' (st.write (p : Int) (wrI x)) := by
  refine ⟨h.live, ⟨h.lie.ok.write hx ⟨by omega, by omega⟩, fun z i hz hl => ?_, fun z hz => ⟨rep 0, .inl rfl, .inl (h.z z hz)⟩⟩, h.z⟩
  have hl : lastIx (st.cache ++ [((p : Int), wrI x)]) (z : Int) = some i := hl
  rw [lastIx_snoc] at hl
  rw [DSt.seen_write]
  by_cases e : z = p
  · subst e
    rw [if_pos rfl]
    exact ⟨x, h1, rfl⟩
  · have e2 : ¬ ((p : Int) = (z : Int)) := by omega
    rw [if_neg e2] at hl
    rw [if_neg e2, h2 z e]
    exact h.lie.c z i hz hl
/-! ### All drives -/
/-- The last stripes, by their places. -/
abbrev Lst := Nat → Option (Ref × List Nat)
def LstOk (k n : Nat) (T : Lst) : Prop := ∀ z q xs, T z = some (q, xs) → q.ok n ∧ q.place = z ∧ q.gen < 2 ^ 64 ∧ Byt xs ∧ xs.length ≤ k * 44
def xOf (k N : Nat) (T : Lst) (d z : Nat) : Option Shd := (T z).map fun p => putX k N p.1 p.2 d
def LayS (n k N : Nat) (T : Lst) (sts : List DSt) : Prop := LstOk k n T ∧ ∀ (d : Nat) st, sts[d]? = some st → Lay n (xOf k N T d) st
def LieS (n k N : Nat) (T : Lst) (sts : List DSt) : Prop := LstOk k n T ∧ ∀ (d : Nat) st, sts[d]? = some st → Lie n (xOf k N T d) st
section
variable {n k N : Nat} {T : Lst} {sts : List DSt}
theorem LayS.lie (h : LayS n k N T sts) : LieS n k N T sts := ⟨h.1, fun d st hd => (h.2 d st hd).lie⟩
theorem LayS.new (n k N : Nat) : LayS n k N (fun _ => none) (newS n N) := ⟨fun z q xs h => (by cases h), fun d st hd => (by rw [(newS_at hd).1]; exact Lay.new _ _)⟩
theorem LayS.put (h : LayS n k N T sts) {kd gn : Nat} {pl : Int} {xs : List Nat} (hg : gn < 2 ^ 64) (hx : Byt xs) : ∃ T', LayS n k N T' (lputX n k N kd pl gn xs sts) := by
  unfold lputX
  split
  · rename_i hq
    unfold goodP at hq
    rw [Bool.and_eq_true] at hq
    obtain ⟨p, rfl, hok⟩ := goodP_ok (k := 0) (len := 0) hq.1
    have hl := of_decide_eq_true hq.2
    have hp : p < n := hok.p
    have hok2 : (⟨kd, p, gn⟩ : Ref).ok n := ⟨hok.k1, hok.k4, hok.p⟩
    rw [Int.toNat_natCast]
    refine ⟨fun z => if z = p then some (⟨kd, p, gn⟩, xs) else T z, fun z q ys hz => ?_, fun d st hd => ?_⟩
    · by_cases e : z = p
      · dsimp only at hz
        rw [if_pos e] at hz
        obtain ⟨rfl, rfl⟩ := Prod.mk.inj (Option.some.inj hz)
        exact ⟨hok2, e.symm, hg, hx, hl⟩
      · dsimp only at hz
        rw [if_neg e] at hz
        exact h.1 z q ys hz
    · obtain ⟨s1, h1, rfl⟩ := mapIdx_at hd
      have hl1 := h.2 d s1 h1
      rw [putQ_live hok2 hx hl1.live]
      refine hl1.write hp (wrI_len (row44 hx k _).1) (by unfold xOf; dsimp only; rw [if_pos rfl]; rfl) fun z hz => ?_
      unfold xOf
      dsimp only
      rw [if_neg hz]
  · exact ⟨T, h⟩
theorem LieS.set (h : LieS n k N T sts) {x : Nat} {st' : DSt} (h' : x < sts.length → Lie n (xOf k N T x) st') : LieS n k N T (sts.set x st') := ⟨h.1, fun d st hd => by
  by_cases e : x = d
  · subst e
    have hl : x < sts.length := by have := (List.getElem?_eq_some_iff.1 hd).1; rwa [List.length_set] at this
    rw [List.getElem?_set_self hl] at hd
    cases hd
    exact h' hl
  · rw [List.getElem?_set_ne e] at hd
    exact h.2 d st hd⟩
theorem LieS.fail (h : LieS n k N T sts) (x : Int) : LieS n k N T (failA n sts x) := by
  unfold failA
  split
  · exact h.set fun _ => Lie.gone _ _
  · exact h
theorem LieS.repl (h : LieS n k N T sts) (x : Int) : LieS n k N T (replA n sts x) := by
  unfold replA
  split
  · exact h.set fun _ => Lie.new _ _
  · exact h
theorem LieS.flush (h : LieS n k N T sts) : LieS n k N T (sts.map flushG) := ⟨h.1, fun d st hd => by
  rw [List.getElem?_map] at hd
  obtain ⟨s1, h1, rfl⟩ := Option.map_eq_some_iff.1 hd
  exact (h.2 d s1 h1).flush⟩
theorem LieS.rot (h : LieS n k N T sts) (d z : Int) : LieS n k N T (rotA n sts d z 20 1) := by
  unfold rotA
  split
  · split
    · rename_i st hst
      exact h.set fun _ => (h.2 _ st hst).rot rfl rfl z
    · exact h
  · exact h
/-! ### What a name reads -/
end
end
section
section
variable {X : Nat → Prop} {w0 w : World} {a cb bf k m n : Nat} {sts : List DSt}
theorem rot_e (h : MX X w0 w a cb bf k m n sts) (d z : Int) : Calls Tryz.prog 32 #[.pointer (some ⟨a, 0, none⟩), .int .i64 d, .int .i64 z, .int .i64 20, .int .u32 1] w fun e w' => (∃ E : Int, e = .returned (.int .i64 E)) ∧ MX X w0 w' a cb bf k m n (rotA n sts d z 20 1) ∧ KpX X w w' := (rot_m h d z 20 1).mono fun _ _ ⟨h1, h2, h3⟩ => ⟨⟨_, h1⟩, h2, h3⟩
theorem flush_e (h : MX X w0 w a cb bf k m n sts) (hcl : ∀ st ∈ sts, st.cache.length < 1000000) : Calls Tryz.prog 30 #[.pointer (some ⟨a, 0, none⟩)] w fun e w' => (∃ E : Int, e = .returned (.int .i64 E)) ∧ MX X w0 w' a cb bf k m n (sts.map flushG) ∧ KpX X w w' := (flush_m h hcl).mono fun _ _ ⟨h1, h2, h3⟩ => ⟨⟨_, h1⟩, h2, h3⟩
end
/-- What is got of it. -/
def DoneE (w : World) (k m n : Nat) (e : Ending) (w' : World) : Prop := ∃ a cb bf sb sts V x ra, e = .returned (.tuple #[.pointer (some ⟨a, 0, none⟩), .pointer (some ⟨cb, 0, none⟩), .pointer (some ⟨sb, 0, none⟩)]) ∧ Dn (fun j => j < w.heap.size) w w' a cb bf k m n sts V sb x ra ∧ TInv (k + m) n 4000 sts ra ∧ GdA 12 sts ∧ ∃ T, LieS n k (k + m) T sts
set_option maxRecDepth 100000 in
set_option maxHeartbeats 32000000 in
theorem done_any {w : World} {k m n : Nat} (k1 : 1 ≤ k) (m1 : 1 ≤ m) (km : k + m ≤ 255) (n1 : 1 ≤ n) (n2 : n ≤ 600) {S1 S2 : Nat → Prop} {A1 A2 : Option Addr} {L1 L2 c1 c2 : Nat} {ps : List LPt} {hs : List Hrt} (R1 : RdL LPtR 4 S1 w A1 L1 ps) (R2 : RdL HrtR 3 S2 w A2 L2 hs) (hL1 : L1 ≤ 12) (hL2 : L2 ≤ 30) (hbl : ∀ p ∈ ps, p.b.length ≤ 500) :
    Calls Tryz.prog 14 #[.agg (geoC k m n), .slice A1 L1 c1, .slice A2 L2 c2] w fun e w' => DoneE w k m n e w' := by
  have HR1 := Lib.hid R1
  have HR2 := Lib.hid R2
  have HBL := Lib.hid hbl
  have b0 := BoxAt.new w (geoC k m n) 23
  have hb0 : Below w.heap.size w (w.alloc (.cells (geoC k m n) 23)) := (Below.refl _ _).alloc (Nat.le_refl _) _
  obtain ⟨W, hW⟩ : ∃ W, w.alloc (.cells (geoC k m n) 23) = W := ⟨_, rfl⟩
  rw [hW] at b0 hb0
  obtain ⟨p0, hp0⟩ : ∃ p0, w.heap.size = p0 := ⟨_, rfl⟩
  rw [hp0] at b0
  have hmd := made_m (w0 := w) hb0 k1 m1 km n1 n2
  have g0 := b0.cell 0
  have g1 := b0.cell 1
  have g2 := b0.cell 2
  have HBX := Lib.hid b0
  have HW0 := Lib.hid hb0
  have hpl := b0.lt
  have q1 : (0 : Int) ≤ (L1 : Int) := by omega
  have q2 : (0 : Int) ≤ (L2 : Int) := by omega
  have q3 : (L1 : Int) ≤ 12 := by omega
  have q4 : (L2 : Int) ≤ 30 := by omega
  clear R1 R2 hbl b0 hb0
  unfold geoC at hW hmd g0 g1 g2 ⊢
  go_enter Tryz.func14, Tryz.ntmps14
  go_wp2_with fail
  refine hmd.mono ?_
  clear hmd
  rintro e w1 ⟨a, cb, bf, rfl, hM1, hb1⟩
  have hx1 := HBX.out.below hb1
  unfold geoC at hx1
  have e0 := hx1.cell 0
  have e1 := hx1.cell 1
  have e2 := hx1.cell 2
  have HM1 := Lib.hid hM1
  have HW1 := Lib.hid hb1.size
  clear hx1 hM1 hb1 g0 g1 g2 hW
  go_wp2_with fail
  refine (rsnew_any k m n k1 km n1 n2 w1).mono ?_
  rintro e w2 ⟨sb, x2, V2, rfl, hS2, hA2, hV2, hsb2, hnV2, hb2⟩
  have hlt2 : ∀ j, V2 j → j < w2.heap.size := fun j hj => hA2.lt hj
  have hw1 : W.heap.size ≤ w1.heap.size := HW1.out
  have hsz0 : w.heap.size ≤ W.heap.size := HW0.out.size
  have hD2 : Dn (fun j => j < w.heap.size) w w2 a cb bf k m n (newS n (k + m)) V2 sb x2 (List.replicate (k + m) RSt.new) :=
    ⟨(HM1.out.below hb2).sub (fun j hj => by
        rcases hj with h1 | h1 | rfl
        · exact .inl (by show j < W.heap.size; have : j < w.heap.size := h1; omega)
        · exact .inr ⟨hV2 j h1, hlt2 j h1⟩
        · exact .inr ⟨hsb2, hS2.lt⟩), hS2, hA2, hnV2, fun j hj => by have := hV2 j hj; omega, by omega, fun j hj hv => by have := hV2 j hv; have : j < w.heap.size := hj; omega, fun h9 => by have : sb < w.heap.size := h9; omega⟩
  have HD2 := Lib.hid hD2
  have hpos := HM1.out.pos
  clear hS2 hA2 hV2 hsb2 hnV2 hb2 hlt2 hD2 e0 e1 e2 hsz0 hw1
  go_wp2_with fail
  go_loopw [12] (fun vi wr => ∃ i : Nat, i ≤ L1 ∧ vi = .int .i64 i ∧ Hid (∃ sts V x ra, Dn (fun j => j < w.heap.size) w wr a cb bf k m n sts V sb x ra ∧ TInv (k + m) n (i * (k + m)) sts ra ∧ GdA (i) sts ∧ ∃ T, LayS n k (k + m) T sts)) (fun vi _ => L1 - (intOf vi).toNat)
  case atStart => exact ⟨0, Nat.zero_le _, rfl, Lib.hid ⟨_, _, _, _, HD2.out, (TInv.new (k + m) n).mono (Nat.zero_le _), GdA.new n (k + m), _, LayS.new n k (k + m)⟩⟩
  case round =>
    obtain ⟨i, hi, rfl, hI⟩ := hrel
    obtain ⟨sts, V, x, ra, hD, hT, hG, T, hL⟩ := hI.out
    have HL := Lib.hid hL
    clear hL
    have i0 : (0 : Int) ≤ (i : Int) := Int.natCast_nonneg _
    have HD := Lib.hid hD
    have HT := Lib.hid hT
    have HG := Lib.hid hG
    have him : i * (k + m) ≤ 12 * 255 := Nat.mul_le_mul (by omega) km
    clear hD hT hG hI
    by_cases hlt : i < L1
    · have i1 : (i : Int) < (L1 : Int) := by omega
      obtain ⟨b, o, p, A3, n3, c3, rfl, hpi, hbl, _, ⟨x0, x1, x2, x3⟩, hc3, hr3, _, hgn⟩ := lpt_at HR1.out hlt
      have hln := HBL.out p (List.mem_of_getElem? hpi)
      rw [hr3.1] at hln
      have HCL := Lib.hid (show ∀ w', Below w.heap.size w w' → (w'.cell? ⟨b, o + i * 4, none⟩ = some (.int .u8 (p.kd : Int)) ∧ w'.cell? ⟨b, o + i * 4 + 1, none⟩ = some (.int .i64 p.pl) ∧ w'.cell? ⟨b, o + i * 4 + 2, none⟩ = some (.int .u64 (p.gn : Int)) ∧ w'.cell? ⟨b, o + i * 4 + 3, none⟩ = some (.slice A3 n3 c3)) from fun w' hb => ⟨(hb.cell (p := ⟨b, o + i * 4, none⟩) hbl).trans x0, (hb.cell (p := ⟨b, o + i * 4 + 1, none⟩) hbl).trans x1, (hb.cell (p := ⟨b, o + i * 4 + 2, none⟩) hbl).trans x2, (hb.cell (p := ⟨b, o + i * 4 + 3, none⟩) hbl).trans x3⟩)
      have HR3 := Lib.hid hr3
      clear hr3 x0 x1 x2 x3 hpi
      have hDd := HD.out.below ((Below.refl _ _).drew)
      have HRC := Lib.hid (hDd.real (Q := TwoE) (lputX_any (kd := p.kd) (pl := p.pl) (gn := p.gn) hDd.mx hgn (fun st hst => by have := (HG.out st hst).f; omega) (HR3.out.below ByR.stable hDd.mx.bel) hc3 (by omega)))
      have s0 := HCL.out _ hDd.mx.bel
      clear hDd
      go_wp2_with fail
      refine wp_region_held_drew (S := fun w' => w'.cell? ⟨b, o + i * 4, none⟩ = some (.int .u8 (p.kd : Int)) ∧ w'.cell? ⟨b, o + i * 4 + 1, none⟩ = some (.int .i64 p.pl) ∧ w'.cell? ⟨b, o + i * 4 + 2, none⟩ = some (.int .u64 (p.gn : Int)) ∧ w'.cell? ⟨b, o + i * 4 + 3, none⟩ = some (.slice A3 n3 c3)) (by kernel_rfl) (by first | exact s0 | exact s5) (fun hHeld => ?_)
      refine tkH 0 rfl ?_
      refine tkH 1 rfl ?_
      refine tkH 2 rfl ?_
      refine tkH 3 rfl ?_
      refine tkH 4 rfl ?_
      refine tkH 5 rfl ?_
      refine tkH 6 rfl ?_
      refine tkH 7 rfl ?_
      refine tkH 8 rfl ?_
      refine tkH 9 rfl ?_
      refine tkH 10 rfl ?_
      refine tkH 11 rfl ?_
      refine rdH 12 rfl fun K hK => ?_
      try simp (maxSteps := 2000000) only [zz1, zz2, zz3]
      go_simp
      go_at_call 43
      refine HRC.out.mono ?_
      clear HRC
      rintro e w5 ⟨⟨E5, E6, rfl⟩, hD5, _⟩
      have s5 := HCL.out _ hD5.mx.bel
      have HD5 := Lib.hid hD5
      clear hD5
      try (go_wp2_with fail)
      refine hK.out _ _ (by first | exact s0 | exact s5) (fun hHeld => ?_)
      clear hK K
      try simp (maxSteps := 2000000) only [zz1, zz2, zz3, Act.put, zz4, zz5, zz6]
      refine wpAnyH_done (by kernel_rfl) ?_ _
      have hDe := HD5.out.below ((Below.refl _ _).drew)
      have HRE := Lib.hid (hDe.ref (Q := TwoE) (rputX_any (N := 0) (kd := p.kd) (gn := p.gn) (pl := p.pl) (c := c3) hDe HT.out (by omega) hgn (HR3.out.below ByR.stable hDe.mx.bel) (by omega)))
      have s1 := HCL.out _ hDe.mx.bel
      clear hDe s0
      go_wp2_with fail
      refine wp_region_held_drew (S := fun w' => w'.cell? ⟨b, o + i * 4, none⟩ = some (.int .u8 (p.kd : Int)) ∧ w'.cell? ⟨b, o + i * 4 + 1, none⟩ = some (.int .i64 p.pl) ∧ w'.cell? ⟨b, o + i * 4 + 2, none⟩ = some (.int .u64 (p.gn : Int)) ∧ w'.cell? ⟨b, o + i * 4 + 3, none⟩ = some (.slice A3 n3 c3)) (by kernel_rfl) (by first | exact s1 | exact s8) (fun hHeld => ?_)
      refine tkH 0 rfl ?_
      refine tkH 1 rfl ?_
      refine tkH 2 rfl ?_
      refine tkH 3 rfl ?_
      refine tkH 4 rfl ?_
      refine tkH 5 rfl ?_
      refine tkH 6 rfl ?_
      refine tkH 7 rfl ?_
      refine tkH 8 rfl ?_
      refine tkH 9 rfl ?_
      refine tkH 10 rfl ?_
      refine rdH 11 rfl fun K hK => ?_
      try simp (maxSteps := 2000000) only [zz1, zz2, zz3]
      go_simp
      go_at_call 44
      refine HRE.out.mono ?_
      clear HRE
      rintro e w8 ⟨⟨E8, E9, rfl⟩, ⟨V8, hD8⟩, _⟩
      have s8 := HCL.out _ hD8.mx.bel
      have HD8 := Lib.hid hD8
      clear hD8
      try (go_wp2_with fail)
      refine hK.out _ _ (by first | exact s1 | exact s8) (fun hHeld => ?_)
      clear hK K
      try simp (maxSteps := 2000000) only [zz1, zz2, zz3, Act.put, zz4, zz5, zz6]
      refine wpAnyH_done (by kernel_rfl) ?_ _
      go_wp2_with fail
      exact ⟨⟨i + 1, hlt, by go_num, Lib.hid ⟨_, _, _, _, HD8.out, (HT.out.lput (by omega)).mono (by rw [Nat.succ_mul]; exact Nat.le_refl _), HG.out.lput n2 hgn k1 km (by_byt HR3.out), HL.out.put hgn (by_byt HR3.out)⟩⟩, by simp [intOf]; omega⟩
    · have i1 : ¬ (i : Int) < (L1 : Int) := by omega
      have HTA := Lib.hid (HT.out.mono him)
      have HGA := Lib.hid (HG.out.mono (show i ≤ 12 by omega))
      have HLA := Lib.hid (show ∃ T, LieS n k (k + m) T sts from ⟨T, HL.out.lie⟩)
      clear HT HG
      go_wp2_with fail
      go_loopw [13] (fun vj wr => ∃ j : Nat, j ≤ L2 ∧ vj = .int .i64 j ∧ Hid (∃ sts V x ra, Dn (fun j => j < w.heap.size) w wr a cb bf k m n sts V sb x ra ∧ TInv (k + m) n (12 * 255 + j) sts ra ∧ GdA (12) sts ∧ ∃ T, LieS n k (k + m) T sts)) (fun vj _ => L2 - (intOf vj).toNat)
      case atStart => exact ⟨0, Nat.zero_le _, rfl, Lib.hid ⟨_, _, _, _, HD.out, HTA.out, HGA.out, HLA.out⟩⟩
      case round =>
        clear HD HTA HGA HLA HL
        obtain ⟨j, hj, rfl, hI⟩ := hrel
        obtain ⟨sts, V, x, ra, hD, hT, hG, T, hL⟩ := hI.out
        have HL := Lib.hid hL
        clear hL
        have j0 : (0 : Int) ≤ (j : Int) := Int.natCast_nonneg _
        have HOK := Lib.hid hD.mx.mid.ok
        have HD := Lib.hid hD
        have HT := Lib.hid hT
        have HG := Lib.hid hG
        clear hD hT hG hI
        by_cases hlt : j < L2
        · have j1 : (j : Int) < (L2 : Int) := by omega
          obtain ⟨b2, o2, h, rfl, hhj, hbl, _, x0, x1, x2⟩ := hrt_at HR2.out hlt
          have HCL := Lib.hid (show ∀ w', Below w.heap.size w w' → (w'.cell? ⟨b2, o2 + j * 3 + 1, none⟩ = some (.int .i64 h.d) ∧ w'.cell? ⟨b2, o2 + j * 3 + 2, none⟩ = some (.int .i64 h.at_)) from fun w' hb => ⟨(hb.cell (p := ⟨b2, o2 + j * 3 + 1, none⟩) hbl).trans x1, (hb.cell (p := ⟨b2, o2 + j * 3 + 2, none⟩) hbl).trans x2⟩)
          have hk0 := (HD.out.mx.bel.cell (p := ⟨b2, o2 + j * 3, none⟩) hbl).trans x0
          clear x0 x1 x2 hhj
          by_cases t0 : h.kind = 0
          · have z0 : (h.kind == 0) = true := by simpa using t0
            obtain ⟨hc1, hc2⟩ := HCL.out _ HD.out.mx.bel
            go_wp2_with fail
            refine (HD.out.real (Q := fun e => ∃ E : Int, e = .returned (.int .i64 E)) (fail_e HD.out.mx h.d)).mono ?_
            rintro e w5 ⟨⟨E5, rfl⟩, hD5, _⟩
            have HD5 := Lib.hid hD5
            have HT5 := Lib.hid (HT.out)
            clear hD5 hc1 hc2
            have s0 := show w5.drew.cell? ⟨sb, 0, none⟩ = some (.pointer (some ⟨x, 0, none⟩)) ∧ w5.drew.cell? ⟨b2, o2 + j * 3 + 1, none⟩ = some (.int .i64 h.d) ∧ w5.drew.cell? ⟨b2, o2 + j * 3 + 2, none⟩ = some (.int .i64 h.at_) from ⟨(HD5.out.below ((Below.refl _ _).drew)).bx.cell 0, HCL.out _ HD5.out.mx.bel.drew⟩
            have hDd := HD5.out.below ((Below.refl _ _).drew)
            have HRC := Lib.hid (hDd.ref (Q := fun e => ∃ E : Int, e = .returned (.int .i64 E)) (rfail_t hDd.ra HT.out (by omega) h.d))
            clear hDd
            go_wp2_with fail
            refine wp_region_held_drew (S := fun w' => w'.cell? ⟨sb, 0, none⟩ = some (.pointer (some ⟨x, 0, none⟩)) ∧ w'.cell? ⟨b2, o2 + j * 3 + 1, none⟩ = some (.int .i64 h.d) ∧ w'.cell? ⟨b2, o2 + j * 3 + 2, none⟩ = some (.int .i64 h.at_)) (by kernel_rfl) (by first | exact s0 | exact s8) (fun hHeld => ?_)
            refine tkH 0 rfl ?_
            refine tkH 1 rfl ?_
            refine tkH 2 rfl ?_
            refine tkH 3 rfl ?_
            refine tkH 4 rfl ?_
            refine tkH 5 rfl ?_
            refine tkH 6 rfl ?_
            refine tkH 7 rfl ?_
            refine tkH 8 rfl ?_
            refine rdH 9 rfl fun K hK => ?_
            try simp (maxSteps := 2000000) only [zz1, zz2, zz3]
            go_simp
            go_at_call 48
            refine HRC.out.mono ?_
            clear HRC
            rintro e w8 ⟨⟨E8, rfl⟩, ⟨V8, hD8⟩, _⟩
            have s8 := show w8.cell? ⟨sb, 0, none⟩ = some (.pointer (some ⟨x, 0, none⟩)) ∧ w8.cell? ⟨b2, o2 + j * 3 + 1, none⟩ = some (.int .i64 h.d) ∧ w8.cell? ⟨b2, o2 + j * 3 + 2, none⟩ = some (.int .i64 h.at_) from ⟨hD8.bx.cell 0, HCL.out _ hD8.mx.bel⟩
            have HD8 := Lib.hid hD8
            clear hD8
            try (go_wp2_with fail)
            refine hK.out _ _ (by first | exact s0 | exact s8) (fun hHeld => ?_)
            clear hK K
            try simp (maxSteps := 2000000) only [zz1, zz2, zz3, Act.put, zz4, zz5, zz6]
            refine wpAnyH_done (by kernel_rfl) ?_ _
            go_wp2_with fail
            exact ⟨⟨j + 1, hlt, by go_num, Lib.hid ⟨_, _, _, _, HD8.out, HT.out.fail h.d, HG.out.fail h.d, _, HL.out.fail h.d⟩⟩, by simp [intOf]; omega⟩

          · have z0 : (h.kind == 0) = false := by simpa using t0
            by_cases t1 : h.kind = 1
            · have z1 : (h.kind == 1) = true := by simpa using t1
              have s0 := HCL.out _ (HD.out.mx.bel.drew)
              have hDd := HD.out.below ((Below.refl _ _).drew)
              have hrc := hDd.real (Q := fun e => ∃ E : Int, e = .returned (.int .i64 E)) (rot_e hDd.mx h.d h.at_)
              have HRC := Lib.hid hrc
              clear hDd hrc
              go_wp2_with fail
              refine wp_region_held_drew (S := fun w' => w'.cell? ⟨b2, o2 + j * 3 + 1, none⟩ = some (.int .i64 h.d) ∧ w'.cell? ⟨b2, o2 + j * 3 + 2, none⟩ = some (.int .i64 h.at_)) (by kernel_rfl) (by first | exact s0 | exact s5) (fun hHeld => ?_)
              refine tkH 0 rfl ?_
              refine tkH 1 rfl ?_
              refine tkH 2 rfl ?_
              refine tkH 3 rfl ?_
              refine tkH 4 rfl ?_
              refine tkH 5 rfl ?_
              refine tkH 6 rfl ?_
              refine tkH 7 rfl ?_
              refine tkH 8 rfl ?_
              refine tkH 9 rfl ?_
              refine tkH 10 rfl ?_
              refine rdH 11 rfl fun K hK => ?_
              try simp (maxSteps := 2000000) only [zz1, zz2, zz3]
              go_simp
              go_at_call 32
              refine HRC.out.mono ?_
              clear HRC
              rintro e w5 ⟨⟨E5, rfl⟩, hD5, _⟩
              have s5 := HCL.out _ hD5.mx.bel
              have HD5 := Lib.hid hD5
              clear hD5
              try (go_wp2_with fail)
              refine hK.out _ _ (by first | exact s0 | exact s5) (fun hHeld => ?_)
              clear hK K
              try simp (maxSteps := 2000000) only [zz1, zz2, zz3, Act.put, zz4, zz5, zz6]
              refine wpAnyH_done (by kernel_rfl) ?_ _
              have HT5 := HT
              have s0 := show w5.drew.cell? ⟨sb, 0, none⟩ = some (.pointer (some ⟨x, 0, none⟩)) ∧ w5.drew.cell? ⟨b2, o2 + j * 3 + 1, none⟩ = some (.int .i64 h.d) ∧ w5.drew.cell? ⟨b2, o2 + j * 3 + 2, none⟩ = some (.int .i64 h.at_) from ⟨(HD5.out.below ((Below.refl _ _).drew)).bx.cell 0, HCL.out _ HD5.out.mx.bel.drew⟩
              have hDd := HD5.out.below ((Below.refl _ _).drew)
              have HRC := Lib.hid (hDd.ref (Q := fun e => ∃ E : Int, e = .returned (.int .i64 E)) (rrot_t hDd.ra HT.out (by omega) h.d h.at_ 20 1))
              clear hDd
              go_wp2_with fail
              refine wp_region_held_drew (S := fun w' => w'.cell? ⟨sb, 0, none⟩ = some (.pointer (some ⟨x, 0, none⟩)) ∧ w'.cell? ⟨b2, o2 + j * 3 + 1, none⟩ = some (.int .i64 h.d) ∧ w'.cell? ⟨b2, o2 + j * 3 + 2, none⟩ = some (.int .i64 h.at_)) (by kernel_rfl) (by first | exact s0 | exact s8) (fun hHeld => ?_)
              refine tkH 0 rfl ?_
              refine tkH 1 rfl ?_
              refine tkH 2 rfl ?_
              refine tkH 3 rfl ?_
              refine tkH 4 rfl ?_
              refine tkH 5 rfl ?_
              refine tkH 6 rfl ?_
              refine tkH 7 rfl ?_
              refine tkH 8 rfl ?_
              refine tkH 9 rfl ?_
              refine tkH 10 rfl ?_
              refine tkH 11 rfl ?_
              refine tkH 12 rfl ?_
              refine tkH 13 rfl ?_
              refine rdH 14 rfl fun K hK => ?_
              try simp (maxSteps := 2000000) only [zz1, zz2, zz3]
              go_simp
              go_at_call 51
              refine HRC.out.mono ?_
              clear HRC
              rintro e w8 ⟨⟨E8, rfl⟩, ⟨V8, hD8⟩, _⟩
              have s8 := show w8.cell? ⟨sb, 0, none⟩ = some (.pointer (some ⟨x, 0, none⟩)) ∧ w8.cell? ⟨b2, o2 + j * 3 + 1, none⟩ = some (.int .i64 h.d) ∧ w8.cell? ⟨b2, o2 + j * 3 + 2, none⟩ = some (.int .i64 h.at_) from ⟨hD8.bx.cell 0, HCL.out _ hD8.mx.bel⟩
              have HD8 := Lib.hid hD8
              clear hD8
              try (go_wp2_with fail)
              refine hK.out _ _ (by first | exact s0 | exact s8) (fun hHeld => ?_)
              clear hK K
              try simp (maxSteps := 2000000) only [zz1, zz2, zz3, Act.put, zz4, zz5, zz6]
              refine wpAnyH_done (by kernel_rfl) ?_ _
              go_wp2_with fail
              exact ⟨⟨j + 1, hlt, by go_num, Lib.hid ⟨_, _, _, _, HD8.out, HT.out.rot HOK.out h.d h.at_ 20 1, HG.out.rot (off := 20) (mask := 1) h.d h.at_ (by omega), _, HL.out.rot h.d h.at_⟩⟩, by simp [intOf]; omega⟩

            · have z1 : (h.kind == 1) = false := by simpa using t1
              by_cases t2 : h.kind = 2
              · have z2 : (h.kind == 2) = true := by simpa using t2
                obtain ⟨hc1, hc2⟩ := HCL.out _ HD.out.mx.bel
                go_wp2_with fail
                refine (HD.out.real (Q := fun e => ∃ E : Int, e = .returned (.int .i64 E)) (repl_e HD.out.mx h.d)).mono ?_
                rintro e w5 ⟨⟨E5, rfl⟩, hD5, _⟩
                have HD5 := Lib.hid hD5
                have HT5 := Lib.hid (HT.out)
                clear hD5 hc1 hc2
                have s0 := show w5.drew.cell? ⟨sb, 0, none⟩ = some (.pointer (some ⟨x, 0, none⟩)) ∧ w5.drew.cell? ⟨b2, o2 + j * 3 + 1, none⟩ = some (.int .i64 h.d) ∧ w5.drew.cell? ⟨b2, o2 + j * 3 + 2, none⟩ = some (.int .i64 h.at_) from ⟨(HD5.out.below ((Below.refl _ _).drew)).bx.cell 0, HCL.out _ HD5.out.mx.bel.drew⟩
                have hDd := HD5.out.below ((Below.refl _ _).drew)
                have HRC := Lib.hid (hDd.ref (Q := fun e => ∃ E : Int, e = .returned (.int .i64 E)) (rrepl_t hDd.ra HT.out (by omega) h.d))
                clear hDd
                go_wp2_with fail
                refine wp_region_held_drew (S := fun w' => w'.cell? ⟨sb, 0, none⟩ = some (.pointer (some ⟨x, 0, none⟩)) ∧ w'.cell? ⟨b2, o2 + j * 3 + 1, none⟩ = some (.int .i64 h.d) ∧ w'.cell? ⟨b2, o2 + j * 3 + 2, none⟩ = some (.int .i64 h.at_)) (by kernel_rfl) (by first | exact s0 | exact s8) (fun hHeld => ?_)
                refine tkH 0 rfl ?_
                refine tkH 1 rfl ?_
                refine tkH 2 rfl ?_
                refine tkH 3 rfl ?_
                refine tkH 4 rfl ?_
                refine tkH 5 rfl ?_
                refine tkH 6 rfl ?_
                refine tkH 7 rfl ?_
                refine tkH 8 rfl ?_
                refine rdH 9 rfl fun K hK => ?_
                try simp (maxSteps := 2000000) only [zz1, zz2, zz3]
                go_simp
                go_at_call 50
                refine HRC.out.mono ?_
                clear HRC
                rintro e w8 ⟨⟨E8, rfl⟩, ⟨V8, hD8⟩, _⟩
                have s8 := show w8.cell? ⟨sb, 0, none⟩ = some (.pointer (some ⟨x, 0, none⟩)) ∧ w8.cell? ⟨b2, o2 + j * 3 + 1, none⟩ = some (.int .i64 h.d) ∧ w8.cell? ⟨b2, o2 + j * 3 + 2, none⟩ = some (.int .i64 h.at_) from ⟨hD8.bx.cell 0, HCL.out _ hD8.mx.bel⟩
                have HD8 := Lib.hid hD8
                clear hD8
                try (go_wp2_with fail)
                refine hK.out _ _ (by first | exact s0 | exact s8) (fun hHeld => ?_)
                clear hK K
                try simp (maxSteps := 2000000) only [zz1, zz2, zz3, Act.put, zz4, zz5, zz6]
                refine wpAnyH_done (by kernel_rfl) ?_ _
                go_wp2_with fail
                exact ⟨⟨j + 1, hlt, by go_num, Lib.hid ⟨_, _, _, _, HD8.out, HT.out.repl h.d, HG.out.repl h.d, _, HL.out.repl h.d⟩⟩, by simp [intOf]; omega⟩

              · have z2 : (h.kind == 2) = false := by simpa using t2
                by_cases t3 : h.kind = 3
                · have z3 : (h.kind == 3) = true := by simpa using t3
                  go_wp2_with fail
                  refine (HD.out.real (Q := fun e => ∃ E : Int, e = .returned (.int .i64 E)) (flush_e HD.out.mx (fun st hst => by have := (HG.out st hst).f; omega))).mono ?_
                  rintro e w5 ⟨⟨E5, rfl⟩, hD5, _⟩
                  have HD5 := Lib.hid hD5
                  have HT5 := Lib.hid (HT.out)
                  clear hD5
                  have hx0 := HD5.out.bx.cell 0
                  go_wp2_with fail
                  refine (HD5.out.ref (Q := fun e => ∃ E : Int, e = .returned (.int .i64 E)) (rflush_t HD5.out.ra HT.out (by omega) hpos.2.2.1 (by omega))).mono ?_
                  rintro e w8 ⟨⟨E8, rfl⟩, ⟨V8, hD8⟩, _⟩
                  have HD8 := Lib.hid hD8
                  clear hD8 hx0
                  go_wp2_with fail
                  exact ⟨⟨j + 1, hlt, by go_num, Lib.hid ⟨_, _, _, _, HD8.out, HT.out.flush HOK.out, HG.out.flush, _, HL.out.flush⟩⟩, by simp [intOf]; omega⟩

                · have z3 : (h.kind == 3) = false := by simpa using t3
                  go_wp2_with fail
                  exact ⟨⟨j + 1, hlt, by go_num, Lib.hid ⟨_, _, _, _, HD.out, HT.out.mono (by omega), HG.out, _, HL.out⟩⟩, by simp [intOf]; omega⟩

        · have j1 : ¬ (j : Int) < (L2 : Int) := by omega
          have HE := Lib.hid (show DoneE w k m n (.returned (.tuple #[.pointer (some ⟨a, 0, none⟩), .pointer (some ⟨cb, 0, none⟩), .pointer (some ⟨sb, 0, none⟩)])) wr from ⟨_, _, _, _, _, _, _, _, rfl, HD.out, HT.out.mono (by omega), HG.out, _, HL.out⟩)
          clear HD HT HG
          go_wp2_with fail
          refine bodyPost_ret (v := .tuple #[.pointer (some ⟨a, 0, none⟩), .pointer (some ⟨cb, 0, none⟩), .pointer (some ⟨sb, 0, none⟩)]) (by simp [results, Tryz.results14, go_sem]) rfl ?_
          exact HE.out
end
end Go.Proofs.YtihnlhfngmbglaaGreat
