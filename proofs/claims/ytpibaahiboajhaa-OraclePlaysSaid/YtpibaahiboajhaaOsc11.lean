/-
  OraclePlays, walked.
-/
import Derived.Test.YtpibaahiboajhaaOsc10
import Derived.Test.YtpibaahiboajhaaOsc8
import Derived.Deep.CutRange
import Derived.Deep.CutBlock
set_option linter.unusedSimpArgs false
set_option linter.unusedVariables false
namespace Go.Proofs.Ytpibaahiboajhaa
open Go.RowKit Go.Cib
attribute [local go_sem] cell_set Later.cell Later.frozen Grw.cell Grw.frozen
open Go.Sort Go.Proofs Go.Shelf

theorem OrcAt.keepx {w w' : World} {o b x : Nat} {last most : Int} {L : List Int} (h : OrcAt w o b last most L) (hk : Keep (· = x) w w') (ho : x ≠ o) (hb : x ≠ b) : OrcAt w' o b last most L := by
  obtain ⟨es, h1, h2⟩ := h.map
  exact ⟨h.box.keeps hk (fun e => ho e.symm), h.ne, ⟨es, h1.keep (hk.block b h1.lt (fun e => hb e.symm)), h2⟩, h.len, h.rng⟩
theorem hor_head {last : Int} {L : List Int} (hs : L.Pairwise (· ≤ ·)) (hl : ∀ s ∈ L, s ≤ last) : L.head?.getD last = hor last L := by
  cases L with
  | nil => rfl
  | cons y L =>
    obtain ⟨h1, _⟩ := List.pairwise_cons.1 hs
    obtain ⟨a1, a2, a3⟩ := hor_spec (y :: L) last
    have := a2 y (by simp)
    show y = _
    rcases a3 with e | e
    · have := hl y (by simp); omega
    · rcases List.mem_cons.1 e with e | e
      · exact e.symm
      · have := h1 _ e; omega
/-- Ours and the document's, side by side. -/
structure PlaysAt (w0 wr : World) (o b x : Nat) (last most : Int) (L : List Int) (i : Nat) : Prop where
  orc : OrcAt wr o b last most L
  doc : ROrcAt (fun q => q ≠ x ∧ q ≠ o ∧ q ≠ b) wr x last most L
  low : Below w0.heap.size w0 wr
  num : x ≠ o ∧ x ≠ b ∧ w0.heap.size ≤ o ∧ w0.heap.size ≤ b ∧ w0.heap.size ≤ x
  lt : o < wr.heap.size ∧ b < wr.heap.size ∧ x < wr.heap.size
  sorted : L.Pairwise (· ≤ ·)
  top : ∀ s ∈ L, s ≤ last
  len : L.length ≤ i
section
variable {w0 w w' : World} {o b x : Nat} {last most : Int} {L : List Int} {i : Nat}
theorem PlaysAt.below (h : PlaysAt w0 w o b x last most L i) (hb : Below w.heap.size w w') : PlaysAt w0 w' o b x last most L i :=
  ⟨h.orc.below hb, h.doc.below hb, below_then hb h.low, h.num, by have := h.lt; have := hb.size; omega, h.sorted, h.top, h.len⟩
theorem PlaysAt.drewN (h : PlaysAt w0 w o b x last most L i) (q : Nat) : PlaysAt w0 (w.drewN q) o b x last most L i :=
  ⟨h.orc.drewN q, h.doc.drewN q, below_drewN h.low q, h.num, h.lt, h.sorted, h.top, h.len⟩
theorem PlaysAt.more (h : PlaysAt w0 w o b x last most L i) : PlaysAt w0 w o b x last most L (i + 1) :=
  ⟨h.orc, h.doc, h.low, h.num, h.lt, h.sorted, h.top, by have := h.len; omega⟩
theorem PlaysAt.docKeep (h : PlaysAt w0 w o b x last most L i) (hk : Keep (fun k => k = o ∨ k = b) w w') : ROrcAt (fun q => q ≠ x ∧ q ≠ o ∧ q ≠ b) w' x last most L :=
  h.doc.keep hk (fun e => e.elim h.num.1 h.num.2.1) (fun q hq e => e.elim hq.2.1 hq.2.2)
theorem PlaysAt.keep1 (_h : PlaysAt w0 w o b x last most L i) (hk : Keep (fun k => k = o ∨ k = b) w w') : Keep (fun k => k = o ∨ k = b ∨ k = x) w w' :=
  hk.mono (fun k h _ => h.elim .inl (fun h => .inr (.inl h)))
theorem PlaysAt.fresh (h : PlaysAt w0 w o b x last most L i) {q : Nat} (hq : w.heap.size ≤ q) : q ≠ x ∧ q ≠ o ∧ q ≠ b := by
  have := h.lt; omega
theorem PlaysAt.went {w1 w2 : World} {last' : Int} {L' : List Int} (h : PlaysAt w0 w o b x last most L i) (k1 : Hid (Keep (fun k => k = o ∨ k = b) w w1)) (h1 : OrcAt w1 o b last' most L') (k2 : Keep (· = x) w1 w2) (h2 : ROrcAt (fun q => q ≠ x ∧ q ≠ o ∧ q ≠ b) w2 x last' most L')
    (hs : L'.Pairwise (· ≤ ·)) (ht : ∀ s ∈ L', s ≤ last') (hl : L'.length ≤ i + 1) : PlaysAt w0 w2 o b x last' most L' (i + 1) := by
  obtain ⟨n1, n2, n3, n4, n5⟩ := h.num
  refine ⟨h1.keepx k2 n1 n2, h2, ?_, h.num, ?_, hs, ht, hl⟩
  · have b1 := keep_two h.low k1.out n3 n4 h.low.size
    exact b1.trans (k2.below b1.size (fun k hk => by rw [hk]; exact n5))
  · have := h.lt; have := k1.out.size; have := k2.size; omega
end
def nextV (last most : Int) : Value := if last < most then .tuple #[.int .u64 (last + 1), .int .i64 0] else .tuple #[.int .u64 0, .int .i64 230]
theorem nextV_ex (last most : Int) : ∃ nv ev, (if last < most then Value.tuple #[.int .u64 (last + 1), .int .i64 0] else .tuple #[.int .u64 0, .int .i64 230]) = .tuple #[.int .u64 nv, .int .i64 ev] ∧ (ev = 0 → nv = last + 1 ∧ last < most) := by
  by_cases h : last < most
  · rw [if_pos h]; exact ⟨_, _, rfl, fun _ => ⟨rfl, h⟩⟩
  · rw [if_neg h]; exact ⟨_, _, rfl, fun e => by omega⟩
theorem bool_self (B : Bool) : (B == B) = true := by cases B <;> rfl

set_option maxRecDepth 100000 in
set_option maxHeartbeats 16000000 in
theorem plays23_any {w : World} {A : Option Addr} {m c : Nat} {acts : List OAct} (last most : Int) (hl0 : 0 ≤ last) (hm0 : most < 18446744073709551616) (R : Hid (RdL OActR 2 (fun _ => True) w A m acts)) :
    Calls Try.prog 3 #[.int .u64 last, .int .u64 most, .slice A m c] w fun e w' => e = .returned (.bool true) ∧ Below w.heap.size w w' := by
  have st := stamps_any w
  by_cases hm : m ≤ 100
  case neg =>
    have q2 : (100 : Int) < (m : Int) := by omega
    go_enter Try.func3, Try.ntmps3
    go_wp2_with fail
    refine st.mono ?_
    rintro e w6 ⟨rfl, t6⟩
    have T6 := Lib.hid t6
    clear t6 st
    go_wp2_with fail
    go_ret
    exact ⟨rfl, T6.out⟩
  have q2 : ¬ (100 : Int) < (m : Int) := by omega
  by_cases hlm : most < last
  · have n1 := onew_none w last most hlm
    have n2 := rnew_none w last most hlm
    go_enter Try.func3, Try.ntmps3
    go_wp2_with fail
    refine n1.mono ?_
    rintro e w9 ⟨rfl, h9⟩
    replace h9 := h9.symm
    subst h9
    go_wp2_with fail
    refine n2.mono ?_
    rintro e w9 ⟨rfl, h9⟩
    replace h9 := h9.symm
    subst h9
    go_wp2_with fail
    refine st.mono ?_
    rintro e w6 ⟨rfl, t6⟩
    have T6 := Lib.hid t6
    clear t6 st
    go_wp2_with fail
    go_ret
    exact ⟨rfl, T6.out⟩
  clear st
  have n1 := onew_ok w last most hl0 (by omega) hm0
  go_enter Try.func3, Try.ntmps3
  go_wp2_with fail
  refine n1.mono ?_
  rintro e w1 ⟨rfl, h1, b1⟩
  obtain ⟨o, ho⟩ : ∃ o, w.heap.size + 1 = o := ⟨_, rfl⟩
  obtain ⟨b, hb⟩ : ∃ b, w.heap.size = b := ⟨_, rfl⟩
  rw [ho, hb] at h1
  rw [ho]
  have n2 := rnew_ok (fun q => q ≠ w1.heap.size ∧ q ≠ o ∧ q ≠ b) w1 last most (by omega)
  have HO1 := Lib.hid h1
  have HB1 := Lib.hid b1
  have hob : w.heap.size ≤ o ∧ w.heap.size ≤ b := by omega
  clear n1 h1 b1 ho hb
  go_wp2_with fail
  refine n2.mono ?_
  rintro e w2 ⟨rfl, h2, b2⟩
  have hP : PlaysAt w w2 o b w1.heap.size last most [] 0 :=
    ⟨HO1.out.below b2, h2, below_then b2 HB1.out, by have := HO1.out.size2; have := HB1.out.size; omega, by have := HO1.out.size2; have := h2.lt; have := b2.size; omega, List.Pairwise.nil, by simp, Nat.le_refl _⟩
  obtain ⟨x, hx⟩ : ∃ x, w1.heap.size = x := ⟨_, rfl⟩
  rw [hx] at hP
  rw [hx]
  have HP := Lib.hid hP
  clear n2 h2 b2 hP hx HO1 HB1 hob
  go_wp2_with fail
  go_loopw [9] (fun vi wq => ∃ (i : Nat) (la : Int) (L : List Int), i ≤ m ∧ vi = .int .i64 i ∧ Hid (PlaysAt w wq o b x la most L i)) (fun vi _ => m - (intOf vi).toNat)
  case atStart => exact ⟨0, last, [], Nat.zero_le _, rfl, HP⟩
  case round =>
    clear HP
    obtain ⟨wq, rfl⟩ : ∃ wq, wq = wr := ⟨_, rfl⟩
    obtain ⟨i, la, L, hi, rfl, HP⟩ := hrel
    have q3 : (0 : Int) ≤ (i : Int) := Int.natCast_nonneg _
    by_cases hil : i < m
    case neg =>
      obtain rfl : i = m := by omega
      have q4 : ¬ (i : Int) < (i : Int) := by omega
      have st := stamps_any wq
      go_wp2_with fail
      refine st.mono ?_
      rintro e w6 ⟨rfl, t6⟩
      have T6 := Lib.hid (below_then t6 HP.out.low)
      clear t6 st
      go_wp2_with fail
      go_ret
      exact ⟨rfl, T6.out⟩
    have q4 : (i : Int) < (m : Int) := by omega
    obtain ⟨bo, oo, a, rfl, ha, hbo, hn0, d0, d1⟩ := oact_at R.out hil
    have x0 := (HP.out.low.cell (p := ⟨bo, oo + i * 2, none⟩) hbo).trans d0
    have x1 := (HP.out.low.cell (p := ⟨bo, oo + i * 2 + 1, none⟩) hbo).trans d1
    have wF : Below wq.heap.size wq (wq.alloc (.cells #[.int .i64 a.kind, .int .u64 a.n] 30)) := (Below.refl _ _).alloc (Nat.le_refl _) _
    have X1 := BoxAt.new wq #[.int .i64 a.kind, .int .u64 a.n] 30
    obtain ⟨y, hy⟩ : ∃ y, wq.heap.size = y := ⟨_, rfl⟩
    obtain ⟨w2, hw1⟩ : ∃ w1, wq.alloc (.cells #[.int .i64 a.kind, .int .u64 a.n] 30) = w1 := ⟨_, rfl⟩
    rw [hw1] at wF X1
    have hp1 := HP.out.below wF
    rw [hy] at X1
    have hyn : y ≠ o ∧ y ≠ b ∧ y ≠ x := by have := HP.out.lt; omega
    have HX2 := Lib.hid X1
    have HP2 := Lib.hid hp1
    have j0 := X1.cell 0
    clear d0 d1 ha wF X1 hp1 HP
    go_upto_block 2 with fail
    clear x0 x1 hw1 hy
    go_cut [11] from 37 to 176 (fun v11 wx => ∃ (la' : Int) (L' : List Int), v11 = .bool true ∧ Hid (PlaysAt w wx o b x la' most L' (i + 1)))
    case first =>
      go_upto_if 49 with fail
      go_cut [48, 49] from 37 to 176 (fun v48 v wx => v48 = .int .i64 a.kind ∧ v = .bool (decide (a.kind = 0 ∨ a.kind = 1)) ∧ wx = w2)
      case first =>
        by_cases hk0 : a.kind = 0
        · have e1 : (a.kind == 0) = true := beq_iff_eq.2 hk0
          have e2 : decide (a.kind = 0) = true := decide_eq_true hk0
          go_wp2_with fail
          go_meet
          case rel => exact ⟨rfl, by simp [hk0], rfl⟩
        · have e1 : (a.kind == 0) = false := beq_eq_false_iff_ne.2 hk0
          have e2 : decide (a.kind = 0) = false := decide_eq_false hk0
          go_wp2_with fail
          go_meet
          case rel => exact ⟨rfl, by by_cases h1 : a.kind = 1 <;> simp [hk0, h1], rfl⟩
      case rest =>
      obtain ⟨rfl, rfl, hwx⟩ := hcut
      rw [hwx]
      clear hwx
      obtain ⟨K01, hK01⟩ : ∃ K, decide (a.kind = 0 ∨ a.kind = 1) = K := ⟨_, rfl⟩
      rw [hK01]
      clear hK01
      have hl9 : L.length ≤ 100 := by have := HP2.out.len; omega
      cases K01 with
      | true =>
        as_aux_lemma =>
        have c4 := obegin_ok HP2.out.orc (by omega)
        go_wp2_with fail
        refine c4.mono ?_
        rintro e w3 ⟨rfl, h3, k3⟩
        have HO3 := Lib.hid (h3.perm (List.perm_append_singleton la L).symm)
        have c5 := rbegin_ok (Lib.hid (HP2.out.docKeep k3)) (fun h => h.1 rfl) (fun q hq => HP2.out.fresh (Nat.le_trans k3.size hq)) (by omega)
        have K3 := Lib.hid k3
        clear h3 k3 c4
        go_wp2_with fail
        refine c5.mono ?_
        rintro e w4 ⟨rfl, h4, k4⟩
        have HR4 := Lib.hid (HP2.out.went K3 HO3.out k4 h4 (List.pairwise_append.2 ⟨HP2.out.sorted, List.pairwise_singleton _ _, fun s hs t ht => by rw [List.mem_singleton] at ht; rw [ht]; exact HP2.out.top s hs⟩) (fun s hs => by rcases List.mem_append.1 hs with h | h; exact HP2.out.top s h; rw [List.mem_singleton] at h; rw [h]; exact Int.le_refl _) (by have := HP2.out.len; simp; omega))
        have e9 : (la == la) = true := beq_self_eq_true la
        clear h4 k4 c5
        go_wp2_with fail
        go_meet
        case rel => exact ⟨la, L ++ [la], by simp, HR4⟩
      | false =>
        have u1 : ∀ w', Keep (fun k => k = o ∨ k = b ∨ k = x) w2 w' → w'.cell? ⟨y, 1, none⟩ = some (.int .u64 a.n) := fun w' hk => (World.cell?_of_block (a := ⟨y, 1, none⟩) (hk.block _ HX2.out.lt (fun e => e.elim hyn.1 (fun e => e.elim hyn.2.1 hyn.2.2)))).trans (HX2.out.cell 1)
        have HPd := Lib.hid (HP2.out.below (Below.refl _ _).drew)
        by_cases hk2 : a.kind = 2
        · as_aux_lemma =>
          have e1 : (a.kind == 2) = true := beq_iff_eq.2 hk2
          have e2 : decide (a.kind = 2) = true := decide_eq_true hk2
          obtain ⟨B, hB⟩ : ∃ B, decide (a.n ∈ L) = B := ⟨_, rfl⟩
          have HB := Lib.hid hB
          clear hB
          go_wp2_with fail
          refine wp_region_held_drew (S := fun w' => Keep (fun k => k = o ∨ k = b ∨ k = x) w2 w') (by kernel_rfl) (by first | assumption | exact Keep.refl _ _ | exact keep_drew (Keep.refl _ _)) (fun hHeld => ?_)
          refine wpAnyH_take (i := 0) (v := ?_) rfl (by kernel_rfl) (by kernel_rfl) (by kernel_rfl) (fun _ _ _ h => h) (Or.inl ⟨by first | kernel_rfl | rfl, ?_⟩) (by assumption) ?_
          rotate_left
          · (intro wq hSw; (try dsimp only at hSw); (try simp (maxSteps := 2000000) only [List.getElem_toArray, List.getElem_cons_succ, List.getElem_cons_zero]); go_simp); try with_reducible rfl
          try simp (maxSteps := 2000000) only [List.getElem_toArray, List.getElem_cons_succ, List.getElem_cons_zero, Act.put, List.setIfInBounds_toArray, List.set_cons_zero, List.set_cons_succ]
          refine wpAnyH_take (i := 1) (v := ?_) rfl (by kernel_rfl) (by kernel_rfl) (by kernel_rfl) (fun _ _ _ h => h) (Or.inl ⟨by first | kernel_rfl | rfl, ?_⟩) (by assumption) ?_
          rotate_left
          · (intro wq hSw; (try dsimp only at hSw); (try simp (maxSteps := 2000000) only [List.getElem_toArray, List.getElem_cons_succ, List.getElem_cons_zero]); go_simp); try with_reducible rfl
          try simp (maxSteps := 2000000) only [List.getElem_toArray, List.getElem_cons_succ, List.getElem_cons_zero, Act.put, List.setIfInBounds_toArray, List.set_cons_zero, List.set_cons_succ]
          refine wpAnyH_take (i := 2) (v := ?_) rfl (by kernel_rfl) (by kernel_rfl) (by kernel_rfl) (fun _ _ _ h => h) (Or.inl ⟨by first | kernel_rfl | rfl, ?_⟩) (by assumption) ?_
          rotate_left
          · (intro wq hSw; (try dsimp only at hSw); (try simp (maxSteps := 2000000) only [List.getElem_toArray, List.getElem_cons_succ, List.getElem_cons_zero]); go_simp); try with_reducible rfl
          try simp (maxSteps := 2000000) only [List.getElem_toArray, List.getElem_cons_succ, List.getElem_cons_zero, Act.put, List.setIfInBounds_toArray, List.set_cons_zero, List.set_cons_succ]
          refine wpAnyH_take (i := 4) (v := ?_) rfl (by kernel_rfl) (by kernel_rfl) (by kernel_rfl) (fun _ _ _ h => h) (Or.inl ⟨by first | kernel_rfl | rfl, ?_⟩) (by assumption) ?_
          rotate_left
          · (intro wq hSw; (try dsimp only at hSw); (try simp (maxSteps := 2000000) only [List.getElem_toArray, List.getElem_cons_succ, List.getElem_cons_zero]); go_simp); try with_reducible rfl
          try simp (maxSteps := 2000000) only [List.getElem_toArray, List.getElem_cons_succ, List.getElem_cons_zero, Act.put, List.setIfInBounds_toArray, List.set_cons_zero, List.set_cons_succ]
          refine wpAnyH_take (i := 5) (v := ?_) rfl (by kernel_rfl) (by kernel_rfl) (by kernel_rfl) (fun _ _ _ h => h) (Or.inl ⟨by first | kernel_rfl | rfl, ?_⟩) (by assumption) ?_
          rotate_left
          · (intro wq hSw; (try dsimp only at hSw); (try simp (maxSteps := 2000000) only [List.getElem_toArray, List.getElem_cons_succ, List.getElem_cons_zero]); go_simp); try with_reducible rfl
          try simp (maxSteps := 2000000) only [List.getElem_toArray, List.getElem_cons_succ, List.getElem_cons_zero, Act.put, List.setIfInBounds_toArray, List.set_cons_zero, List.set_cons_succ]
          refine wpAnyH_take (i := 6) (v := ?_) rfl (by kernel_rfl) (by kernel_rfl) (by kernel_rfl) (fun _ _ _ h => h) (Or.inl ⟨by first | kernel_rfl | rfl, ?_⟩) (by assumption) ?_
          rotate_left
          · (intro wq hSw; (try dsimp only at hSw); (try simp (maxSteps := 2000000) only [List.getElem_toArray, List.getElem_cons_succ, List.getElem_cons_zero]); go_simp); try with_reducible rfl
          try simp (maxSteps := 2000000) only [List.getElem_toArray, List.getElem_cons_succ, List.getElem_cons_zero, Act.put, List.setIfInBounds_toArray, List.set_cons_zero, List.set_cons_succ]
          refine wpAnyH_ready (rs := [3]) (by kernel_rfl) (by simp) ?_
          refine AllReadyH.cons rfl (fun K hK => ?_) AllReadyH.nil
          try simp (maxSteps := 2000000) only [List.getElem_toArray, List.getElem_cons_succ, List.getElem_cons_zero]
          go_simp
          have cz := oend_ok a.n HPd.out.orc
          rw [HB.out] at cz
          refine cz.mono ?_
          rintro e w3 ⟨rfl, h3, k3⟩
          have HO3 := Lib.hid h3
          have HD3 := Lib.hid (HPd.out.docKeep k3)
          have kk3 := HPd.out.keep1 k3
          have KK3 := Lib.hid k3
          have hk3 := (keep_drew (Keep.refl _ w2)).trans (G := fun k => k = o ∨ k = b ∨ k = x) kk3 (fun k h _ => h)
          clear h3 k3 cz
          try (go_wp2_with fail)
          refine hK.out _ _ (by first | assumption | exact Keep.refl _ _ | exact keep_drew (Keep.refl _ _)) (fun hHeld => ?_)
          clear hK K
          try simp (maxSteps := 2000000) only [List.getElem_toArray, List.getElem_cons_succ, List.getElem_cons_zero, Act.put, List.setIfInBounds_toArray, List.set_cons_zero, List.set_cons_succ]
          refine wpAnyH_ready (rs := [7]) (by kernel_rfl) (by simp) ?_
          refine AllReadyH.cons rfl (fun K hK => ?_) AllReadyH.nil
          try simp (maxSteps := 2000000) only [List.getElem_toArray, List.getElem_cons_succ, List.getElem_cons_zero]
          go_simp
          have cz := rend_ok a.n HD3 (fun h => h.1 rfl) (fun q hq => HPd.out.fresh (Nat.le_trans KK3.out.size hq))
          rw [HB.out] at cz
          refine cz.mono ?_
          rintro e w4 ⟨rfl, h4, k4⟩
          have HR4 := Lib.hid (HPd.out.went (Lib.hid KK3.out) HO3.out k4 h4 (List.Pairwise.sublist List.erase_sublist HPd.out.sorted) (fun s hs => HPd.out.top s (List.mem_of_mem_erase hs)) (Nat.le_trans (List.length_erase_le) (Nat.le_succ_of_le HPd.out.len)))
          have hk4 := hHeld.trans (G := fun k => k = o ∨ k = b ∨ k = x) (k4.mono (G := fun k => k = o ∨ k = b ∨ k = x) (fun k h _ => .inr (.inr h))) (fun k h _ => h)
          clear h4 k4 cz
          try (go_wp2_with fail)
          refine hK.out _ _ (by first | assumption | exact Keep.refl _ _ | exact keep_drew (Keep.refl _ _)) (fun hHeld => ?_)
          clear hK K
          try simp (maxSteps := 2000000) only [List.getElem_toArray, List.getElem_cons_succ, List.getElem_cons_zero, Act.put, List.setIfInBounds_toArray, List.set_cons_zero, List.set_cons_succ]
          refine wpAnyH_take (i := 8) (v := ?_) rfl (by kernel_rfl) (by kernel_rfl) (by kernel_rfl) (fun _ _ _ h => h) (Or.inl ⟨by first | kernel_rfl | rfl, ?_⟩) (by assumption) ?_
          rotate_left
          · (intro wq hSw; (try dsimp only at hSw); (try simp (maxSteps := 2000000) only [List.getElem_toArray, List.getElem_cons_succ, List.getElem_cons_zero]); go_simp); try with_reducible rfl
          try simp (maxSteps := 2000000) only [List.getElem_toArray, List.getElem_cons_succ, List.getElem_cons_zero, Act.put, List.setIfInBounds_toArray, List.set_cons_zero, List.set_cons_succ]
          refine wpAnyH_take (i := 9) (v := ?_) rfl (by kernel_rfl) (by kernel_rfl) (by kernel_rfl) (fun _ _ _ h => h) (Or.inl ⟨by first | kernel_rfl | rfl, ?_⟩) (by assumption) ?_
          rotate_left
          · (intro wq hSw; (try dsimp only at hSw); (try simp (maxSteps := 2000000) only [List.getElem_toArray, List.getElem_cons_succ, List.getElem_cons_zero]); go_simp); try with_reducible rfl
          try simp (maxSteps := 2000000) only [List.getElem_toArray, List.getElem_cons_succ, List.getElem_cons_zero, Act.put, List.setIfInBounds_toArray, List.set_cons_zero, List.set_cons_succ]
          refine wpAnyH_done (by kernel_rfl) ?_ _
          go_wp2_with fail
          go_meet
          case rel => exact ⟨la, L.erase a.n, by first | rfl | rw [bool_self], HR4⟩
        · have e1 : (a.kind == 2) = false := beq_eq_false_iff_ne.2 hk2
          have e2 : decide (a.kind = 2) = false := decide_eq_false hk2
          by_cases hk3 : a.kind = 3
          · as_aux_lemma =>
            have e3 : (a.kind == 3) = true := beq_iff_eq.2 hk3
            have e4 : decide (a.kind = 3) = true := decide_eq_true hk3
            obtain ⟨r1, r2, r3⟩ := HP2.out.orc.rng
            obtain ⟨nv, ev, hv, hev⟩ := nextV_ex la most
            have c4 := onext_ok HP2.out.orc
            rw [hv] at c4
            have HV := Lib.hid hv
            have HEV := Lib.hid hev
            have e5 : (nv == nv) = true := beq_self_eq_true nv
            have e6 : (ev == ev) = true := beq_self_eq_true ev
            clear hv hev u1
            go_wp2_with fail
            refine c4.mono ?_
            rintro e w3 ⟨rfl, q, hq⟩
            have HP3 := Lib.hid (HP2.out.drewN q)
            rw [← hq] at HP3
            clear hq
            have c5 := rnext_ok HP3.out.doc r2 r1 r3
            rw [HV.out] at c5
            clear c4
            go_wp2_with fail
            refine c5.mono ?_
            rintro e w4 ⟨rfl, q2, hq⟩
            have HP4 := Lib.hid (HP3.out.drewN q2)
            rw [← hq] at HP4
            clear c5 hq
            by_cases hev0 : ev = 0
            · have e7 : (ev != 0) = false := by rw [hev0]; rfl
              have hnv := HEV.out hev0
              have c6 := opub_ok nv HP4.out.orc
              rw [decide_eq_true (show la < nv ∧ nv ≤ most by omega), if_pos (show la < nv ∧ nv ≤ most by omega)] at c6
              have hnl : la ≤ nv := by omega
              have HNV := Lib.hid hnv
              clear hev0 hnv
              go_wp2_with fail
              refine c6.mono ?_
              rintro e w5 ⟨rfl, h5, k5⟩
              have HO5 := Lib.hid h5
              have c7 := rpub_ok nv (HP4.out.docKeep k5) (fun h => h.1 rfl)
              rw [decide_eq_true (show la < nv ∧ nv ≤ most by have := HNV.out; omega), if_pos (show la < nv ∧ nv ≤ most by have := HNV.out; omega)] at c7
              have K5 := Lib.hid k5
              clear h5 k5 c6
              go_wp2_with fail
              refine c7.mono ?_
              rintro e w6 ⟨rfl, h6, k6⟩
              have HR4 := Lib.hid (HP4.out.went K5 HO5.out k6 h6 HP4.out.sorted (fun s hs => Int.le_trans (HP4.out.top s hs) hnl) (by have := HP4.out.len; omega))
              clear h6 k6 c7
              go_wp2_with fail
              go_meet
              case rel => exact ⟨nv, L, by simp, HR4⟩
            · have e7 : (ev != 0) = true := by simp [hev0]
              have HR4 := Lib.hid HP4.out.more
              clear hev0
              go_wp2_with fail
              go_meet
              case rel => exact ⟨la, L, by simp, HR4⟩
          · have e3 : (a.kind == 3) = false := beq_eq_false_iff_ne.2 hk3
            have e4 : decide (a.kind = 3) = false := decide_eq_false hk3
            by_cases hk4 : a.kind = 4
            · as_aux_lemma =>
              have e5 : (a.kind == 4) = true := beq_iff_eq.2 hk4
              have e6 : decide (a.kind = 4) = true := decide_eq_true hk4
              obtain ⟨B, hB⟩ : ∃ B, decide (la < a.n ∧ a.n ≤ most) = B := ⟨_, rfl⟩
              obtain ⟨la', hla'⟩ : ∃ la', (if la < a.n ∧ a.n ≤ most then a.n else la) = la' := ⟨_, rfl⟩
              have hge : la ≤ la' := by rw [← hla']; split <;> omega
              have HB := Lib.hid hB
              have HLA := Lib.hid hla'
              clear hB hla'
              go_wp2_with fail
              refine wp_region_held_drew (S := fun w' => Keep (fun k => k = o ∨ k = b ∨ k = x) w2 w') (by kernel_rfl) (by first | assumption | exact Keep.refl _ _ | exact keep_drew (Keep.refl _ _)) (fun hHeld => ?_)
              refine wpAnyH_take (i := 0) (v := ?_) rfl (by kernel_rfl) (by kernel_rfl) (by kernel_rfl) (fun _ _ _ h => h) (Or.inl ⟨by first | kernel_rfl | rfl, ?_⟩) (by assumption) ?_
              rotate_left
              · (intro wq hSw; (try dsimp only at hSw); (try simp (maxSteps := 2000000) only [List.getElem_toArray, List.getElem_cons_succ, List.getElem_cons_zero]); go_simp); try with_reducible rfl
              try simp (maxSteps := 2000000) only [List.getElem_toArray, List.getElem_cons_succ, List.getElem_cons_zero, Act.put, List.setIfInBounds_toArray, List.set_cons_zero, List.set_cons_succ]
              refine wpAnyH_take (i := 1) (v := ?_) rfl (by kernel_rfl) (by kernel_rfl) (by kernel_rfl) (fun _ _ _ h => h) (Or.inl ⟨by first | kernel_rfl | rfl, ?_⟩) (by assumption) ?_
              rotate_left
              · (intro wq hSw; (try dsimp only at hSw); (try simp (maxSteps := 2000000) only [List.getElem_toArray, List.getElem_cons_succ, List.getElem_cons_zero]); go_simp); try with_reducible rfl
              try simp (maxSteps := 2000000) only [List.getElem_toArray, List.getElem_cons_succ, List.getElem_cons_zero, Act.put, List.setIfInBounds_toArray, List.set_cons_zero, List.set_cons_succ]
              refine wpAnyH_take (i := 2) (v := ?_) rfl (by kernel_rfl) (by kernel_rfl) (by kernel_rfl) (fun _ _ _ h => h) (Or.inl ⟨by first | kernel_rfl | rfl, ?_⟩) (by assumption) ?_
              rotate_left
              · (intro wq hSw; (try dsimp only at hSw); (try simp (maxSteps := 2000000) only [List.getElem_toArray, List.getElem_cons_succ, List.getElem_cons_zero]); go_simp); try with_reducible rfl
              try simp (maxSteps := 2000000) only [List.getElem_toArray, List.getElem_cons_succ, List.getElem_cons_zero, Act.put, List.setIfInBounds_toArray, List.set_cons_zero, List.set_cons_succ]
              refine wpAnyH_take (i := 4) (v := ?_) rfl (by kernel_rfl) (by kernel_rfl) (by kernel_rfl) (fun _ _ _ h => h) (Or.inl ⟨by first | kernel_rfl | rfl, ?_⟩) (by assumption) ?_
              rotate_left
              · (intro wq hSw; (try dsimp only at hSw); (try simp (maxSteps := 2000000) only [List.getElem_toArray, List.getElem_cons_succ, List.getElem_cons_zero]); go_simp); try with_reducible rfl
              try simp (maxSteps := 2000000) only [List.getElem_toArray, List.getElem_cons_succ, List.getElem_cons_zero, Act.put, List.setIfInBounds_toArray, List.set_cons_zero, List.set_cons_succ]
              refine wpAnyH_take (i := 5) (v := ?_) rfl (by kernel_rfl) (by kernel_rfl) (by kernel_rfl) (fun _ _ _ h => h) (Or.inl ⟨by first | kernel_rfl | rfl, ?_⟩) (by assumption) ?_
              rotate_left
              · (intro wq hSw; (try dsimp only at hSw); (try simp (maxSteps := 2000000) only [List.getElem_toArray, List.getElem_cons_succ, List.getElem_cons_zero]); go_simp); try with_reducible rfl
              try simp (maxSteps := 2000000) only [List.getElem_toArray, List.getElem_cons_succ, List.getElem_cons_zero, Act.put, List.setIfInBounds_toArray, List.set_cons_zero, List.set_cons_succ]
              refine wpAnyH_take (i := 6) (v := ?_) rfl (by kernel_rfl) (by kernel_rfl) (by kernel_rfl) (fun _ _ _ h => h) (Or.inl ⟨by first | kernel_rfl | rfl, ?_⟩) (by assumption) ?_
              rotate_left
              · (intro wq hSw; (try dsimp only at hSw); (try simp (maxSteps := 2000000) only [List.getElem_toArray, List.getElem_cons_succ, List.getElem_cons_zero]); go_simp); try with_reducible rfl
              try simp (maxSteps := 2000000) only [List.getElem_toArray, List.getElem_cons_succ, List.getElem_cons_zero, Act.put, List.setIfInBounds_toArray, List.set_cons_zero, List.set_cons_succ]
              refine wpAnyH_ready (rs := [3]) (by kernel_rfl) (by simp) ?_
              refine AllReadyH.cons rfl (fun K hK => ?_) AllReadyH.nil
              try simp (maxSteps := 2000000) only [List.getElem_toArray, List.getElem_cons_succ, List.getElem_cons_zero]
              go_simp
              have cz := opub_ok a.n HPd.out.orc
              rw [HB.out, HLA.out] at cz
              refine cz.mono ?_
              rintro e w3 ⟨rfl, h3, k3⟩
              have HO3 := Lib.hid h3
              have HD3 := Lib.hid (HPd.out.docKeep k3)
              have kk3 := HPd.out.keep1 k3
              have KK3 := Lib.hid k3
              have hk3 := (keep_drew (Keep.refl _ w2)).trans (G := fun k => k = o ∨ k = b ∨ k = x) kk3 (fun k h _ => h)
              clear h3 k3 cz
              try (go_wp2_with fail)
              refine hK.out _ _ (by first | assumption | exact Keep.refl _ _ | exact keep_drew (Keep.refl _ _)) (fun hHeld => ?_)
              clear hK K
              try simp (maxSteps := 2000000) only [List.getElem_toArray, List.getElem_cons_succ, List.getElem_cons_zero, Act.put, List.setIfInBounds_toArray, List.set_cons_zero, List.set_cons_succ]
              refine wpAnyH_ready (rs := [7]) (by kernel_rfl) (by simp) ?_
              refine AllReadyH.cons rfl (fun K hK => ?_) AllReadyH.nil
              try simp (maxSteps := 2000000) only [List.getElem_toArray, List.getElem_cons_succ, List.getElem_cons_zero]
              go_simp
              have cz := rpub_ok a.n HD3.out (fun h => h.1 rfl)
              rw [HB.out, HLA.out] at cz
              refine cz.mono ?_
              rintro e w4 ⟨rfl, h4, k4⟩
              have HR4 := Lib.hid (HPd.out.went (Lib.hid KK3.out) HO3.out k4 h4 HPd.out.sorted (fun s hs => Int.le_trans (HPd.out.top s hs) hge) (Nat.le_succ_of_le HPd.out.len))
              have hk4 := hHeld.trans (G := fun k => k = o ∨ k = b ∨ k = x) (k4.mono (G := fun k => k = o ∨ k = b ∨ k = x) (fun k h _ => .inr (.inr h))) (fun k h _ => h)
              clear h4 k4 cz
              try (go_wp2_with fail)
              refine hK.out _ _ (by first | assumption | exact Keep.refl _ _ | exact keep_drew (Keep.refl _ _)) (fun hHeld => ?_)
              clear hK K
              try simp (maxSteps := 2000000) only [List.getElem_toArray, List.getElem_cons_succ, List.getElem_cons_zero, Act.put, List.setIfInBounds_toArray, List.set_cons_zero, List.set_cons_succ]
              refine wpAnyH_take (i := 8) (v := ?_) rfl (by kernel_rfl) (by kernel_rfl) (by kernel_rfl) (fun _ _ _ h => h) (Or.inl ⟨by first | kernel_rfl | rfl, ?_⟩) (by assumption) ?_
              rotate_left
              · (intro wq hSw; (try dsimp only at hSw); (try simp (maxSteps := 2000000) only [List.getElem_toArray, List.getElem_cons_succ, List.getElem_cons_zero]); go_simp); try with_reducible rfl
              try simp (maxSteps := 2000000) only [List.getElem_toArray, List.getElem_cons_succ, List.getElem_cons_zero, Act.put, List.setIfInBounds_toArray, List.set_cons_zero, List.set_cons_succ]
              refine wpAnyH_take (i := 9) (v := ?_) rfl (by kernel_rfl) (by kernel_rfl) (by kernel_rfl) (fun _ _ _ h => h) (Or.inl ⟨by first | kernel_rfl | rfl, ?_⟩) (by assumption) ?_
              rotate_left
              · (intro wq hSw; (try dsimp only at hSw); (try simp (maxSteps := 2000000) only [List.getElem_toArray, List.getElem_cons_succ, List.getElem_cons_zero]); go_simp); try with_reducible rfl
              try simp (maxSteps := 2000000) only [List.getElem_toArray, List.getElem_cons_succ, List.getElem_cons_zero, Act.put, List.setIfInBounds_toArray, List.set_cons_zero, List.set_cons_succ]
              refine wpAnyH_done (by kernel_rfl) ?_ _
              go_wp2_with fail
              go_meet
              case rel => exact ⟨la', L, by first | rfl | rw [bool_self], HR4⟩
            · have e5 : (a.kind == 4) = false := beq_eq_false_iff_ne.2 hk4
              have e6 : decide (a.kind = 4) = false := decide_eq_false hk4
              have HR4 := Lib.hid HP2.out.more
              clear u1
              go_wp2_with fail
              go_meet
              case rel => exact ⟨la, L, rfl, HR4⟩
    case rest =>
    clear HP2 HX2 j0
    obtain ⟨la2, L2, rfl, HQ⟩ := hcut
    as_aux_lemma =>
    obtain ⟨r1, r2, r3⟩ := HQ.out.orc.rng
    obtain ⟨nv, ev, hv, _⟩ := nextV_ex la2 most
    have c4 := onext_ok HQ.out.orc
    rw [hv] at c4
    have HV := Lib.hid hv
    have e5 : (nv != nv) = false := by simp
    have e6 : (ev != ev) = false := by simp
    have e7 : (la2 != la2) = false := by simp
    have e8 : (most != most) = false := by simp
    clear hv
    go_wp2_with fail
    refine c4.mono ?_
    rintro e w3 ⟨rfl, q, hq⟩
    have HP3 := Lib.hid (HQ.out.drewN q)
    rw [← hq] at HP3
    clear hq
    have c5 := rnext_ok HP3.out.doc r2 r1 r3
    rw [HV.out] at c5
    clear c4
    go_wp2_with fail
    refine c5.mono ?_
    rintro e wl ⟨rfl, q2, hq⟩
    have hp := HP3.out.drewN q2
    rw [← hq] at hp
    clear c5 hq
    have HP := Lib.hid hp
    obtain ⟨AX, cX, hX, _, _⟩ := hp.doc.row
    have hxl := hX.lt
    have u0 : ∀ w', Below wl.heap.size wl w' → w'.cell? ⟨x, 0, none⟩ = some (.int .u64 la2) := fun w' h => (h.cell (p := ⟨x, 0, none⟩) hxl).trans (hX.cell 0)
    have u1 : ∀ w', Below wl.heap.size wl w' → w'.cell? ⟨x, 1, none⟩ = some (.int .u64 most) := fun w' h => (h.cell (p := ⟨x, 1, none⟩) hxl).trans (hX.cell 1)
    have u2 : ∀ w', Below wl.heap.size wl w' → w'.cell? ⟨x, 2, none⟩ = some (.slice AX L2.length cX) := fun w' h => (h.cell (p := ⟨x, 2, none⟩) hxl).trans (hX.cell 2)
    have hh2 := hor_head HP.out.sorted HP.out.top
    obtain ⟨h2, hh⟩ : ∃ h2, hor la2 L2 = h2 := ⟨_, rfl⟩
    rw [hh] at hh2
    have HH := Lib.hid hh
    have HH2 := Lib.hid hh2
    have e9 : (h2 != h2) = false := by simp
    have e10 : ((L2.length : Int) != (L2.length : Int)) = false := by simp
    clear hp hX hh hh2 HP3 HQ HV hxl
    go_wp2_with fail
    refine wp_region_held_drew (S := fun w' => Below wl.heap.size wl w') (by kernel_rfl) (by first | assumption | exact Below.refl _ _ | exact (Below.refl _ _).drew) (fun hHeld => ?_)
    refine wpAnyH_take (i := 0) (v := ?_) rfl (by kernel_rfl) (by kernel_rfl) (by kernel_rfl) (fun _ _ _ h => h) (Or.inl ⟨by first | kernel_rfl | rfl, ?_⟩) (by assumption) ?_
    rotate_left
    · (intro wq hSw; (try dsimp only at hSw); (try simp (maxSteps := 2000000) only [List.getElem_toArray, List.getElem_cons_succ, List.getElem_cons_zero]); go_simp); try with_reducible rfl
    try simp (maxSteps := 2000000) only [List.getElem_toArray, List.getElem_cons_succ, List.getElem_cons_zero, Act.put, List.setIfInBounds_toArray, List.set_cons_zero, List.set_cons_succ]
    refine wpAnyH_take (i := 1) (v := ?_) rfl (by kernel_rfl) (by kernel_rfl) (by kernel_rfl) (fun _ _ _ h => h) (Or.inl ⟨by first | kernel_rfl | rfl, ?_⟩) (by assumption) ?_
    rotate_left
    · (intro wq hSw; (try dsimp only at hSw); (try simp (maxSteps := 2000000) only [List.getElem_toArray, List.getElem_cons_succ, List.getElem_cons_zero]); go_simp); try with_reducible rfl
    try simp (maxSteps := 2000000) only [List.getElem_toArray, List.getElem_cons_succ, List.getElem_cons_zero, Act.put, List.setIfInBounds_toArray, List.set_cons_zero, List.set_cons_succ]
    refine wpAnyH_take (i := 2) (v := ?_) rfl (by kernel_rfl) (by kernel_rfl) (by kernel_rfl) (fun _ _ _ h => h) (Or.inl ⟨by first | kernel_rfl | rfl, ?_⟩) (by assumption) ?_
    rotate_left
    · (intro wq hSw; (try dsimp only at hSw); (try simp (maxSteps := 2000000) only [List.getElem_toArray, List.getElem_cons_succ, List.getElem_cons_zero]); go_simp); try with_reducible rfl
    try simp (maxSteps := 2000000) only [List.getElem_toArray, List.getElem_cons_succ, List.getElem_cons_zero, Act.put, List.setIfInBounds_toArray, List.set_cons_zero, List.set_cons_succ]
    refine wpAnyH_take (i := 3) (v := ?_) rfl (by kernel_rfl) (by kernel_rfl) (by kernel_rfl) (fun _ _ _ h => h) (Or.inl ⟨by first | kernel_rfl | rfl, ?_⟩) (by assumption) ?_
    rotate_left
    · (intro wq hSw; (try dsimp only at hSw); (try simp (maxSteps := 2000000) only [List.getElem_toArray, List.getElem_cons_succ, List.getElem_cons_zero]); go_simp); try with_reducible rfl
    try simp (maxSteps := 2000000) only [List.getElem_toArray, List.getElem_cons_succ, List.getElem_cons_zero, Act.put, List.setIfInBounds_toArray, List.set_cons_zero, List.set_cons_succ]
    refine wpAnyH_take (i := 4) (v := ?_) rfl (by kernel_rfl) (by kernel_rfl) (by kernel_rfl) (fun _ _ _ h => h) (Or.inl ⟨by first | kernel_rfl | rfl, ?_⟩) (by assumption) ?_
    rotate_left
    · (intro wq hSw; (try dsimp only at hSw); (try simp (maxSteps := 2000000) only [List.getElem_toArray, List.getElem_cons_succ, List.getElem_cons_zero]); go_simp); try with_reducible rfl
    try simp (maxSteps := 2000000) only [List.getElem_toArray, List.getElem_cons_succ, List.getElem_cons_zero, Act.put, List.setIfInBounds_toArray, List.set_cons_zero, List.set_cons_succ]
    refine wpAnyH_take (i := 5) (v := ?_) rfl (by kernel_rfl) (by kernel_rfl) (by kernel_rfl) (fun _ _ _ h => h) (Or.inl ⟨by first | kernel_rfl | rfl, ?_⟩) (by assumption) ?_
    rotate_left
    · (intro wq hSw; (try dsimp only at hSw); (try simp (maxSteps := 2000000) only [List.getElem_toArray, List.getElem_cons_succ, List.getElem_cons_zero]); go_simp); try with_reducible rfl
    try simp (maxSteps := 2000000) only [List.getElem_toArray, List.getElem_cons_succ, List.getElem_cons_zero, Act.put, List.setIfInBounds_toArray, List.set_cons_zero, List.set_cons_succ]
    refine wpAnyH_take (i := 6) (v := ?_) rfl (by kernel_rfl) (by kernel_rfl) (by kernel_rfl) (fun _ _ _ h => h) (Or.inl ⟨by first | kernel_rfl | rfl, ?_⟩) (by assumption) ?_
    rotate_left
    · (intro wq hSw; (try dsimp only at hSw); (try simp (maxSteps := 2000000) only [List.getElem_toArray, List.getElem_cons_succ, List.getElem_cons_zero]); go_simp); try with_reducible rfl
    try simp (maxSteps := 2000000) only [List.getElem_toArray, List.getElem_cons_succ, List.getElem_cons_zero, Act.put, List.setIfInBounds_toArray, List.set_cons_zero, List.set_cons_succ]
    refine wpAnyH_take (i := 7) (v := ?_) rfl (by kernel_rfl) (by kernel_rfl) (by kernel_rfl) (fun _ _ _ h => h) (Or.inl ⟨by first | kernel_rfl | rfl, ?_⟩) (by assumption) ?_
    rotate_left
    · (intro wq hSw; (try dsimp only at hSw); (try simp (maxSteps := 2000000) only [List.getElem_toArray, List.getElem_cons_succ, List.getElem_cons_zero]); go_simp); try with_reducible rfl
    try simp (maxSteps := 2000000) only [List.getElem_toArray, List.getElem_cons_succ, List.getElem_cons_zero, Act.put, List.setIfInBounds_toArray, List.set_cons_zero, List.set_cons_succ]
    refine wpAnyH_take (i := 8) (v := ?_) rfl (by kernel_rfl) (by kernel_rfl) (by kernel_rfl) (fun _ _ _ h => h) (Or.inl ⟨by first | kernel_rfl | rfl, ?_⟩) (by assumption) ?_
    rotate_left
    · (intro wq hSw; (try dsimp only at hSw); (try simp (maxSteps := 2000000) only [List.getElem_toArray, List.getElem_cons_succ, List.getElem_cons_zero]); go_simp); try with_reducible rfl
    try simp (maxSteps := 2000000) only [List.getElem_toArray, List.getElem_cons_succ, List.getElem_cons_zero, Act.put, List.setIfInBounds_toArray, List.set_cons_zero, List.set_cons_succ]
    refine wpAnyH_take (i := 9) (v := ?_) rfl (by kernel_rfl) (by kernel_rfl) (by kernel_rfl) (fun _ _ _ h => h) (Or.inl ⟨by first | kernel_rfl | rfl, ?_⟩) (by assumption) ?_
    rotate_left
    · (intro wq hSw; (try dsimp only at hSw); (try simp (maxSteps := 2000000) only [List.getElem_toArray, List.getElem_cons_succ, List.getElem_cons_zero]); go_simp); try with_reducible rfl
    try simp (maxSteps := 2000000) only [List.getElem_toArray, List.getElem_cons_succ, List.getElem_cons_zero, Act.put, List.setIfInBounds_toArray, List.set_cons_zero, List.set_cons_succ]
    refine wpAnyH_take (i := 10) (v := ?_) rfl (by kernel_rfl) (by kernel_rfl) (by kernel_rfl) (fun _ _ _ h => h) (Or.inl ⟨by first | kernel_rfl | rfl, ?_⟩) (by assumption) ?_
    rotate_left
    · (intro wq hSw; (try dsimp only at hSw); (try simp (maxSteps := 2000000) only [List.getElem_toArray, List.getElem_cons_succ, List.getElem_cons_zero]); go_simp); try with_reducible rfl
    try simp (maxSteps := 2000000) only [List.getElem_toArray, List.getElem_cons_succ, List.getElem_cons_zero, Act.put, List.setIfInBounds_toArray, List.set_cons_zero, List.set_cons_succ]
    refine wpAnyH_take (i := 11) (v := ?_) rfl (by kernel_rfl) (by kernel_rfl) (by kernel_rfl) (fun _ _ _ h => h) (Or.inl ⟨by first | kernel_rfl | rfl, ?_⟩) (by assumption) ?_
    rotate_left
    · (intro wq hSw; (try dsimp only at hSw); (try simp (maxSteps := 2000000) only [List.getElem_toArray, List.getElem_cons_succ, List.getElem_cons_zero]); go_simp); try with_reducible rfl
    try simp (maxSteps := 2000000) only [List.getElem_toArray, List.getElem_cons_succ, List.getElem_cons_zero, Act.put, List.setIfInBounds_toArray, List.set_cons_zero, List.set_cons_succ]
    refine wpAnyH_take (i := 12) (v := ?_) rfl (by kernel_rfl) (by kernel_rfl) (by kernel_rfl) (fun _ _ _ h => h) (Or.inl ⟨by first | kernel_rfl | rfl, ?_⟩) (by assumption) ?_
    rotate_left
    · (intro wq hSw; (try dsimp only at hSw); (try simp (maxSteps := 2000000) only [List.getElem_toArray, List.getElem_cons_succ, List.getElem_cons_zero]); go_simp); try with_reducible rfl
    try simp (maxSteps := 2000000) only [List.getElem_toArray, List.getElem_cons_succ, List.getElem_cons_zero, Act.put, List.setIfInBounds_toArray, List.set_cons_zero, List.set_cons_succ]
    refine wpAnyH_take (i := 13) (v := ?_) rfl (by kernel_rfl) (by kernel_rfl) (by kernel_rfl) (fun _ _ _ h => h) (Or.inl ⟨by first | kernel_rfl | rfl, ?_⟩) (by assumption) ?_
    rotate_left
    · (intro wq hSw; (try dsimp only at hSw); (try simp (maxSteps := 2000000) only [List.getElem_toArray, List.getElem_cons_succ, List.getElem_cons_zero]); go_simp); try with_reducible rfl
    try simp (maxSteps := 2000000) only [List.getElem_toArray, List.getElem_cons_succ, List.getElem_cons_zero, Act.put, List.setIfInBounds_toArray, List.set_cons_zero, List.set_cons_succ]
    refine wpAnyH_take (i := 15) (v := ?_) rfl (by kernel_rfl) (by kernel_rfl) (by kernel_rfl) (fun _ _ _ h => h) (Or.inl ⟨by first | kernel_rfl | rfl, ?_⟩) (by assumption) ?_
    rotate_left
    · (intro wq hSw; (try dsimp only at hSw); (try simp (maxSteps := 2000000) only [List.getElem_toArray, List.getElem_cons_succ, List.getElem_cons_zero]); go_simp); try with_reducible rfl
    try simp (maxSteps := 2000000) only [List.getElem_toArray, List.getElem_cons_succ, List.getElem_cons_zero, Act.put, List.setIfInBounds_toArray, List.set_cons_zero, List.set_cons_succ]
    refine wpAnyH_take (i := 16) (v := ?_) rfl (by kernel_rfl) (by kernel_rfl) (by kernel_rfl) (fun _ _ _ h => h) (Or.inl ⟨by first | kernel_rfl | rfl, ?_⟩) (by assumption) ?_
    rotate_left
    · (intro wq hSw; (try dsimp only at hSw); (try simp (maxSteps := 2000000) only [List.getElem_toArray, List.getElem_cons_succ, List.getElem_cons_zero]); go_simp); try with_reducible rfl
    try simp (maxSteps := 2000000) only [List.getElem_toArray, List.getElem_cons_succ, List.getElem_cons_zero, Act.put, List.setIfInBounds_toArray, List.set_cons_zero, List.set_cons_succ]
    refine wpAnyH_take (i := 17) (v := ?_) rfl (by kernel_rfl) (by kernel_rfl) (by kernel_rfl) (fun _ _ _ h => h) (Or.inl ⟨by first | kernel_rfl | rfl, ?_⟩) (by assumption) ?_
    rotate_left
    · (intro wq hSw; (try dsimp only at hSw); (try simp (maxSteps := 2000000) only [List.getElem_toArray, List.getElem_cons_succ, List.getElem_cons_zero]); go_simp); try with_reducible rfl
    try simp (maxSteps := 2000000) only [List.getElem_toArray, List.getElem_cons_succ, List.getElem_cons_zero, Act.put, List.setIfInBounds_toArray, List.set_cons_zero, List.set_cons_succ]
    refine wpAnyH_take (i := 18) (v := ?_) rfl (by kernel_rfl) (by kernel_rfl) (by kernel_rfl) (fun _ _ _ h => h) (Or.inl ⟨by first | kernel_rfl | rfl, ?_⟩) (by assumption) ?_
    rotate_left
    · (intro wq hSw; (try dsimp only at hSw); (try simp (maxSteps := 2000000) only [List.getElem_toArray, List.getElem_cons_succ, List.getElem_cons_zero]); go_simp); try with_reducible rfl
    try simp (maxSteps := 2000000) only [List.getElem_toArray, List.getElem_cons_succ, List.getElem_cons_zero, Act.put, List.setIfInBounds_toArray, List.set_cons_zero, List.set_cons_succ]
    refine wpAnyH_ready (rs := [14]) (by kernel_rfl) (by simp) ?_
    refine AllReadyH.cons rfl (fun K hK => ?_) AllReadyH.nil
    try simp (maxSteps := 2000000) only [List.getElem_toArray, List.getElem_cons_succ, List.getElem_cons_zero]
    go_simp
    refine (olast_ok (HP.out.below hHeld).orc).mono ?_
    rintro e w9 ⟨rfl, h9⟩
    replace h9 := h9.symm
    subst h9
    try (go_wp2_with fail)
    refine hK.out _ _ (by first | assumption | exact Below.refl _ _ | exact (Below.refl _ _).drew) (fun hHeld => ?_)
    clear hK K
    try simp (maxSteps := 2000000) only [List.getElem_toArray, List.getElem_cons_succ, List.getElem_cons_zero, Act.put, List.setIfInBounds_toArray, List.set_cons_zero, List.set_cons_succ]
    refine wpAnyH_take (i := 19) (v := ?_) rfl (by kernel_rfl) (by kernel_rfl) (by kernel_rfl) (fun _ _ _ h => h) (Or.inl ⟨by first | kernel_rfl | rfl, ?_⟩) (by assumption) ?_
    rotate_left
    · (intro wq hSw; (try dsimp only at hSw); (try simp (maxSteps := 2000000) only [List.getElem_toArray, List.getElem_cons_succ, List.getElem_cons_zero]); go_simp); try with_reducible rfl
    try simp (maxSteps := 2000000) only [List.getElem_toArray, List.getElem_cons_succ, List.getElem_cons_zero, Act.put, List.setIfInBounds_toArray, List.set_cons_zero, List.set_cons_succ]
    refine wpAnyH_take (i := 20) (v := ?_) rfl (by kernel_rfl) (by kernel_rfl) (by kernel_rfl) (fun _ _ _ h => h) (Or.inl ⟨by first | kernel_rfl | rfl, ?_⟩) (by assumption) ?_
    rotate_left
    · (intro wq hSw; (try dsimp only at hSw); (try simp (maxSteps := 2000000) only [List.getElem_toArray, List.getElem_cons_succ, List.getElem_cons_zero]); go_simp); try with_reducible rfl
    try simp (maxSteps := 2000000) only [List.getElem_toArray, List.getElem_cons_succ, List.getElem_cons_zero, Act.put, List.setIfInBounds_toArray, List.set_cons_zero, List.set_cons_succ]
    refine wpAnyH_take (i := 21) (v := ?_) rfl (by kernel_rfl) (by kernel_rfl) (by kernel_rfl) (fun _ _ _ h => h) (Or.inl ⟨by first | kernel_rfl | rfl, ?_⟩) (by assumption) ?_
    rotate_left
    · (intro wq hSw; (try dsimp only at hSw); (try simp (maxSteps := 2000000) only [List.getElem_toArray, List.getElem_cons_succ, List.getElem_cons_zero]); go_simp); try with_reducible rfl
    try simp (maxSteps := 2000000) only [List.getElem_toArray, List.getElem_cons_succ, List.getElem_cons_zero, Act.put, List.setIfInBounds_toArray, List.set_cons_zero, List.set_cons_succ]
    refine wpAnyH_take (i := 22) (v := ?_) rfl (by kernel_rfl) (by kernel_rfl) (by kernel_rfl) (fun _ _ _ h => h) (Or.inl ⟨by first | kernel_rfl | rfl, ?_⟩) (by assumption) ?_
    rotate_left
    · (intro wq hSw; (try dsimp only at hSw); (try simp (maxSteps := 2000000) only [List.getElem_toArray, List.getElem_cons_succ, List.getElem_cons_zero]); go_simp); try with_reducible rfl
    try simp (maxSteps := 2000000) only [List.getElem_toArray, List.getElem_cons_succ, List.getElem_cons_zero, Act.put, List.setIfInBounds_toArray, List.set_cons_zero, List.set_cons_succ]
    refine wpAnyH_take (i := 24) (v := ?_) rfl (by kernel_rfl) (by kernel_rfl) (by kernel_rfl) (fun _ _ _ h => h) (Or.inl ⟨by first | kernel_rfl | rfl, ?_⟩) (by assumption) ?_
    rotate_left
    · (intro wq hSw; (try dsimp only at hSw); (try simp (maxSteps := 2000000) only [List.getElem_toArray, List.getElem_cons_succ, List.getElem_cons_zero]); go_simp); try with_reducible rfl
    try simp (maxSteps := 2000000) only [List.getElem_toArray, List.getElem_cons_succ, List.getElem_cons_zero, Act.put, List.setIfInBounds_toArray, List.set_cons_zero, List.set_cons_succ]
    refine wpAnyH_take (i := 25) (v := ?_) rfl (by kernel_rfl) (by kernel_rfl) (by kernel_rfl) (fun _ _ _ h => h) (Or.inl ⟨by first | kernel_rfl | rfl, ?_⟩) (by assumption) ?_
    rotate_left
    · (intro wq hSw; (try dsimp only at hSw); (try simp (maxSteps := 2000000) only [List.getElem_toArray, List.getElem_cons_succ, List.getElem_cons_zero]); go_simp); try with_reducible rfl
    try simp (maxSteps := 2000000) only [List.getElem_toArray, List.getElem_cons_succ, List.getElem_cons_zero, Act.put, List.setIfInBounds_toArray, List.set_cons_zero, List.set_cons_succ]
    refine wpAnyH_take (i := 26) (v := ?_) rfl (by kernel_rfl) (by kernel_rfl) (by kernel_rfl) (fun _ _ _ h => h) (Or.inl ⟨by first | kernel_rfl | rfl, ?_⟩) (by assumption) ?_
    rotate_left
    · (intro wq hSw; (try dsimp only at hSw); (try simp (maxSteps := 2000000) only [List.getElem_toArray, List.getElem_cons_succ, List.getElem_cons_zero]); go_simp); try with_reducible rfl
    try simp (maxSteps := 2000000) only [List.getElem_toArray, List.getElem_cons_succ, List.getElem_cons_zero, Act.put, List.setIfInBounds_toArray, List.set_cons_zero, List.set_cons_succ]
    refine wpAnyH_take (i := 27) (v := ?_) rfl (by kernel_rfl) (by kernel_rfl) (by kernel_rfl) (fun _ _ _ h => h) (Or.inl ⟨by first | kernel_rfl | rfl, ?_⟩) (by assumption) ?_
    rotate_left
    · (intro wq hSw; (try dsimp only at hSw); (try simp (maxSteps := 2000000) only [List.getElem_toArray, List.getElem_cons_succ, List.getElem_cons_zero]); go_simp); try with_reducible rfl
    try simp (maxSteps := 2000000) only [List.getElem_toArray, List.getElem_cons_succ, List.getElem_cons_zero, Act.put, List.setIfInBounds_toArray, List.set_cons_zero, List.set_cons_succ]
    refine wpAnyH_ready (rs := [23]) (by kernel_rfl) (by simp) ?_
    refine AllReadyH.cons rfl (fun K hK => ?_) AllReadyH.nil
    try simp (maxSteps := 2000000) only [List.getElem_toArray, List.getElem_cons_succ, List.getElem_cons_zero]
    go_simp
    refine (omost_ok (HP.out.below hHeld).orc).mono ?_
    rintro e w9 ⟨rfl, h9⟩
    replace h9 := h9.symm
    subst h9
    try (go_wp2_with fail)
    refine hK.out _ _ (by first | assumption | exact Below.refl _ _ | exact (Below.refl _ _).drew) (fun hHeld => ?_)
    clear hK K
    try simp (maxSteps := 2000000) only [List.getElem_toArray, List.getElem_cons_succ, List.getElem_cons_zero, Act.put, List.setIfInBounds_toArray, List.set_cons_zero, List.set_cons_succ]
    refine wpAnyH_take (i := 28) (v := ?_) rfl (by kernel_rfl) (by kernel_rfl) (by kernel_rfl) (fun _ _ _ h => h) (Or.inl ⟨by first | kernel_rfl | rfl, ?_⟩) (by assumption) ?_
    rotate_left
    · (intro wq hSw; (try dsimp only at hSw); (try simp (maxSteps := 2000000) only [List.getElem_toArray, List.getElem_cons_succ, List.getElem_cons_zero]); go_simp); try with_reducible rfl
    try simp (maxSteps := 2000000) only [List.getElem_toArray, List.getElem_cons_succ, List.getElem_cons_zero, Act.put, List.setIfInBounds_toArray, List.set_cons_zero, List.set_cons_succ]
    refine wpAnyH_take (i := 29) (v := ?_) rfl (by kernel_rfl) (by kernel_rfl) (by kernel_rfl) (fun _ _ _ h => h) (Or.inl ⟨by first | kernel_rfl | rfl, ?_⟩) (by assumption) ?_
    rotate_left
    · (intro wq hSw; (try dsimp only at hSw); (try simp (maxSteps := 2000000) only [List.getElem_toArray, List.getElem_cons_succ, List.getElem_cons_zero]); go_simp); try with_reducible rfl
    try simp (maxSteps := 2000000) only [List.getElem_toArray, List.getElem_cons_succ, List.getElem_cons_zero, Act.put, List.setIfInBounds_toArray, List.set_cons_zero, List.set_cons_succ]
    refine wpAnyH_take (i := 30) (v := ?_) rfl (by kernel_rfl) (by kernel_rfl) (by kernel_rfl) (fun _ _ _ h => h) (Or.inl ⟨by first | kernel_rfl | rfl, ?_⟩) (by assumption) ?_
    rotate_left
    · (intro wq hSw; (try dsimp only at hSw); (try simp (maxSteps := 2000000) only [List.getElem_toArray, List.getElem_cons_succ, List.getElem_cons_zero]); go_simp); try with_reducible rfl
    try simp (maxSteps := 2000000) only [List.getElem_toArray, List.getElem_cons_succ, List.getElem_cons_zero, Act.put, List.setIfInBounds_toArray, List.set_cons_zero, List.set_cons_succ]
    refine wpAnyH_take (i := 31) (v := ?_) rfl (by kernel_rfl) (by kernel_rfl) (by kernel_rfl) (fun _ _ _ h => h) (Or.inl ⟨by first | kernel_rfl | rfl, ?_⟩) (by assumption) ?_
    rotate_left
    · (intro wq hSw; (try dsimp only at hSw); (try simp (maxSteps := 2000000) only [List.getElem_toArray, List.getElem_cons_succ, List.getElem_cons_zero]); go_simp); try with_reducible rfl
    try simp (maxSteps := 2000000) only [List.getElem_toArray, List.getElem_cons_succ, List.getElem_cons_zero, Act.put, List.setIfInBounds_toArray, List.set_cons_zero, List.set_cons_succ]
    refine wpAnyH_take (i := 33) (v := ?_) rfl (by kernel_rfl) (by kernel_rfl) (by kernel_rfl) (fun _ _ _ h => h) (Or.inl ⟨by first | kernel_rfl | rfl, ?_⟩) (by assumption) ?_
    rotate_left
    · (intro wq hSw; (try dsimp only at hSw); (try simp (maxSteps := 2000000) only [List.getElem_toArray, List.getElem_cons_succ, List.getElem_cons_zero]); go_simp); try with_reducible rfl
    try simp (maxSteps := 2000000) only [List.getElem_toArray, List.getElem_cons_succ, List.getElem_cons_zero, Act.put, List.setIfInBounds_toArray, List.set_cons_zero, List.set_cons_succ]
    refine wpAnyH_take (i := 34) (v := ?_) rfl (by kernel_rfl) (by kernel_rfl) (by kernel_rfl) (fun _ _ _ h => h) (Or.inl ⟨by first | kernel_rfl | rfl, ?_⟩) (by assumption) ?_
    rotate_left
    · (intro wq hSw; (try dsimp only at hSw); (try simp (maxSteps := 2000000) only [List.getElem_toArray, List.getElem_cons_succ, List.getElem_cons_zero]); go_simp); try with_reducible rfl
    try simp (maxSteps := 2000000) only [List.getElem_toArray, List.getElem_cons_succ, List.getElem_cons_zero, Act.put, List.setIfInBounds_toArray, List.set_cons_zero, List.set_cons_succ]
    refine wpAnyH_take (i := 35) (v := ?_) rfl (by kernel_rfl) (by kernel_rfl) (by kernel_rfl) (fun _ _ _ h => h) (Or.inl ⟨by first | kernel_rfl | rfl, ?_⟩) (by assumption) ?_
    rotate_left
    · (intro wq hSw; (try dsimp only at hSw); (try simp (maxSteps := 2000000) only [List.getElem_toArray, List.getElem_cons_succ, List.getElem_cons_zero]); go_simp); try with_reducible rfl
    try simp (maxSteps := 2000000) only [List.getElem_toArray, List.getElem_cons_succ, List.getElem_cons_zero, Act.put, List.setIfInBounds_toArray, List.set_cons_zero, List.set_cons_succ]
    refine wpAnyH_take (i := 36) (v := ?_) rfl (by kernel_rfl) (by kernel_rfl) (by kernel_rfl) (fun _ _ _ h => h) (Or.inl ⟨by first | kernel_rfl | rfl, ?_⟩) (by assumption) ?_
    rotate_left
    · (intro wq hSw; (try dsimp only at hSw); (try simp (maxSteps := 2000000) only [List.getElem_toArray, List.getElem_cons_succ, List.getElem_cons_zero]); go_simp); try with_reducible rfl
    try simp (maxSteps := 2000000) only [List.getElem_toArray, List.getElem_cons_succ, List.getElem_cons_zero, Act.put, List.setIfInBounds_toArray, List.set_cons_zero, List.set_cons_succ]
    refine wpAnyH_take (i := 37) (v := ?_) rfl (by kernel_rfl) (by kernel_rfl) (by kernel_rfl) (fun _ _ _ h => h) (Or.inl ⟨by first | kernel_rfl | rfl, ?_⟩) (by assumption) ?_
    rotate_left
    · (intro wq hSw; (try dsimp only at hSw); (try simp (maxSteps := 2000000) only [List.getElem_toArray, List.getElem_cons_succ, List.getElem_cons_zero]); go_simp); try with_reducible rfl
    try simp (maxSteps := 2000000) only [List.getElem_toArray, List.getElem_cons_succ, List.getElem_cons_zero, Act.put, List.setIfInBounds_toArray, List.set_cons_zero, List.set_cons_succ]
    refine wpAnyH_ready (rs := [32]) (by kernel_rfl) (by simp) ?_
    refine AllReadyH.cons rfl (fun K hK => ?_) AllReadyH.nil
    try simp (maxSteps := 2000000) only [List.getElem_toArray, List.getElem_cons_succ, List.getElem_cons_zero]
    go_simp
    refine (oopen_ok (HP.out.below hHeld).orc).mono ?_
    rintro e w9 ⟨rfl, h9⟩
    replace h9 := h9.symm
    subst h9
    try (go_wp2_with fail)
    refine hK.out _ _ (by first | assumption | exact Below.refl _ _ | exact (Below.refl _ _).drew) (fun hHeld => ?_)
    clear hK K
    try simp (maxSteps := 2000000) only [List.getElem_toArray, List.getElem_cons_succ, List.getElem_cons_zero, Act.put, List.setIfInBounds_toArray, List.set_cons_zero, List.set_cons_succ]
    refine wpAnyH_take (i := 38) (v := ?_) rfl (by kernel_rfl) (by kernel_rfl) (by kernel_rfl) (fun _ _ _ h => h) (Or.inl ⟨by first | kernel_rfl | rfl, ?_⟩) (by assumption) ?_
    rotate_left
    · (intro wq hSw; (try dsimp only at hSw); (try simp (maxSteps := 2000000) only [List.getElem_toArray, List.getElem_cons_succ, List.getElem_cons_zero]); go_simp); try with_reducible rfl
    try simp (maxSteps := 2000000) only [List.getElem_toArray, List.getElem_cons_succ, List.getElem_cons_zero, Act.put, List.setIfInBounds_toArray, List.set_cons_zero, List.set_cons_succ]
    refine wpAnyH_take (i := 39) (v := ?_) rfl (by kernel_rfl) (by kernel_rfl) (by kernel_rfl) (fun _ _ _ h => h) (Or.inl ⟨by first | kernel_rfl | rfl, ?_⟩) (by assumption) ?_
    rotate_left
    · (intro wq hSw; (try dsimp only at hSw); (try simp (maxSteps := 2000000) only [List.getElem_toArray, List.getElem_cons_succ, List.getElem_cons_zero]); go_simp); try with_reducible rfl
    try simp (maxSteps := 2000000) only [List.getElem_toArray, List.getElem_cons_succ, List.getElem_cons_zero, Act.put, List.setIfInBounds_toArray, List.set_cons_zero, List.set_cons_succ]
    refine wpAnyH_take (i := 40) (v := ?_) rfl (by kernel_rfl) (by kernel_rfl) (by kernel_rfl) (fun _ _ _ h => h) (Or.inl ⟨by first | kernel_rfl | rfl, ?_⟩) (by assumption) ?_
    rotate_left
    · (intro wq hSw; (try dsimp only at hSw); (try simp (maxSteps := 2000000) only [List.getElem_toArray, List.getElem_cons_succ, List.getElem_cons_zero]); go_simp); try with_reducible rfl
    try simp (maxSteps := 2000000) only [List.getElem_toArray, List.getElem_cons_succ, List.getElem_cons_zero, Act.put, List.setIfInBounds_toArray, List.set_cons_zero, List.set_cons_succ]
    refine wpAnyH_take (i := 41) (v := ?_) rfl (by kernel_rfl) (by kernel_rfl) (by kernel_rfl) (fun _ _ _ h => h) (Or.inl ⟨by first | kernel_rfl | rfl, ?_⟩) (by assumption) ?_
    rotate_left
    · (intro wq hSw; (try dsimp only at hSw); (try simp (maxSteps := 2000000) only [List.getElem_toArray, List.getElem_cons_succ, List.getElem_cons_zero]); go_simp); try with_reducible rfl
    try simp (maxSteps := 2000000) only [List.getElem_toArray, List.getElem_cons_succ, List.getElem_cons_zero, Act.put, List.setIfInBounds_toArray, List.set_cons_zero, List.set_cons_succ]
    refine wpAnyH_take (i := 43) (v := ?_) rfl (by kernel_rfl) (by kernel_rfl) (by kernel_rfl) (fun _ _ _ h => h) (Or.inl ⟨by first | kernel_rfl | rfl, ?_⟩) (by assumption) ?_
    rotate_left
    · (intro wq hSw; (try dsimp only at hSw); (try simp (maxSteps := 2000000) only [List.getElem_toArray, List.getElem_cons_succ, List.getElem_cons_zero]); go_simp); try with_reducible rfl
    try simp (maxSteps := 2000000) only [List.getElem_toArray, List.getElem_cons_succ, List.getElem_cons_zero, Act.put, List.setIfInBounds_toArray, List.set_cons_zero, List.set_cons_succ]
    refine wpAnyH_ready (rs := [42]) (by kernel_rfl) (by simp) ?_
    refine AllReadyH.cons rfl (fun K hK => ?_) AllReadyH.nil
    try simp (maxSteps := 2000000) only [List.getElem_toArray, List.getElem_cons_succ, List.getElem_cons_zero]
    go_simp
    refine (ostarts_ok (xs := dd L2) (HP.out.below hHeld).orc (dd_rises L2 HP.out.sorted) (dd_mem L2)).mono ?_
    rintro e wa ⟨Aa, ca, rfl, ra, ta⟩
    have RA := Lib.hid ra
    have HA := Lib.hid (below_then ta hHeld)
    have ha2 := HA.out
    clear ra ta
    try (go_wp2_with fail)
    refine hK.out _ _ (by first | assumption | exact Below.refl _ _ | exact (Below.refl _ _).drew) (fun hHeld => ?_)
    clear hK K
    try simp (maxSteps := 2000000) only [List.getElem_toArray, List.getElem_cons_succ, List.getElem_cons_zero, Act.put, List.setIfInBounds_toArray, List.set_cons_zero, List.set_cons_succ]
    refine wpAnyH_ready (rs := [44]) (by kernel_rfl) (by simp) ?_
    refine AllReadyH.cons rfl (fun K hK => ?_) AllReadyH.nil
    try simp (maxSteps := 2000000) only [List.getElem_toArray, List.getElem_cons_succ, List.getElem_cons_zero]
    go_simp
    refine (rstarts_ok (Lib.hid (HP.out.below hHeld).doc)).mono ?_
    rintro e wb ⟨Ab, cb, rfl, rb, tb⟩
    have RB := Lib.hid rb
    have RA2 := Lib.hid (RA.out.below U64R.stable tb)
    have HB := Lib.hid (below_then tb hHeld)
    have hb2 := HB.out
    clear rb tb
    try (go_wp2_with fail)
    refine hK.out _ _ (by first | assumption | exact Below.refl _ _ | exact (Below.refl _ _).drew) (fun hHeld => ?_)
    clear hK K
    try simp (maxSteps := 2000000) only [List.getElem_toArray, List.getElem_cons_succ, List.getElem_cons_zero, Act.put, List.setIfInBounds_toArray, List.set_cons_zero, List.set_cons_succ]
    refine wpAnyH_ready (rs := [45]) (by kernel_rfl) (by simp) ?_
    refine AllReadyH.cons rfl (fun K hK => ?_) AllReadyH.nil
    try simp (maxSteps := 2000000) only [List.getElem_toArray, List.getElem_cons_succ, List.getElem_cons_zero]
    go_simp
    refine (usame_ok RA2 RB (Nat.le_trans (dd_len L2) HP.out.orc.len)).mono ?_
    rintro e wc ⟨rfl, tc⟩
    have HC := Lib.hid (below_then tc hHeld)
    have hc2 := HC.out
    clear tc
    try (go_wp2_with fail)
    refine hK.out _ _ (by first | assumption | exact Below.refl _ _ | exact (Below.refl _ _).drew) (fun hHeld => ?_)
    clear hK K
    try simp (maxSteps := 2000000) only [List.getElem_toArray, List.getElem_cons_succ, List.getElem_cons_zero, Act.put, List.setIfInBounds_toArray, List.set_cons_zero, List.set_cons_succ]
    refine wpAnyH_take (i := 46) (v := ?_) rfl (by kernel_rfl) (by kernel_rfl) (by kernel_rfl) (fun _ _ _ h => h) (Or.inl ⟨by first | kernel_rfl | rfl, ?_⟩) (by assumption) ?_
    rotate_left
    · (intro wq hSw; (try dsimp only at hSw); (try simp (maxSteps := 2000000) only [List.getElem_toArray, List.getElem_cons_succ, List.getElem_cons_zero]); go_simp); try with_reducible rfl
    try simp (maxSteps := 2000000) only [List.getElem_toArray, List.getElem_cons_succ, List.getElem_cons_zero, Act.put, List.setIfInBounds_toArray, List.set_cons_zero, List.set_cons_succ]
    refine wpAnyH_take (i := 47) (v := ?_) rfl (by kernel_rfl) (by kernel_rfl) (by kernel_rfl) (fun _ _ _ h => h) (Or.inl ⟨by first | kernel_rfl | rfl, ?_⟩) (by assumption) ?_
    rotate_left
    · (intro wq hSw; (try dsimp only at hSw); (try simp (maxSteps := 2000000) only [List.getElem_toArray, List.getElem_cons_succ, List.getElem_cons_zero]); go_simp); try with_reducible rfl
    try simp (maxSteps := 2000000) only [List.getElem_toArray, List.getElem_cons_succ, List.getElem_cons_zero, Act.put, List.setIfInBounds_toArray, List.set_cons_zero, List.set_cons_succ]
    refine wpAnyH_take (i := 48) (v := ?_) rfl (by kernel_rfl) (by kernel_rfl) (by kernel_rfl) (fun _ _ _ h => h) (Or.inl ⟨by first | kernel_rfl | rfl, ?_⟩) (by assumption) ?_
    rotate_left
    · (intro wq hSw; (try dsimp only at hSw); (try simp (maxSteps := 2000000) only [List.getElem_toArray, List.getElem_cons_succ, List.getElem_cons_zero]); go_simp); try with_reducible rfl
    try simp (maxSteps := 2000000) only [List.getElem_toArray, List.getElem_cons_succ, List.getElem_cons_zero, Act.put, List.setIfInBounds_toArray, List.set_cons_zero, List.set_cons_succ]
    refine wpAnyH_take (i := 49) (v := ?_) rfl (by kernel_rfl) (by kernel_rfl) (by kernel_rfl) (fun _ _ _ h => h) (Or.inl ⟨by first | kernel_rfl | rfl, ?_⟩) (by assumption) ?_
    rotate_left
    · (intro wq hSw; (try dsimp only at hSw); (try simp (maxSteps := 2000000) only [List.getElem_toArray, List.getElem_cons_succ, List.getElem_cons_zero]); go_simp); try with_reducible rfl
    try simp (maxSteps := 2000000) only [List.getElem_toArray, List.getElem_cons_succ, List.getElem_cons_zero, Act.put, List.setIfInBounds_toArray, List.set_cons_zero, List.set_cons_succ]
    refine wpAnyH_take (i := 51) (v := ?_) rfl (by kernel_rfl) (by kernel_rfl) (by kernel_rfl) (fun _ _ _ h => h) (Or.inl ⟨by first | kernel_rfl | rfl, ?_⟩) (by assumption) ?_
    rotate_left
    · (intro wq hSw; (try dsimp only at hSw); (try simp (maxSteps := 2000000) only [List.getElem_toArray, List.getElem_cons_succ, List.getElem_cons_zero]); go_simp); try with_reducible rfl
    try simp (maxSteps := 2000000) only [List.getElem_toArray, List.getElem_cons_succ, List.getElem_cons_zero, Act.put, List.setIfInBounds_toArray, List.set_cons_zero, List.set_cons_succ]
    refine wpAnyH_ready (rs := [50]) (by kernel_rfl) (by simp) ?_
    refine AllReadyH.cons rfl (fun K hK => ?_) AllReadyH.nil
    try simp (maxSteps := 2000000) only [List.getElem_toArray, List.getElem_cons_succ, List.getElem_cons_zero]
    go_simp
    have c50 := ohor_any (HP.out.below hHeld).orc
    rw [HH.out] at c50
    refine c50.mono ?_
    rintro e wd ⟨rfl, td⟩
    have HD := Lib.hid (below_then td hHeld)
    have hd2 := HD.out
    clear td c50
    try (go_wp2_with fail)
    refine hK.out _ _ (by first | assumption | exact Below.refl _ _ | exact (Below.refl _ _).drew) (fun hHeld => ?_)
    clear hK K
    try simp (maxSteps := 2000000) only [List.getElem_toArray, List.getElem_cons_succ, List.getElem_cons_zero, Act.put, List.setIfInBounds_toArray, List.set_cons_zero, List.set_cons_succ]
    refine wpAnyH_ready (rs := [52]) (by kernel_rfl) (by simp) ?_
    refine AllReadyH.cons rfl (fun K hK => ?_) AllReadyH.nil
    try simp (maxSteps := 2000000) only [List.getElem_toArray, List.getElem_cons_succ, List.getElem_cons_zero]
    go_simp
    have c52 := rhor_ok (HP.out.below hHeld).doc
    rw [HH2.out] at c52
    refine c52.mono ?_
    rintro e w9 ⟨rfl, h9⟩
    replace h9 := h9.symm
    subst h9
    clear c52
    try (go_wp2_with fail)
    refine hK.out _ _ (by first | assumption | exact Below.refl _ _ | exact (Below.refl _ _).drew) (fun hHeld => ?_)
    clear hK K
    try simp (maxSteps := 2000000) only [List.getElem_toArray, List.getElem_cons_succ, List.getElem_cons_zero, Act.put, List.setIfInBounds_toArray, List.set_cons_zero, List.set_cons_succ]
    refine wpAnyH_take (i := 53) (v := ?_) rfl (by kernel_rfl) (by kernel_rfl) (by kernel_rfl) (fun _ _ _ h => h) (Or.inl ⟨by first | kernel_rfl | rfl, ?_⟩) (by assumption) ?_
    rotate_left
    · (intro wq hSw; (try dsimp only at hSw); (try simp (maxSteps := 2000000) only [List.getElem_toArray, List.getElem_cons_succ, List.getElem_cons_zero]); go_simp); try with_reducible rfl
    try simp (maxSteps := 2000000) only [List.getElem_toArray, List.getElem_cons_succ, List.getElem_cons_zero, Act.put, List.setIfInBounds_toArray, List.set_cons_zero, List.set_cons_succ]
    refine wpAnyH_take (i := 54) (v := ?_) rfl (by kernel_rfl) (by kernel_rfl) (by kernel_rfl) (fun _ _ _ h => h) (Or.inl ⟨by first | kernel_rfl | rfl, ?_⟩) (by assumption) ?_
    rotate_left
    · (intro wq hSw; (try dsimp only at hSw); (try simp (maxSteps := 2000000) only [List.getElem_toArray, List.getElem_cons_succ, List.getElem_cons_zero]); go_simp); try with_reducible rfl
    try simp (maxSteps := 2000000) only [List.getElem_toArray, List.getElem_cons_succ, List.getElem_cons_zero, Act.put, List.setIfInBounds_toArray, List.set_cons_zero, List.set_cons_succ]
    refine wpAnyH_done (by kernel_rfl) ?_ _
    clear u0 u1 u2
    go_wp2_with fail
    exact ⟨⟨i + 1, la2, L2, by omega, by go_num, Lib.hid (HP.out.below hHeld)⟩, by simp [intOf]; omega⟩
end Go.Proofs.Ytpibaahiboajhaa
