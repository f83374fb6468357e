/-
  ChainSees: the walk.
-/
import Derived.Test.YtnceaimhhfjmdaaPlain22c
set_option linter.unusedSimpArgs false
set_option linter.unusedVariables false
namespace Go.Proofs.Ytnceaimhhfjmdaa
open Go.RowKit Go.Cib
attribute [local go_sem] cell_set Later.cell Later.frozen Grw.cell Grw.frozen

theorem u64_at {S : Nat → Prop} {w : World} {b o n : Nat} {xs : List Int} (h : RdL U64R 1 S w (some ⟨b, o, none⟩) n xs) {k : Nat} (hk : k < n) :
    ∃ x, xs[k]? = some x ∧ w.cell? ⟨b, o + k, none⟩ = some (.int .u64 x) := by
  obtain ⟨hl, cs, hcs, hu, hcell⟩ := h.at hk
  exact ⟨xs[k], List.getElem?_eq_getElem hl, by have := hcell 0 (.int .u64 xs[k]) (by rw [hu]; rfl); simpa only [Nat.mul_one, Nat.add_zero] using this⟩

theorem sl_u64 : SlTy Try.prog 61 41 (.int .u64 0) 1 8 := ⟨by kernel_rfl, by kernel_rfl, rfl, by decide⟩

/-- The values at each of alls. -/
def SeesAt (l k : List Ver) (alls : List Int) : Prop := ∀ s ∈ alls, valueL k s = valueL l s

theorem sees_starts {l : List Ver} {starts : List Int} (h : rightL l = true) : SeesAt l (sel (keepP l starts) 0 l) starts := fun s hs => kept_value h (.inl hs)
theorem sees_more {l : List Ver} {starts : List Int} {x : Ver} {y : Int} (h : rightL l = true) (hx : l[0]? = some x) (hy : x.stamp ≤ y) : SeesAt l (sel (keepP l starts) 0 l) (starts ++ [y]) := by
  intro s hs
  rcases List.mem_append.1 hs with hs | hs
  · exact kept_value h (.inl hs)
  · obtain rfl : s = y := by simpa using hs
    cases l with
    | nil => simp at hx
    | cons v r =>
      obtain rfl : v = x := by simpa using hx
      exact kept_value h (.inr ⟨v, r, rfl, hy⟩)

set_option maxRecDepth 100000 in
set_option maxHeartbeats 4000000 in
theorem chainSees_any {l : List Ver} {starts : List Int} {late : Int} (A A2 : Option Addr) (n c n2 c2 : Nat) (w : World) (hn : n ≤ 9223372036854775807) (hn2 : n2 ≤ 9223372036854775807) (hr : Hid (RdL VerR 5 (fun _ => True) w A n l)) (hr2 : Hid (RdL U64R 1 (fun _ => True) w A2 n2 starts)) :
    Calls Try.prog 7 #[.slice A n c, .slice A2 n2 c2, .int .u64 late] w fun e w' => e = .returned (.bool true) ∧ Below w.heap.size w w' := by
  go_enter Try.func7, Try.ntmps7
  go_wp2_with fail
  refine (few_any 0 A n c _ hn hr).mono ?_
  rintro e w1 ⟨b, rfl, hb, t1⟩
  have HB := Lib.hid hb; clear hb
  have R1 := Lib.hid (hr.out.below VerR.stable t1)
  have Q1 := Lib.hid (hr2.out.below U64R.stable t1)
  cases b
  · go_wp2_with (go_at_call 21; refine (chains_any _).mono ?_; rintro e w2 ⟨rfl, h2⟩)
    go_ret
    exact ⟨rfl, t1.trans (h2.mono t1.size)⟩
  obtain ⟨hn60, hsm⟩ := HB.out rfl
  have HS := Lib.hid hsm; clear hsm HB
  by_cases h40 : 40 < n2
  · go_wp2_with (go_at_call 21; refine (chains_any _).mono ?_; rintro e w2 ⟨rfl, h2⟩)
    go_ret
    exact ⟨rfl, t1.trans (h2.mono t1.size)⟩
  go_wp2_with fail
  refine (right_any A n c _ (by omega) R1).mono ?_
  rintro e w2 ⟨rfl, h2⟩
  have t2 := t1.trans (h2.mono t1.size)
  have R2 := Lib.hid (R1.out.below VerR.stable h2)
  have Q2 := Lib.hid (Q1.out.below U64R.stable h2)
  clear t1 h2 R1 Q1
  cases hright : rightL l
  · clear hright
    go_wp2_with (go_at_call 21; refine (chains_any _).mono ?_; rintro e w2 ⟨rfl, h2⟩)
    go_ret
    exact ⟨rfl, t2.trans (h2.mono t2.size)⟩
  have HR := Lib.hid hright; clear hright
  go_wp2_with fail
  refine (prune_any A A2 n c n2 c2 _ (by omega) (by omega) R2 HS.out Q2).mono ?_
  rintro e w3 ⟨A3, n3, c3, A4, n4, c4, rfl, r3, _, r4, _, h3⟩
  have t3 := t2.trans (h3.mono t2.size)
  have R3 := Lib.hid (R2.out.below VerR.stable h3)
  have Q3 := Lib.hid (Q2.out.below U64R.stable h3)
  have K3 := Lib.hid r3; have D3 := Lib.hid r4
  have hlen : n3 + n4 = n := by have h1 := sel_lens (keepP l starts) l 0; have h2 := r3.1; have h3 := r4.1; have h4 := R3.out.1; omega
  clear t2 h3 R2 Q2 r3 r4
  have flen : ((n3 : Int) + (n4 : Int)) = (n : Int) := by omega
  go_wp2_with fail
  refine (right_any A3 n3 c3 _ (by omega) K3).mono ?_
  rw [right_sel HR.out]
  rintro e w4 ⟨rfl, h4⟩
  go_wp2_with fail
  refine (right_any A4 n4 c4 _ (by omega) (Lib.hid (D3.out.below VerR.stable h4))).mono ?_
  rw [right_sel HR.out]
  rintro e w5 ⟨rfl, h5⟩
  have h45 := h4.trans (h5.mono h4.size)
  have t5 := t3.trans (h45.mono t3.size)
  have R5 := Lib.hid (R3.out.below VerR.stable h45)
  have Q5 := Lib.hid (Q3.out.below U64R.stable h45)
  have K5 := Lib.hid (K3.out.below VerR.stable h45)
  clear t3 h4 h5 h45 R3 Q3 K3 D3
  have hk3 : n3 ≤ n := by omega
  clear flen hlen
  by_cases h0 : 0 < n
  · obtain ⟨b, o, rfl, _, hb0⟩ := R5.out.addr h0
    obtain ⟨x, A7, m7, c7, hx, _, _, e0, _, _, _, _⟩ := vers_at R5.out h0
    simp only [Nat.zero_mul, Nat.add_zero] at e0
    have HX := Lib.hid hx; clear hx
    by_cases hmx : late < x.stamp
    · go_wp2_with (at_builtin; first | (refine wpList_appL U64R.stable U64R.one sl_u64 rfl rfl (base := w5.heap.size) (S := fun b => b < w5.heap.size) (n := 0) (v := .slice none 0 0) (xs := []) rfl OwnL.nil_ rfl Q5.out (fun _ _ h => h) (by unfold maxLen; omega) (by omega) (Nat.le_refl _) ?_; intro A6 c6 w6 hc6 hown hg hat; simp only [Nat.zero_add, List.nil_append] at hown hat hc6; have h60 : Below w5.heap.size w5 w6 := (by obtain ⟨y, rfl⟩ := Later.of_grown hg; exact y.ok); have e6 := (h60.cell (p := ⟨b, o, none⟩) hb0).trans e0) | (refine wpList_push1 U64R.stable U64R.one sl_u64 rfl rfl (by exact rfl) (by exact rfl) hown rfl rfl (by unfold maxLen; omega) (by omega) h60.size ?_; intro A8 c8 u hc8 hown8 hus hub hat8; have h6 := h60.trans hub))
      obtain ⟨W8, hW8⟩ : ∃ W8, u.to = W8 := ⟨_, rfl⟩
      rw [hW8] at hown8 h6 ⊢
      obtain ⟨_, _, e, _, q8⟩ := hown8.rd (S' := fun _ => True) (fun _ _ => trivial) (fun cs x h => h)
      injection e with e1 e2 e3
      subst e1; subst e3
      have HL := Lib.hid (sees_more (starts := starts) HR.out HX.out (Int.le_refl _))
      have Q8 := Lib.hid q8
      clear hown hown8 hg hat q8 h60 hub hat8 e6 e0 hus HX hW8 e2
      have T8 := t5.trans (h6.mono t5.size)
      have R8 := Lib.hid (R5.out.below VerR.stable h6)
      have S8 := Lib.hid (Q5.out.below U64R.stable h6)
      have K8 := Lib.hid (K5.out.below VerR.stable h6)
      clear t5 h6 R5 Q5 K5
      go_loopw [10, 11, 12, 13, 14] (fun vi _ _ _ _ wr => ∃ k : Nat, k ≤ (n2 + 1) ∧ vi = .int .i64 k ∧ Below W8.heap.size W8 wr) (fun vi _ _ _ _ _ => (n2 + 1) - (intOf vi).toNat)
      case atStart => exact ⟨0, Nat.zero_le _, rfl, Below.refl _ _⟩
      case round =>
        obtain ⟨k, hk, rfl, hb⟩ := hrel
        have hbs := hb.size
        have t9 := T8.trans (hb.mono T8.size)
        by_cases hlt : k < (n2 + 1)
        · obtain ⟨b9, o9, rfl, _, hb9⟩ := Q8.out.addr hlt
          obtain ⟨s9, hs9, e9⟩ := u64_at (Q8.out.below U64R.stable hb) hlt
          have H9 := Lib.hid (HL.out s9 (List.mem_of_getElem? hs9))
          have g9 : b9 < wr.heap.size := by omega
          have R9 := Lib.hid (R8.out.below VerR.stable hb)
          have K9 := Lib.hid (K8.out.below VerR.stable hb)
          have KS := Lib.hid (small_sel HS.out (keepP l starts) 0)
          have SV := Lib.hid (small_value HS.out s9)
          clear hs9
          go_wp2_with fail
          refine (value_any _ n c s9 _ (by omega) R9 HS.out).mono ?_
          obtain ⟨y, hy⟩ : ∃ y, (valueL l s9).getD .none_ = y := ⟨_, rfl⟩
          obtain ⟨g, hg⟩ : ∃ g, (valueL l s9).isSome = g := ⟨_, rfl⟩
          rw [hy, hg]
          rw [hy] at SV
          have HY := Lib.hid hy; have HG := Lib.hid hg
          clear hy hg
          rintro e w10 ⟨v10, rfl, ⟨A10, n10, c10, rfl, hnc10, r10⟩, h10⟩
          have t10 := hb.trans (h10.mono hbs)
          have e10 := (h10.cell (p := ⟨b9, o9 + k, none⟩) g9).trans e9
          have K10 := Lib.hid (K9.out.below VerR.stable h10)
          have V10 := Lib.hid r10
          have g10 : b9 < w10.heap.size := by have := h10.size; omega
          clear h10 r10 K9 R9 e9
          go_wp2_with fail
          have hq : Below w10.heap.size w10 (w10.alloc (.cells #[.slice A10 n10 c10, .int .u64 y.gen, .int .i64 y.size] 44)) := (by repeat (first | (with_reducible exact Below.refl _ _) | (with_reducible assumption) | (with_reducible refine Below.drew ?_) | (with_reducible refine Below.setCell ?_ ?_ _) | (with_reducible refine Below.alloc ?_ ?_ _) | (with_reducible refine Below.later ?_ ?_ _) | (first | (with_reducible exact Nat.le_refl _) | omega | (simp only [World.size_alloc, World.size_setCell, World.size_drew] <;> omega))))
          refine (value_any A3 n3 c3 s9 _ (by omega) (Lib.hid (K10.out.alloc VerR.stable _)) KS.out).mono ?_
          rw [H9.out, HY.out, HG.out]
          rintro e w11 ⟨v11, rfl, ⟨A11, n11, c11, rfl, hnc11, r11⟩, h11⟩
          have t11 := t10.trans ((hq.trans (h11.mono hq.size)).mono t10.size)
          have V11 := Lib.hid ((V10.out.alloc IntR.stable _).below IntR.stable h11)
          have U11 := Lib.hid r11
          have C11 := (BoxAt.new w10 _ 44).below h11
          have hqq : Below w11.heap.size w11 (w11.alloc (.cells #[.slice A11 n11 c11, .int .u64 y.gen, .int .i64 y.size] 44)) := (by repeat (first | (with_reducible exact Below.refl _ _) | (with_reducible assumption) | (with_reducible refine Below.drew ?_) | (with_reducible refine Below.setCell ?_ ?_ _) | (with_reducible refine Below.alloc ?_ ?_ _) | (with_reducible refine Below.later ?_ ?_ _) | (first | (with_reducible exact Nat.le_refl _) | omega | (simp only [World.size_alloc, World.size_setCell, World.size_drew] <;> omega))))
          clear t10 h11 r11 K10 V10 hq e10 g10 H9 HY HG
          have k0 := C11.cell 0; have k1 := C11.cell 1; have k2 := C11.cell 2; have k5 := C11.lt
          simp only [List.getElem?_toArray, List.getElem?_cons_zero, List.getElem?_cons_succ] at k0 k1 k2
          go_wp2_with fail
          refine (blobSame_any (x := y) (y := y) (v := true) A10 A11 n10 c10 n11 c11 _ (by rw [← V11.out.1]; exact SV.out) (Lib.hid (V11.out.alloc IntR.stable _)) (Lib.hid (U11.out.alloc IntR.stable _)) (Lib.hid (blob_same_refl _))).mono ?_
          rintro e w12 ⟨rfl, h12⟩
          have t12 := t11.trans ((hqq.trans (h12.mono hqq.size)).mono t11.size)
          clear k0 k1 k2 k5 hqq h12 C11 V11 U11 t11
          go_wp2_with fail
          exact ⟨⟨k + 1, by omega, by go_num, t12⟩, by simp [intOf]; omega⟩
        · have R9 := Lib.hid (R8.out.below VerR.stable hb)
          have K9 := Lib.hid (K8.out.below VerR.stable hb)
          have S9 := Lib.hid (S8.out.below U64R.stable hb)
          have KS := Lib.hid (small_sel HS.out (keepP l starts) 0)
          clear T8 R8 K8 S8 Q8
          go_wp2_with fail
          refine (prune_any A3 A2 n3 c3 n2 c2 _ (by omega) (by omega) K9 KS.out S9).mono ?_
          rw [again_eq HR.out, again_none HR.out]
          rintro e w10 ⟨A10, n10, c10, A11, n11, c11, rfl, r10, _, r11, _, h10⟩
          obtain rfl : n11 = 0 := r11.1.symm
          have t10 := t9.trans (h10.mono t9.size)
          have K10 := Lib.hid (K9.out.below VerR.stable h10)
          have M10 := Lib.hid r10
          have hn10 : n10 ≤ 65536 := by rw [← M10.out.1, K10.out.1]; omega
          clear h10 r10 r11 K9 R9 S9 t9
          go_wp2_with fail
          refine (sameAll_any (v := true) A10 A3 n10 c10 n3 c3 _ hn10 M10 K10 KS.out (Lib.hid (sameAll_iff.2 rfl))).mono ?_
          rintro e w11 ⟨rfl, h11⟩
          have t11 := t10.trans (h11.mono t10.size)
          clear t10 h11 M10 K10
          go_wp2_with (go_at_call 21; refine (chains_any _).mono ?_; rintro e w12 ⟨rfl, h12⟩)
          go_ret
          exact ⟨rfl, t11.trans (h12.mono t11.size)⟩
    · go_wp2_with (at_builtin; first | (refine wpList_appL U64R.stable U64R.one sl_u64 rfl rfl (base := w5.heap.size) (S := fun b => b < w5.heap.size) (n := 0) (v := .slice none 0 0) (xs := []) rfl OwnL.nil_ rfl Q5.out (fun _ _ h => h) (by unfold maxLen; omega) (by omega) (Nat.le_refl _) ?_; intro A6 c6 w6 hc6 hown hg hat; simp only [Nat.zero_add, List.nil_append] at hown hat hc6; have h60 : Below w5.heap.size w5 w6 := (by obtain ⟨y, rfl⟩ := Later.of_grown hg; exact y.ok); have e6 := (h60.cell (p := ⟨b, o, none⟩) hb0).trans e0) | (refine wpList_push1 U64R.stable U64R.one sl_u64 rfl rfl (by exact rfl) (by exact rfl) hown rfl rfl (by unfold maxLen; omega) (by omega) h60.size ?_; intro A8 c8 u hc8 hown8 hus hub hat8; have h6 := h60.trans hub))
      obtain ⟨W8, hW8⟩ : ∃ W8, u.to = W8 := ⟨_, rfl⟩
      rw [hW8] at hown8 h6 ⊢
      obtain ⟨_, _, e, _, q8⟩ := hown8.rd (S' := fun _ => True) (fun _ _ => trivial) (fun cs x h => h)
      injection e with e1 e2 e3
      subst e1; subst e3
      have HL := Lib.hid (sees_more (starts := starts) (y := late) HR.out HX.out (by omega))
      have Q8 := Lib.hid q8
      clear hown hown8 hg hat q8 h60 hub hat8 e6 e0 hus HX hW8 e2
      have T8 := t5.trans (h6.mono t5.size)
      have R8 := Lib.hid (R5.out.below VerR.stable h6)
      have S8 := Lib.hid (Q5.out.below U64R.stable h6)
      have K8 := Lib.hid (K5.out.below VerR.stable h6)
      clear t5 h6 R5 Q5 K5
      go_loopw [10, 11, 12, 13, 14] (fun vi _ _ _ _ wr => ∃ k : Nat, k ≤ (n2 + 1) ∧ vi = .int .i64 k ∧ Below W8.heap.size W8 wr) (fun vi _ _ _ _ _ => (n2 + 1) - (intOf vi).toNat)
      case atStart => exact ⟨0, Nat.zero_le _, rfl, Below.refl _ _⟩
      case round =>
        obtain ⟨k, hk, rfl, hb⟩ := hrel
        have hbs := hb.size
        have t9 := T8.trans (hb.mono T8.size)
        by_cases hlt : k < (n2 + 1)
        · obtain ⟨b9, o9, rfl, _, hb9⟩ := Q8.out.addr hlt
          obtain ⟨s9, hs9, e9⟩ := u64_at (Q8.out.below U64R.stable hb) hlt
          have H9 := Lib.hid (HL.out s9 (List.mem_of_getElem? hs9))
          have g9 : b9 < wr.heap.size := by omega
          have R9 := Lib.hid (R8.out.below VerR.stable hb)
          have K9 := Lib.hid (K8.out.below VerR.stable hb)
          have KS := Lib.hid (small_sel HS.out (keepP l starts) 0)
          have SV := Lib.hid (small_value HS.out s9)
          clear hs9
          go_wp2_with fail
          refine (value_any _ n c s9 _ (by omega) R9 HS.out).mono ?_
          obtain ⟨y, hy⟩ : ∃ y, (valueL l s9).getD .none_ = y := ⟨_, rfl⟩
          obtain ⟨g, hg⟩ : ∃ g, (valueL l s9).isSome = g := ⟨_, rfl⟩
          rw [hy, hg]
          rw [hy] at SV
          have HY := Lib.hid hy; have HG := Lib.hid hg
          clear hy hg
          rintro e w10 ⟨v10, rfl, ⟨A10, n10, c10, rfl, hnc10, r10⟩, h10⟩
          have t10 := hb.trans (h10.mono hbs)
          have e10 := (h10.cell (p := ⟨b9, o9 + k, none⟩) g9).trans e9
          have K10 := Lib.hid (K9.out.below VerR.stable h10)
          have V10 := Lib.hid r10
          have g10 : b9 < w10.heap.size := by have := h10.size; omega
          clear h10 r10 K9 R9 e9
          go_wp2_with fail
          have hq : Below w10.heap.size w10 (w10.alloc (.cells #[.slice A10 n10 c10, .int .u64 y.gen, .int .i64 y.size] 44)) := (by repeat (first | (with_reducible exact Below.refl _ _) | (with_reducible assumption) | (with_reducible refine Below.drew ?_) | (with_reducible refine Below.setCell ?_ ?_ _) | (with_reducible refine Below.alloc ?_ ?_ _) | (with_reducible refine Below.later ?_ ?_ _) | (first | (with_reducible exact Nat.le_refl _) | omega | (simp only [World.size_alloc, World.size_setCell, World.size_drew] <;> omega))))
          refine (value_any A3 n3 c3 s9 _ (by omega) (Lib.hid (K10.out.alloc VerR.stable _)) KS.out).mono ?_
          rw [H9.out, HY.out, HG.out]
          rintro e w11 ⟨v11, rfl, ⟨A11, n11, c11, rfl, hnc11, r11⟩, h11⟩
          have t11 := t10.trans ((hq.trans (h11.mono hq.size)).mono t10.size)
          have V11 := Lib.hid ((V10.out.alloc IntR.stable _).below IntR.stable h11)
          have U11 := Lib.hid r11
          have C11 := (BoxAt.new w10 _ 44).below h11
          have hqq : Below w11.heap.size w11 (w11.alloc (.cells #[.slice A11 n11 c11, .int .u64 y.gen, .int .i64 y.size] 44)) := (by repeat (first | (with_reducible exact Below.refl _ _) | (with_reducible assumption) | (with_reducible refine Below.drew ?_) | (with_reducible refine Below.setCell ?_ ?_ _) | (with_reducible refine Below.alloc ?_ ?_ _) | (with_reducible refine Below.later ?_ ?_ _) | (first | (with_reducible exact Nat.le_refl _) | omega | (simp only [World.size_alloc, World.size_setCell, World.size_drew] <;> omega))))
          clear t10 h11 r11 K10 V10 hq e10 g10 H9 HY HG
          have k0 := C11.cell 0; have k1 := C11.cell 1; have k2 := C11.cell 2; have k5 := C11.lt
          simp only [List.getElem?_toArray, List.getElem?_cons_zero, List.getElem?_cons_succ] at k0 k1 k2
          go_wp2_with fail
          refine (blobSame_any (x := y) (y := y) (v := true) A10 A11 n10 c10 n11 c11 _ (by rw [← V11.out.1]; exact SV.out) (Lib.hid (V11.out.alloc IntR.stable _)) (Lib.hid (U11.out.alloc IntR.stable _)) (Lib.hid (blob_same_refl _))).mono ?_
          rintro e w12 ⟨rfl, h12⟩
          have t12 := t11.trans ((hqq.trans (h12.mono hqq.size)).mono t11.size)
          clear k0 k1 k2 k5 hqq h12 C11 V11 U11 t11
          go_wp2_with fail
          exact ⟨⟨k + 1, by omega, by go_num, t12⟩, by simp [intOf]; omega⟩
        · have R9 := Lib.hid (R8.out.below VerR.stable hb)
          have K9 := Lib.hid (K8.out.below VerR.stable hb)
          have S9 := Lib.hid (S8.out.below U64R.stable hb)
          have KS := Lib.hid (small_sel HS.out (keepP l starts) 0)
          clear T8 R8 K8 S8 Q8
          go_wp2_with fail
          refine (prune_any A3 A2 n3 c3 n2 c2 _ (by omega) (by omega) K9 KS.out S9).mono ?_
          rw [again_eq HR.out, again_none HR.out]
          rintro e w10 ⟨A10, n10, c10, A11, n11, c11, rfl, r10, _, r11, _, h10⟩
          obtain rfl : n11 = 0 := r11.1.symm
          have t10 := t9.trans (h10.mono t9.size)
          have K10 := Lib.hid (K9.out.below VerR.stable h10)
          have M10 := Lib.hid r10
          have hn10 : n10 ≤ 65536 := by rw [← M10.out.1, K10.out.1]; omega
          clear h10 r10 r11 K9 R9 S9 t9
          go_wp2_with fail
          refine (sameAll_any (v := true) A10 A3 n10 c10 n3 c3 _ hn10 M10 K10 KS.out (Lib.hid (sameAll_iff.2 rfl))).mono ?_
          rintro e w11 ⟨rfl, h11⟩
          have t11 := t10.trans (h11.mono t10.size)
          clear t10 h11 M10 K10
          go_wp2_with (go_at_call 21; refine (chains_any _).mono ?_; rintro e w12 ⟨rfl, h12⟩)
          go_ret
          exact ⟨rfl, t11.trans (h12.mono t11.size)⟩
  · have hz : decide (0 < n) = false := by simpa using h0
    have H0 := Lib.hid h0; clear h0
    go_wp2_with (at_builtin; refine wpList_appL U64R.stable U64R.one sl_u64 rfl rfl (base := w5.heap.size) (S := fun b => b < w5.heap.size) (n := 0) (v := .slice none 0 0) (xs := []) rfl OwnL.nil_ rfl Q5.out (fun _ _ h => h) (by unfold maxLen; omega) (by omega) (Nat.le_refl _) ?_; intro A8 c8 W8 hc8 hown hg hat; simp only [Nat.zero_add, List.nil_append] at hown hat hc8; have h6 : Below w5.heap.size w5 W8 := (by obtain ⟨y, rfl⟩ := Later.of_grown hg; exact y.ok))
    obtain ⟨_, _, e, _, q8⟩ := hown.rd (S' := fun _ => True) (fun _ _ => trivial) (fun cs x h => h)
    injection e with e1 e2 e3
    subst e1; subst e3
    have HL := Lib.hid (sees_starts (starts := starts) HR.out)
    have Q8 := Lib.hid q8
    clear hown hg hat q8 e2
    have T8 := t5.trans (h6.mono t5.size)
    have R8 := Lib.hid (R5.out.below VerR.stable h6)
    have S8 := Lib.hid (Q5.out.below U64R.stable h6)
    have K8 := Lib.hid (K5.out.below VerR.stable h6)
    clear t5 h6 R5 Q5 K5
    go_loopw [10, 11, 12, 13, 14] (fun vi _ _ _ _ wr => ∃ k : Nat, k ≤ n2 ∧ vi = .int .i64 k ∧ Below W8.heap.size W8 wr) (fun vi _ _ _ _ _ => (n2) - (intOf vi).toNat)
    case atStart => exact ⟨0, Nat.zero_le _, rfl, Below.refl _ _⟩
    case round =>
      obtain ⟨k, hk, rfl, hb⟩ := hrel
      have hbs := hb.size
      have t9 := T8.trans (hb.mono T8.size)
      by_cases hlt : k < n2
      · obtain ⟨b9, o9, rfl, _, hb9⟩ := Q8.out.addr hlt
        obtain ⟨s9, hs9, e9⟩ := u64_at (Q8.out.below U64R.stable hb) hlt
        have H9 := Lib.hid (HL.out s9 (List.mem_of_getElem? hs9))
        have g9 : b9 < wr.heap.size := by omega
        have R9 := Lib.hid (R8.out.below VerR.stable hb)
        have K9 := Lib.hid (K8.out.below VerR.stable hb)
        have KS := Lib.hid (small_sel HS.out (keepP l starts) 0)
        have SV := Lib.hid (small_value HS.out s9)
        clear hs9
        go_wp2_with fail
        refine (value_any _ n c s9 _ (by omega) R9 HS.out).mono ?_
        obtain ⟨y, hy⟩ : ∃ y, (valueL l s9).getD .none_ = y := ⟨_, rfl⟩
        obtain ⟨g, hg⟩ : ∃ g, (valueL l s9).isSome = g := ⟨_, rfl⟩
        rw [hy, hg]
        rw [hy] at SV
        have HY := Lib.hid hy; have HG := Lib.hid hg
        clear hy hg
        rintro e w10 ⟨v10, rfl, ⟨A10, n10, c10, rfl, hnc10, r10⟩, h10⟩
        have t10 := hb.trans (h10.mono hbs)
        have e10 := (h10.cell (p := ⟨b9, o9 + k, none⟩) g9).trans e9
        have K10 := Lib.hid (K9.out.below VerR.stable h10)
        have V10 := Lib.hid r10
        have g10 : b9 < w10.heap.size := by have := h10.size; omega
        clear h10 r10 K9 R9 e9
        go_wp2_with fail
        have hq : Below w10.heap.size w10 (w10.alloc (.cells #[.slice A10 n10 c10, .int .u64 y.gen, .int .i64 y.size] 44)) := (by repeat (first | (with_reducible exact Below.refl _ _) | (with_reducible assumption) | (with_reducible refine Below.drew ?_) | (with_reducible refine Below.setCell ?_ ?_ _) | (with_reducible refine Below.alloc ?_ ?_ _) | (with_reducible refine Below.later ?_ ?_ _) | (first | (with_reducible exact Nat.le_refl _) | omega | (simp only [World.size_alloc, World.size_setCell, World.size_drew] <;> omega))))
        refine (value_any A3 n3 c3 s9 _ (by omega) (Lib.hid (K10.out.alloc VerR.stable _)) KS.out).mono ?_
        rw [H9.out, HY.out, HG.out]
        rintro e w11 ⟨v11, rfl, ⟨A11, n11, c11, rfl, hnc11, r11⟩, h11⟩
        have t11 := t10.trans ((hq.trans (h11.mono hq.size)).mono t10.size)
        have V11 := Lib.hid ((V10.out.alloc IntR.stable _).below IntR.stable h11)
        have U11 := Lib.hid r11
        have C11 := (BoxAt.new w10 _ 44).below h11
        have hqq : Below w11.heap.size w11 (w11.alloc (.cells #[.slice A11 n11 c11, .int .u64 y.gen, .int .i64 y.size] 44)) := (by repeat (first | (with_reducible exact Below.refl _ _) | (with_reducible assumption) | (with_reducible refine Below.drew ?_) | (with_reducible refine Below.setCell ?_ ?_ _) | (with_reducible refine Below.alloc ?_ ?_ _) | (with_reducible refine Below.later ?_ ?_ _) | (first | (with_reducible exact Nat.le_refl _) | omega | (simp only [World.size_alloc, World.size_setCell, World.size_drew] <;> omega))))
        clear t10 h11 r11 K10 V10 hq e10 g10 H9 HY HG
        have k0 := C11.cell 0; have k1 := C11.cell 1; have k2 := C11.cell 2; have k5 := C11.lt
        simp only [List.getElem?_toArray, List.getElem?_cons_zero, List.getElem?_cons_succ] at k0 k1 k2
        go_wp2_with fail
        refine (blobSame_any (x := y) (y := y) (v := true) A10 A11 n10 c10 n11 c11 _ (by rw [← V11.out.1]; exact SV.out) (Lib.hid (V11.out.alloc IntR.stable _)) (Lib.hid (U11.out.alloc IntR.stable _)) (Lib.hid (blob_same_refl _))).mono ?_
        rintro e w12 ⟨rfl, h12⟩
        have t12 := t11.trans ((hqq.trans (h12.mono hqq.size)).mono t11.size)
        clear k0 k1 k2 k5 hqq h12 C11 V11 U11 t11
        go_wp2_with fail
        exact ⟨⟨k + 1, by omega, by go_num, t12⟩, by simp [intOf]; omega⟩
      · have R9 := Lib.hid (R8.out.below VerR.stable hb)
        have K9 := Lib.hid (K8.out.below VerR.stable hb)
        have S9 := Lib.hid (S8.out.below U64R.stable hb)
        have KS := Lib.hid (small_sel HS.out (keepP l starts) 0)
        clear T8 R8 K8 S8 Q8
        go_wp2_with fail
        refine (prune_any A3 A2 n3 c3 n2 c2 _ (by omega) (by omega) K9 KS.out S9).mono ?_
        rw [again_eq HR.out, again_none HR.out]
        rintro e w10 ⟨A10, n10, c10, A11, n11, c11, rfl, r10, _, r11, _, h10⟩
        obtain rfl : n11 = 0 := r11.1.symm
        have t10 := t9.trans (h10.mono t9.size)
        have K10 := Lib.hid (K9.out.below VerR.stable h10)
        have M10 := Lib.hid r10
        have hn10 : n10 ≤ 65536 := by rw [← M10.out.1, K10.out.1]; omega
        clear h10 r10 r11 K9 R9 S9 t9
        go_wp2_with fail
        refine (sameAll_any (v := true) A10 A3 n10 c10 n3 c3 _ hn10 M10 K10 KS.out (Lib.hid (sameAll_iff.2 rfl))).mono ?_
        rintro e w11 ⟨rfl, h11⟩
        have t11 := t10.trans (h11.mono t10.size)
        clear t10 h11 M10 K10
        go_wp2_with (go_at_call 21; refine (chains_any _).mono ?_; rintro e w12 ⟨rfl, h12⟩)
        go_ret
        exact ⟨rfl, t11.trans (h12.mono t11.size)⟩
end Go.Proofs.Ytnceaimhhfjmdaa
