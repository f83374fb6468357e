/-
  OracleRises, walked.
-/
import Derived.Test.YtpibaahiboajhaaOsc7
import Derived.Test.YtpibaahiboajhaaOrd
import Derived.Deep.CutRange
import Derived.Deep.CutBlock
set_option linter.unusedSimpArgs false
set_option linter.unusedVariables false
namespace Go.Proofs.Ytpibaahiboajhaa
open Go.RowKit Go.Cib
attribute [local go_sem] cell_set Later.cell Later.frozen Grw.cell Grw.frozen
open Go.Sort Go.Proofs Go.Shelf

theorem wrap_succ {k : Nat} (h : k < 1000000) : IntKind.i64.wrap ((k : Int) + 1) = (k : Int) + 1 := by rw [IntKind.wrap_i64]; omega
theorem wrap64_nat {k : Nat} (h : k < 1000000) : RowKit.wrap64 (k : Int) = (k : Int) := by unfold RowKit.wrap64; omega
theorem oact_at {S : Nat → Prop} {w : World} {A : Option Addr} {m : Nat} {xs : List OAct} (h : RdL OActR 2 S w A m xs) {i : Nat} (hi : i < m) : ∃ b o x, A = some ⟨b, o, none⟩ ∧ xs[i]? = some x ∧ b < w.heap.size ∧ 0 ≤ x.n ∧ w.cell? ⟨b, o + i * 2, none⟩ = some (.int .i64 x.kind) ∧ w.cell? ⟨b, o + i * 2 + 1, none⟩ = some (.int .u64 x.n) := by
  obtain ⟨b, o, rfl, hS, hlt, hc⟩ := h.2 (by omega)
  have hx : xs[i]? = some (xs[i]'(by rw [h.1]; exact hi)) := List.getElem?_eq_getElem _
  obtain ⟨cs, e1, ⟨e2, e4, e5⟩, e3⟩ := hc i _ hx
  subst e2
  exact ⟨b, o, _, rfl, hx, hlt, e4, by simpa using e3 0 _ rfl, by simpa using e3 1 _ rfl⟩
theorem hor_cons (last : Int) (L : List Int) : hor last (L ++ [last]) = hor last L := by
  rw [hor_snoc]
  have := (hor_spec L last).1
  omega
theorem hor_less {last : Int} {L M : List Int} (h : ∀ s ∈ M, s ∈ L) : hor last L ≤ hor last M := by
  rcases (hor_spec M last).2.2 with e | e
  · rw [e]; exact (hor_spec L last).1
  · exact (hor_spec L last).2.1 _ (h _ e)
theorem hor_up {last last' : Int} {L : List Int} (h : last ≤ last') : hor last L ≤ hor last' L := by
  rcases (hor_spec L last').2.2 with e | e
  · rw [e]; have := (hor_spec L last).1; omega
  · exact (hor_spec L last).2.1 _ e
theorem without_perm {L : List Int} {k : Nat} {x : Int} (hx : L[k]? = some x) : (L.erase x).Perm (L.take k ++ L.drop (k + 1)) := by
  have hk : k < L.length := (List.getElem?_eq_some_iff.1 hx).1
  have h1 : L = L.take k ++ x :: L.drop (k + 1) := by
    rw [← (List.getElem?_eq_some_iff.1 hx).2, ← List.drop_eq_getElem_cons hk, List.take_append_drop]
  have hm : x ∈ L := List.mem_of_getElem? hx
  have h2 : (x :: L.erase x).Perm L := (List.perm_cons_erase hm).symm
  have h3 : L.Perm (x :: (L.take k ++ L.drop (k + 1))) := by
    conv => lhs; rw [h1]
    exact List.perm_middle
  exact (h2.trans h3).cons_inv
theorem without_len {L : List Int} {k : Nat} (hk : k < L.length) : (L.take k ++ L.drop (k + 1)).length = k + (L.length - (k + 1)) := by
  rw [List.length_append, List.length_take, List.length_drop]
  omega
theorem without_mem {L : List Int} {k : Nat} : ∀ s ∈ L.take k ++ L.drop (k + 1), s ∈ L := fun s hs => by
  rcases List.mem_append.1 hs with h | h
  · exact List.mem_of_mem_take h
  · exact List.mem_of_mem_drop h
theorem keep_drew {F : Nat → Prop} {a w : World} (h : Keep F a w) : Keep F a w.drew := ⟨h.os, h.tape, h.output, h.size, h.block⟩

theorem ownsRow_block {w w' : World} {base : Nat} {e : TypeId} {s n : Nat} {v : Value} {xs : List Value} (h : w.ownsRow base e s v n xs) (hb : ∀ g, v.ownBlock = some g → w'.heap[g]? = w.heap[g]?) : w'.ownsRow base e s v n xs := by
  refine ⟨h.1, ?_⟩
  rcases h.2 with h | ⟨g, cap, cur, rfl, h1, h2, h3⟩
  · exact .inl h
  · exact .inr ⟨g, cap, cur, rfl, h1, (hb g rfl).trans h2, h3⟩
theorem OrcAt.low {w w' : World} {B o b : Nat} {last most : Int} {L : List Int} (h : OrcAt w o b last most L) (hb : Below B w w') (ho : o < B) (hbb : b < B) : OrcAt w' o b last most L := by
  obtain ⟨es, h1, h2⟩ := h.map
  exact ⟨h.box.keep (hb.block o ho), h.ne, ⟨es, h1.keep (hb.block b hbb), h2⟩, h.len, h.rng⟩
/-- What a round leaves: the oracle and the list of what is open, side by side. -/
structure RisAt (w0 wr : World) (B o b : Nat) (last most : Int) (L : List Int) (v : Value) (i : Nat) : Prop where
  orc : OrcAt wr o b last most L
  own : OwnL U64R 22 1 B (fun _ => True) wr v L.length L
  low : Below w0.heap.size w0 wr
  size : B ≤ wr.heap.size
  ob : o < B ∧ b < B ∧ w0.heap.size ≤ o ∧ w0.heap.size ≤ b
  len : L.length ≤ i
theorem RisAt.below {w0 w w' : World} {B o b : Nat} {last most : Int} {L : List Int} {v : Value} {i : Nat} (h : RisAt w0 w B o b last most L v i) (hb : Below w.heap.size w w') : RisAt w0 w' B o b last most L v i :=
  ⟨h.orc.below hb, h.own.keep U64R.stable hb, below_then hb h.low, Nat.le_trans h.size hb.size, h.ob, h.len⟩
theorem RisAt.own2 {w0 w w' : World} {B o b : Nat} {last most : Int} {L : List Int} {v : Value} {i : Nat} (h : RisAt w0 w B o b last most L v i) (hk : Keep (fun k => k = o ∨ k = b) w w') : OwnL U64R 22 1 B (fun _ => True) w' v L.length L := by
  obtain ⟨h1, h2, h3, h4⟩ := h.ob
  obtain ⟨css, k1, k2, k3, k4, k5⟩ := h.own
  exact ⟨css, ownsRow_block k1 (fun g hg => hk.block g (h.own.lt g hg).2 (fun e => by have := (h.own.lt g hg).1; rcases e with rfl | rfl <;> omega)), k2, k3, k4, fun i cs x e1 e2 => k5 i cs x e1 e2⟩
theorem RisAt.more {w0 w : World} {B o b : Nat} {last most : Int} {L : List Int} {v : Value} {i : Nat} (h : RisAt w0 w B o b last most L v i) : RisAt w0 w B o b last most L v (i + 1) := ⟨h.orc, h.own, h.low, h.size, h.ob, by have := h.len; omega⟩
theorem RisAt.drewN {w0 w : World} {B o b : Nat} {last most : Int} {L : List Int} {v : Value} {i : Nat} (h : RisAt w0 w B o b last most L v i) (q : Nat) : RisAt w0 (w.drewN q) B o b last most L v i := ⟨h.orc.drewN q, h.own, below_drewN h.low q, h.size, h.ob, h.len⟩
theorem RisAt.went {w0 w w' : World} {B o b : Nat} {last last' most : Int} {L : List Int} {v : Value} {i : Nat} (h : RisAt w0 w B o b last most L v i) (hk : Keep (fun k => k = o ∨ k = b) w w') (ho : OrcAt w' o b last' most L) : RisAt w0 w' B o b last' most L v i := by
  obtain ⟨h1, h2, h3, h4⟩ := h.ob
  refine ⟨ho, ?_, keep_two h.low hk h3 h4 h.low.size, Nat.le_trans h.size hk.size, h.ob, h.len⟩
  obtain ⟨css, k1, k2, k3, k4, k5⟩ := h.own
  refine ⟨css, ownsRow_block k1 (fun g hg => hk.block g (h.own.lt g hg).2 (fun e => by have := (h.own.lt g hg).1; rcases e with rfl | rfl <;> omega)), k2, k3, k4, fun i cs x e1 e2 => k5 i cs x e1 e2⟩
set_option maxRecDepth 100000 in
set_option maxHeartbeats 16000000 in
theorem rises23_any {w : World} {A : Option Addr} {m c : Nat} {acts : List OAct} (last most : Int) (hl0 : 0 ≤ last) (hm0 : most < 18446744073709551616) (R : Hid (RdL OActR 2 (fun _ => True) w A m acts)) :
    Calls Try.prog 4 #[.int .u64 last, .int .u64 most, .slice A m c] w fun e w' => e = .returned (.bool true) ∧ Below w.heap.size w w' := by
  by_cases hlm : most < last
  · have n1 := onew_none w last most hlm
    have st := stamps_any w
    have q1 : decide (most < last) = true := decide_eq_true hlm
    go_enter Try.func4, Try.ntmps4
    go_wp2_with fail
    refine n1.mono ?_
    rintro e w9 ⟨rfl, h9⟩
    replace h9 := h9.symm
    subst h9
    go_wp2_with fail
    refine st.mono ?_
    rintro e w6 ⟨rfl, t6⟩
    have T6 := Lib.hid t6
    clear t6 st
    go_wp2_with fail
    go_ret
    exact ⟨rfl, T6.out⟩
  have q1 : decide (most < last) = false := decide_eq_false hlm
  have n1 := onew_ok w last most hl0 (by omega) hm0
  by_cases hm : m ≤ 100
  case neg =>
    have q2 : (100 : Int) < (m : Int) := by omega
    go_enter Try.func4, Try.ntmps4
    go_wp2_with fail
    refine n1.mono ?_
    rintro e w1 ⟨rfl, h1, b1⟩
    have HB := Lib.hid b1
    have st := stamps_any w1
    clear h1 b1 n1
    go_wp2_with fail
    refine st.mono ?_
    rintro e w6 ⟨rfl, t6⟩
    have T6 := Lib.hid (below_then t6 HB.out)
    clear t6 st
    go_wp2_with fail
    go_ret
    exact ⟨rfl, T6.out⟩
  have q2 : ¬ (100 : Int) < (m : Int) := by omega
  go_enter Try.func4, Try.ntmps4
  go_wp2_with fail
  refine n1.mono ?_
  rintro e w1 ⟨rfl, h1, b1⟩
  obtain ⟨o, ho⟩ : ∃ o, w.heap.size + 1 = o := ⟨_, rfl⟩
  obtain ⟨b, hb⟩ : ∃ b, w.heap.size = b := ⟨_, rfl⟩
  obtain ⟨B, hB⟩ : ∃ B, w1.heap.size = B := ⟨_, rfl⟩
  rw [ho, hb] at h1
  rw [ho]
  have hris : RisAt w w1 B o b last most [] (.slice none 0 0) 0 := ⟨h1, OwnL.nil_, b1, by omega, by have := h1.size2; omega, Nat.le_refl _⟩
  have HR := Lib.hid hris
  have hwB : w.heap.size ≤ B := by have := b1.size; omega
  clear n1 ho hb hB h1 b1 hris
  go_wp2_with fail
  go_loopw [8, 9] (fun vo vi wq => ∃ (i : Nat) (la : Int) (L : List Int) (A2 : Option Addr) (c2 : Nat), i ≤ m ∧ vi = .int .i64 i ∧ vo = .slice A2 L.length c2 ∧ Hid (RisAt w wq B o b la most L (.slice A2 L.length c2) i)) (fun _ vi _ => m - (intOf vi).toNat)
  case atStart => exact ⟨0, last, [], none, 0, Nat.zero_le _, rfl, rfl, HR⟩
  case round =>
    clear HR
    obtain ⟨wq, rfl⟩ : ∃ wq, wq = wr := ⟨_, rfl⟩
    obtain ⟨i, la, L, A2, c2, hi, rfl, rfl, HR⟩ := hrel
    have q3 : (0 : Int) ≤ (i : Int) := Int.natCast_nonneg _
    by_cases hil : i < m
    case neg =>
      obtain rfl : i = m := by omega
      have q4 : ¬ (i : Int) < (i : Int) := by omega
      have st := stamps_any wq
      go_wp2_with fail
      refine st.mono ?_
      rintro e w6 ⟨rfl, t6⟩
      have T6 := Lib.hid (below_then t6 HR.out.low)
      clear t6 st
      go_wp2_with fail
      go_ret
      exact ⟨rfl, T6.out⟩
    have q4 : (i : Int) < (m : Int) := by omega
    obtain ⟨bo, oo, a, rfl, ha, hbo, hn0, d0, d1⟩ := oact_at R.out hil
    have x0 := (HR.out.low.cell (p := ⟨bo, oo + i * 2, none⟩) hbo).trans d0
    have x1 := (HR.out.low.cell (p := ⟨bo, oo + i * 2 + 1, none⟩) hbo).trans d1
    have wF : Below wq.heap.size wq (wq.alloc (.cells #[.int .i64 a.kind, .int .u64 a.n] 30)) := (Below.refl _ _).alloc (Nat.le_refl _) _
    have X1 := BoxAt.new wq #[.int .i64 a.kind, .int .u64 a.n] 30
    have hyB : B ≤ wq.heap.size := HR.out.size
    obtain ⟨y, hy⟩ : ∃ y, wq.heap.size = y := ⟨_, rfl⟩
    obtain ⟨w1, hw1⟩ : ∃ w1, wq.alloc (.cells #[.int .i64 a.kind, .int .u64 a.n] 30) = w1 := ⟨_, rfl⟩
    rw [hw1] at wF X1
    have hr1 := HR.out.below wF
    have c1 := olast_ok hr1.orc
    have c3 := ohor_any hr1.orc
    rw [hy] at X1 hyB
    have HX := Lib.hid X1
    have HR1 := Lib.hid hr1
    obtain ⟨h0, hh0⟩ : ∃ h0, hor la L = h0 := ⟨_, rfl⟩
    have HH := Lib.hid hh0
    rw [hh0] at c3
    clear d0 d1 ha wF X1 hr1 hh0
    go_wp2_with fail
    refine c1.mono ?_
    rintro e w9 ⟨rfl, h9⟩
    replace h9 := h9.symm
    subst h9
    clear x0 x1 hw1 hy
    go_wp2_with fail
    refine c3.mono ?_
    rintro e w2 ⟨rfl, t2⟩
    have hr2 := HR1.out.below t2
    have hx2 := HX.out.below t2
    have j0 := hx2.cell 0
    have j1 := hx2.cell 1
    have HX2 := Lib.hid hx2
    have HR2 := Lib.hid hr2
    clear c1 c3 t2 hr2 hx2 HX HR1 HR
    have hL100 : L.length ≤ 100 := by have := HR2.out.len; omega
    have hhl : h0 ≤ la := by rw [← HH.out]; exact (hor_spec L la).1
    go_upto_block 2 with fail
    go_cut [8] from 37 to 197 (fun v8 wx => ∃ (la' : Int) (L' : List Int) (A' : Option Addr) (c' : Nat), v8 = .slice A' L'.length c' ∧ la ≤ la' ∧ h0 ≤ hor la' L' ∧ Hid (RisAt w wx B o b la' most L' (.slice A' L'.length c') (i + 1)))
    case first =>
      go_upto_if 53 with fail
      go_cut [52, 53] from 37 to 197 (fun v52 v wx => v52 = .int .i64 a.kind ∧ v = .bool (decide (a.kind = 0 ∨ a.kind = 1)) ∧ wx = w2)
      case first =>
        by_cases hk0 : a.kind = 0
        · have e1 : (a.kind == 0) = true := beq_iff_eq.2 hk0
          have e2 : decide (a.kind = 0) = true := decide_eq_true hk0
          go_wp2_with fail
          go_meet
          case rel => exact ⟨rfl, by simp [hk0], rfl⟩
        · have e1 : (a.kind == 0) = false := beq_eq_false_iff_ne.2 hk0
          have e2 : decide (a.kind = 0) = false := decide_eq_false hk0
          go_wp2_with fail
          go_meet
          case rel => exact ⟨rfl, by by_cases h1 : a.kind = 1 <;> simp [hk0, h1], rfl⟩
      case rest =>
      obtain ⟨rfl, rfl, hwx⟩ := hcut
      rw [hwx]
      clear hwx
      obtain ⟨K01, hK01⟩ : ∃ K, decide (a.kind = 0 ∨ a.kind = 1) = K := ⟨_, rfl⟩
      rw [hK01]
      have HK01 := Lib.hid hK01
      clear hK01
      cases K01 with
      | true =>
        as_aux_lemma =>
        have c4 := obegin_ok HR2.out.orc (by omega)
        have q5 : decide (la < h0) = false := decide_eq_false (by omega)
        have q6 : ¬ la < h0 := by omega
        go_wp2_with fail
        refine c4.mono ?_
        rintro e w3 ⟨rfl, h3, k3⟩
        have own3 := HR2.out.own2 k3
        have HO3 := Lib.hid (h3.perm (List.perm_append_singleton la L).symm)
        have HB3 := Lib.hid (keep_two HR2.out.low k3 HR2.out.ob.2.2.1 HR2.out.ob.2.2.2 HR2.out.low.size)
        have hs3 : B ≤ w3.heap.size := Nat.le_trans HR2.out.size k3.size
        clear h3 k3 c4
        go_wp2_with (at_builtin; refine wpList_push1 U64R.stable U64R.one slTyU rfl (by exact rfl) (by exact rfl) (by exact rfl) own3 (y := la) rfl rfl (by unfold maxLen; omega) (by omega) hs3 ?_; intro A8 c8 u8 hc8 own9 hlt8 hb8 hat8; have OW9 := Lib.hid own9; have D8 := Lib.hid hb8; have hs8 := hlt8; clear own9 hb8 hat8 hc8)
        go_meet
        case rel =>
          obtain ⟨o1, o2, o3, o4⟩ := HR2.out.ob
          refine ⟨la, L ++ [la], A8, c8, by simp, Int.le_refl _, by rw [hor_cons, HH.out]; exact Int.le_refl _, Lib.hid ⟨HO3.out.low D8.out o1 o2, by simpa using OW9.out, HB3.out.trans (D8.out.mono (by omega)), Nat.le_trans hs3 D8.out.size, HR2.out.ob, by have := HR2.out.len; simp; omega⟩⟩
      | false =>
        by_cases hk2 : a.kind = 2
        · have e1 : (a.kind == 2) = true := beq_iff_eq.2 hk2
          have e2 : decide (a.kind = 2) = true := decide_eq_true hk2
          by_cases hL0 : L.length = 0
          · have q7 : ¬ (0 : Int) < (L.length : Int) := by omega
            have q8 : decide ((0 : Int) < (L.length : Int)) = false := decide_eq_false q7
            go_wp2_with fail
            go_meet
            case rel => exact ⟨la, L, A2, c2, by simp [hL0], Int.le_refl _, by rw [HH.out]; exact Int.le_refl _, Lib.hid HR2.out.more⟩
          · as_aux_lemma =>
            have q7 : (0 : Int) < (L.length : Int) := by omega
            have q8 : decide ((0 : Int) < (L.length : Int)) = true := decide_eq_true q7
            clear hk2
            obtain ⟨k, hk⟩ : ∃ k : Nat, a.n % (L.length : Int) = (k : Int) := ⟨(a.n % (L.length : Int)).toNat, by have := Int.emod_nonneg a.n (show (L.length : Int) ≠ 0 by omega); omega⟩
            have hkl : k < L.length := by have := Int.emod_lt_of_pos a.n q7; omega
            have hk6 : k < 1000000 := by omega
            obtain ⟨A9, c9, hv9, hnc, hrd9⟩ := HR2.out.own.rd (S' := fun _ => True) (fun _ _ => trivial) (fun cs z hz => hz)
            simp only [Value.slice.injEq] at hv9
            obtain ⟨rfl, _, rfl⟩ := hv9
            obtain ⟨b7, o7, x, rfl, hx, hb7, _, hc7⟩ := u64_in hrd9 hkl
            have HX7 := Lib.hid hx
            have c4 := oend_ok x HR2.out.orc
            rw [decide_eq_true (List.mem_of_getElem? hx)] at c4
            have HNC := Lib.hid hnc
            clear hx hrd9
            have hwk := wrap64_nat hk6
            go_wp2_with fail
            refine c4.mono ?_
            rintro e wz ⟨rfl, h3, k3⟩
            clear hwk
            have own3 := HR2.out.own2 k3
            have HO3 := Lib.hid (h3.perm (without_perm HX7.out))
            have HB3 := Lib.hid (keep_two HR2.out.low k3 HR2.out.ob.2.2.1 HR2.out.ob.2.2.2 HR2.out.low.size)
            have hs3 : B ≤ wz.heap.size := Nat.le_trans HR2.out.size k3.size
            obtain ⟨A9, c9, hv9, _, hrd9⟩ := own3.rd (S' := fun _ => True) (fun q hq => trivial) (fun cs z hz => hz)
            simp only [Value.slice.injEq] at hv9
            obtain ⟨rfl, _, rfl⟩ := hv9
            have hrd10 : RdL U64R 1 (fun b => b < wz.heap.size) wz (some ⟨b7, o7, none⟩) L.length L := hrd9.stable U64R.stable (fun b _ hlt => ⟨hlt, rfl⟩)
            have RT : Hid (RdL U64R 1 (fun b => b < wz.heap.size) wz (some ⟨b7, o7, none⟩) k (L.take k)) := Lib.hid (RdL.take hrd10 (by omega))
            have pp1 := piece_pre (A := some ⟨b7, o7, none⟩) (N := L.length) (c := c2) (k := k) slTyU (by have := HNC.out; omega)
            have pp2 := piece_suf (A := some ⟨b7, o7, none⟩) (N := L.length) (c := c2) (k := k + 1) slTyU (by omega)
            have rdp := piece_rd hrd10 HNC.out (k := k + 1) (by omega)
            obtain ⟨A5, hA5⟩ : ∃ A5, (if c2 = k + 1 then some ⟨b7, o7, none⟩ else (some (⟨b7, o7, none⟩ : Addr)).map (fun x : Addr => x.add ((k + 1) * 1))) = A5 := ⟨_, rfl⟩
            rw [hA5] at pp2 rdp
            have RDp := Lib.hid rdp
            rw [show ((k + 1 : Nat) : Int) = (k : Int) + 1 by omega] at pp2
            clear hrd9 hrd10 rdp hA5 c4 h3 k3 own3 hc7 hk
            have hwk := wrap64_nat hk6
            have hwk2 := wrap_succ hk6
            go_wp2_with fail
            refine wp_region_L (S := fun w' => Below wz.heap.size wz w') [] (by kernel_rfl) (by first | assumption | exact Below.refl _ _ | exact (Below.refl _ _).drew) (fun hHeld => ?_)
            refine wpAnyL_take (i := 1) (v := ?_) rfl (by kernel_rfl) (by kernel_rfl) (by kernel_rfl) (by kernel_rfl) (fun _ _ _ h => h) (Or.inl ⟨by first | kernel_rfl | rfl, ?_⟩) (by assumption) ?_
            rotate_left
            · (intro wq0 hSw; (try dsimp only at hSw); (try simp (maxSteps := 2000000) only [List.getElem_toArray, List.getElem_cons_succ, List.getElem_cons_zero]); go_simp); try with_reducible rfl
            try simp (maxSteps := 2000000) only [List.getElem_toArray, List.getElem_cons_succ, List.getElem_cons_zero, Act.put, List.setIfInBounds_toArray, List.set_cons_zero, List.set_cons_succ]
            refine wpAnyL_take (i := 2) (v := ?_) rfl (by kernel_rfl) (by kernel_rfl) (by kernel_rfl) (by kernel_rfl) (fun _ _ _ h => h) (Or.inl ⟨by first | kernel_rfl | rfl, ?_⟩) (by assumption) ?_
            rotate_left
            · (intro wq0 hSw; (try dsimp only at hSw); (try simp (maxSteps := 2000000) only [List.getElem_toArray, List.getElem_cons_succ, List.getElem_cons_zero]); go_simp); try with_reducible rfl
            try simp (maxSteps := 2000000) only [List.getElem_toArray, List.getElem_cons_succ, List.getElem_cons_zero, Act.put, List.setIfInBounds_toArray, List.set_cons_zero, List.set_cons_succ]
            refine wpAnyL_take (i := 3) (v := ?_) rfl (by kernel_rfl) (by kernel_rfl) (by kernel_rfl) (by kernel_rfl) (fun _ _ _ h => h) (Or.inl ⟨by first | kernel_rfl | rfl, ?_⟩) (by assumption) ?_
            rotate_left
            · (intro wq0 hSw; (try dsimp only at hSw); (try simp (maxSteps := 2000000) only [List.getElem_toArray, List.getElem_cons_succ, List.getElem_cons_zero]); go_simp); try with_reducible rfl
            try simp (maxSteps := 2000000) only [List.getElem_toArray, List.getElem_cons_succ, List.getElem_cons_zero, Act.put, List.setIfInBounds_toArray, List.set_cons_zero, List.set_cons_succ]
            refine wpAnyL_take (i := 5) (v := ?_) rfl (by kernel_rfl) (by kernel_rfl) (by kernel_rfl) (by kernel_rfl) (fun _ _ _ h => h) (Or.inl ⟨by first | kernel_rfl | rfl, ?_⟩) (by assumption) ?_
            rotate_left
            · (intro wq0 hSw; (try dsimp only at hSw); (try simp (maxSteps := 2000000) only [List.getElem_toArray, List.getElem_cons_succ, List.getElem_cons_zero]); go_simp); try with_reducible rfl
            try simp (maxSteps := 2000000) only [List.getElem_toArray, List.getElem_cons_succ, List.getElem_cons_zero, Act.put, List.setIfInBounds_toArray, List.set_cons_zero, List.set_cons_succ]
            refine wpAnyL_take (i := 6) (v := ?_) rfl (by kernel_rfl) (by kernel_rfl) (by kernel_rfl) (by kernel_rfl) (fun _ _ _ h => h) (Or.inl ⟨by first | kernel_rfl | rfl, ?_⟩) (by assumption) ?_
            rotate_left
            · (intro wq0 hSw; (try dsimp only at hSw); (try simp (maxSteps := 2000000) only [List.getElem_toArray, List.getElem_cons_succ, List.getElem_cons_zero]); go_simp); try with_reducible rfl
            try simp (maxSteps := 2000000) only [List.getElem_toArray, List.getElem_cons_succ, List.getElem_cons_zero, Act.put, List.setIfInBounds_toArray, List.set_cons_zero, List.set_cons_succ]
            refine wpAnyL_take (i := 7) (v := ?_) rfl (by kernel_rfl) (by kernel_rfl) (by kernel_rfl) (by kernel_rfl) (fun _ _ _ h => h) (Or.inl ⟨by first | kernel_rfl | rfl, ?_⟩) (by assumption) ?_
            rotate_left
            · (intro wq0 hSw; (try dsimp only at hSw); (try simp (maxSteps := 2000000) only [List.getElem_toArray, List.getElem_cons_succ, List.getElem_cons_zero]); go_simp); try with_reducible rfl
            try simp (maxSteps := 2000000) only [List.getElem_toArray, List.getElem_cons_succ, List.getElem_cons_zero, Act.put, List.setIfInBounds_toArray, List.set_cons_zero, List.set_cons_succ]
            refine wpAnyL_take (i := 8) (v := ?_) rfl (by kernel_rfl) (by kernel_rfl) (by kernel_rfl) (by kernel_rfl) (fun _ _ _ h => h) (Or.inl ⟨by first | kernel_rfl | rfl, ?_⟩) (by assumption) ?_
            rotate_left
            · (intro wq0 hSw; (try dsimp only at hSw); (try simp (maxSteps := 2000000) only [List.getElem_toArray, List.getElem_cons_succ, List.getElem_cons_zero]); go_simp); try with_reducible rfl
            try simp (maxSteps := 2000000) only [List.getElem_toArray, List.getElem_cons_succ, List.getElem_cons_zero, Act.put, List.setIfInBounds_toArray, List.set_cons_zero, List.set_cons_succ]
            clear hwk hwk2
            obtain ⟨wd, hwd⟩ : ∃ wd, wz.drew = wd := ⟨_, rfl⟩
            rw [hwd] at hHeld ⊢
            clear hwd
            have hs_wd := hHeld.size
            refine wpAnyL_ready (rs := [0]) (by kernel_rfl) (by simp) ?_
            refine AllReadyL.cons rfl (fun K hK => ?_) AllReadyL.nil
            try simp (maxSteps := 2000000) only [List.getElem_toArray, List.getElem_cons_succ, List.getElem_cons_zero]
            go_simp
            have hA : Below wd.heap.size wd (wd.alloc (.cells #[] 22)) := (Below.refl _ _).alloc (Nat.le_refl _) _
            have own := OwnL.made (R := U64R) (E := 22) (s := 1) (base := wz.heap.size) (S := fun _ => True) (w := wd) #[] 0 hHeld.size (by decide) rfl
            refine hK.out _ _ (below_then hA hHeld) (fun hHeld => ?_)
            clear hK K
            try simp (maxSteps := 2000000) only [List.getElem_toArray, List.getElem_cons_succ, List.getElem_cons_zero, Act.put, List.setIfInBounds_toArray, List.set_cons_zero, List.set_cons_succ]
            obtain ⟨wa, hw⟩ : ∃ wn, wd.alloc (.cells #[] 22) = wn := ⟨_, rfl⟩
            rw [hw] at hHeld own ⊢
            clear hw hA
            refine wpAnyL_ready (rs := [4]) (by kernel_rfl) (by simp) ?_
            refine AllReadyL.cons rfl (fun K hK => ?_) AllReadyL.nil
            have hs7 := hHeld.size
            refine step_law (by rfl) (wpList_appL U64R.stable U64R.one slTyU (by rfl) (by rfl) (base := wz.heap.size) (S := fun _ => True) (by rfl) own (by rfl) (RT.out.below U64R.stable hHeld) (fun cs y hy => hy) (by unfold maxLen; omega) (by omega) hs7 ?_)
            intro A_own7 c_own7 wb hc_own7 own7 hg_own7 hat_own7
            refine And.intro rfl ?_
            have b_own7 : Below wz.heap.size wz wb := hHeld.grown hg_own7 hs7 (fun q hq => (own.lt q hq).1)
            rw [Nat.zero_add, List.nil_append] at own7
            refine hK.out _ _ b_own7 (fun hHeld => ?_)
            clear hK K
            try simp (maxSteps := 2000000) only [List.getElem_toArray, List.getElem_cons_succ, List.getElem_cons_zero, Act.put, List.setIfInBounds_toArray, List.set_cons_zero, List.set_cons_succ]
            rw [Nat.zero_add]
            refine wpAnyL_ready (rs := [9]) (by kernel_rfl) (by simp) ?_
            refine AllReadyL.cons rfl (fun K hK => ?_) AllReadyL.nil
            have hs7 := hHeld.size
            refine step_law (by rfl) (wpList_appL U64R.stable U64R.one slTyU (by rfl) (by rfl) (base := wz.heap.size) (S := fun _ => True) (by rfl) own7 (by rfl) (RDp.out.below U64R.stable hHeld) (fun cs y hy => hy) (by unfold maxLen; omega) (by omega) hs7 ?_)
            intro A9 c9 wc hc9 own9 hg_own9 hat_own9
            refine And.intro rfl ?_
            have b_own9 : Below wz.heap.size wz wc := hHeld.grown hg_own9 hs7 (fun q hq => (own7.lt q hq).1)
            refine hK.out _ _ b_own9 (fun hHeld => ?_)
            clear hK K
            try simp (maxSteps := 2000000) only [List.getElem_toArray, List.getElem_cons_succ, List.getElem_cons_zero, Act.put, List.setIfInBounds_toArray, List.set_cons_zero, List.set_cons_succ]
            have OW9 := Lib.hid own9
            have B9 := Lib.hid b_own9
            clear own own7 own9 b_own7 b_own9 hg_own7 hg_own9 hat_own7 hat_own9 hc_own7
            refine wpAnyL_take (i := 10) (v := ?_) rfl (by kernel_rfl) (by kernel_rfl) (by kernel_rfl) (by kernel_rfl) (fun _ _ _ h => h) (Or.inl ⟨by first | kernel_rfl | rfl, ?_⟩) (by assumption) ?_
            rotate_left
            · (intro wq0 hSw; (try dsimp only at hSw); (try simp (maxSteps := 2000000) only [List.getElem_toArray, List.getElem_cons_succ, List.getElem_cons_zero]); go_simp); try with_reducible rfl
            try simp (maxSteps := 2000000) only [List.getElem_toArray, List.getElem_cons_succ, List.getElem_cons_zero, Act.put, List.setIfInBounds_toArray, List.set_cons_zero, List.set_cons_succ]
            refine wpAnyL_done (by kernel_rfl) ?_ _
            go_wp2_with fail
            go_meet
            case rel =>
              obtain ⟨o1, o2, o3, o4⟩ := HR2.out.ob
              refine ⟨la, L.take k ++ L.drop (k + 1), A9, c9, by rw [without_len hkl], Int.le_refl _, by rw [← HH.out]; exact hor_less without_mem, Lib.hid ⟨?_, ?_, ?_, ?_, HR2.out.ob, ?_⟩⟩
              · exact HO3.out.below B9.out
              · have := OwnL.lower OW9.out hs3
                rw [without_len hkl]
                exact this
              · exact below_then B9.out HB3.out
              · exact Nat.le_trans hs3 B9.out.size
              · have := HR2.out.len
                rw [without_len hkl]
                omega
        · have e1 : (a.kind == 2) = false := beq_eq_false_iff_ne.2 hk2
          have e2 : decide (a.kind = 2) = false := decide_eq_false hk2
          by_cases hk3 : a.kind = 3
          · as_aux_lemma =>
            have e3 : (a.kind == 3) = true := beq_iff_eq.2 hk3
            have e4 : decide (a.kind = 3) = true := decide_eq_true hk3
            have c4 := onext_ok HR2.out.orc
            obtain ⟨r1, r2, r3⟩ := HR2.out.orc.rng
            by_cases hlt : la < most
            · rw [if_pos hlt] at c4
              have c5 := fun q => opub_ok (la + 1) (HR2.out.orc.drewN q)
              rw [decide_eq_true (show la < la + 1 ∧ la + 1 ≤ most by omega), if_pos (show la < la + 1 ∧ la + 1 ≤ most by omega)] at c5
              go_wp2_with fail
              refine c4.mono ?_
              rintro e w3 ⟨rfl, q, rfl⟩
              have c5' := c5 q
              have hr3 := HR2.out.drewN q
              have HR3 := Lib.hid hr3
              clear c4 c5 hr3
              go_wp2_with fail
              refine c5'.mono ?_
              rintro e w4 ⟨rfl, h4, k4⟩
              have c6 := opub_ok (la + 1) h4
              rw [decide_eq_false (show ¬ (la + 1 < la + 1 ∧ la + 1 ≤ most) by omega), if_neg (show ¬ (la + 1 < la + 1 ∧ la + 1 ≤ most) by omega)] at c6
              have HR4 := Lib.hid (HR3.out.went k4 h4)
              clear c5' h4 k4
              go_wp2_with fail
              refine c6.mono ?_
              rintro e w5 ⟨rfl, h5, k5⟩
              have HR5 := Lib.hid (HR4.out.went k5 h5)
              clear c6 h5 k5
              go_wp2_with fail
              go_meet
              case rel => exact ⟨la + 1, L, A2, c2, rfl, by omega, by rw [← HH.out]; exact hor_up (by omega), Lib.hid HR5.out.more⟩
            · rw [if_neg hlt] at c4
              have q9 : la = most := by omega
              have q10 : (la != most) = false := by rw [q9]; simp
              have q11 : (la == most) = true := beq_iff_eq.2 q9
              have q12 : decide (la = most) = true := decide_eq_true q9
              clear q9
              go_wp2_with fail
              refine c4.mono ?_
              rintro e w3 ⟨rfl, q, rfl⟩
              have HR3 := Lib.hid (HR2.out.drewN q)
              clear c4
              go_wp2_with fail
              go_meet
              case rel => exact ⟨la, L, A2, c2, rfl, Int.le_refl _, by rw [HH.out]; exact Int.le_refl _, Lib.hid HR3.out.more⟩
          · have e3 : (a.kind == 3) = false := beq_eq_false_iff_ne.2 hk3
            have e4 : decide (a.kind = 3) = false := decide_eq_false hk3
            by_cases hk4 : a.kind = 4
            · as_aux_lemma =>
              have e5 : (a.kind == 4) = true := beq_iff_eq.2 hk4
              have e6 : decide (a.kind = 4) = true := decide_eq_true hk4
              have hyl := HX2.out.lt
              have hyo : y ≠ o := by have := HR2.out.ob; omega
              have hyb : y ≠ b := by have := HR2.out.ob; omega
              have u1 : ∀ w', Keep (fun k => k = o ∨ k = b) w2 w' → w'.cell? ⟨y, 1, none⟩ = some (.int .u64 a.n) := fun w' hk => (World.cell?_of_block (a := ⟨y, 1, none⟩) (hk.block _ hyl (fun e => e.elim hyo hyb))).trans (HX2.out.cell 1)
              have HR2d := Lib.hid (HR2.out.below (Below.refl _ _).drew)
              have c4 := opub_ok a.n HR2d.out.orc
              clear j0 j1
              by_cases hp : la < a.n
              · have p1 : decide (la < a.n) = true := decide_eq_true hp
                by_cases hq : a.n ≤ most
                · have p2 : decide (a.n ≤ most) = true := decide_eq_true hq
                  rw [decide_eq_true (show la < a.n ∧ a.n ≤ most from ⟨hp, hq⟩), if_pos (show la < a.n ∧ a.n ≤ most from ⟨hp, hq⟩)] at c4
                  go_wp2_with fail
                  refine wp_region_held_drew (S := fun w' => Keep (fun k => k = o ∨ k = b) w2 w') (by kernel_rfl) (by first | assumption | exact Keep.refl _ _ | exact keep_drew (Keep.refl _ _)) (fun hHeld => ?_)
                  refine wpAnyH_take (i := 0) (v := ?_) rfl (by kernel_rfl) (by kernel_rfl) (by kernel_rfl) (fun _ _ _ h => h) (Or.inl ⟨by first | kernel_rfl | rfl, ?_⟩) (by assumption) ?_
                  rotate_left
                  · (intro wq hSw; (try dsimp only at hSw); (try simp (maxSteps := 2000000) only [List.getElem_toArray, List.getElem_cons_succ, List.getElem_cons_zero]); go_simp); try with_reducible rfl
                  try simp (maxSteps := 2000000) only [List.getElem_toArray, List.getElem_cons_succ, List.getElem_cons_zero, Act.put, List.setIfInBounds_toArray, List.set_cons_zero, List.set_cons_succ]
                  refine wpAnyH_take (i := 1) (v := ?_) rfl (by kernel_rfl) (by kernel_rfl) (by kernel_rfl) (fun _ _ _ h => h) (Or.inl ⟨by first | kernel_rfl | rfl, ?_⟩) (by assumption) ?_
                  rotate_left
                  · (intro wq hSw; (try dsimp only at hSw); (try simp (maxSteps := 2000000) only [List.getElem_toArray, List.getElem_cons_succ, List.getElem_cons_zero]); go_simp); try with_reducible rfl
                  try simp (maxSteps := 2000000) only [List.getElem_toArray, List.getElem_cons_succ, List.getElem_cons_zero, Act.put, List.setIfInBounds_toArray, List.set_cons_zero, List.set_cons_succ]
                  refine wpAnyH_take (i := 2) (v := ?_) rfl (by kernel_rfl) (by kernel_rfl) (by kernel_rfl) (fun _ _ _ h => h) (Or.inl ⟨by first | kernel_rfl | rfl, ?_⟩) (by assumption) ?_
                  rotate_left
                  · (intro wq hSw; (try dsimp only at hSw); (try simp (maxSteps := 2000000) only [List.getElem_toArray, List.getElem_cons_succ, List.getElem_cons_zero]); go_simp); try with_reducible rfl
                  try simp (maxSteps := 2000000) only [List.getElem_toArray, List.getElem_cons_succ, List.getElem_cons_zero, Act.put, List.setIfInBounds_toArray, List.set_cons_zero, List.set_cons_succ]
                  refine wpAnyH_take (i := 4) (v := ?_) rfl (by kernel_rfl) (by kernel_rfl) (by kernel_rfl) (fun _ _ _ h => h) (Or.inl ⟨by first | kernel_rfl | rfl, ?_⟩) (by assumption) ?_
                  rotate_left
                  · (intro wq hSw; (try dsimp only at hSw); (try simp (maxSteps := 2000000) only [List.getElem_toArray, List.getElem_cons_succ, List.getElem_cons_zero]); go_simp); try with_reducible rfl
                  try simp (maxSteps := 2000000) only [List.getElem_toArray, List.getElem_cons_succ, List.getElem_cons_zero, Act.put, List.setIfInBounds_toArray, List.set_cons_zero, List.set_cons_succ]
                  refine wpAnyH_take (i := 5) (v := ?_) rfl (by kernel_rfl) (by kernel_rfl) (by kernel_rfl) (fun _ _ _ h => h) (Or.inl ⟨by first | kernel_rfl | rfl, ?_⟩) (by assumption) ?_
                  rotate_left
                  · (intro wq hSw; (try dsimp only at hSw); (try simp (maxSteps := 2000000) only [List.getElem_toArray, List.getElem_cons_succ, List.getElem_cons_zero]); go_simp); try with_reducible rfl
                  try simp (maxSteps := 2000000) only [List.getElem_toArray, List.getElem_cons_succ, List.getElem_cons_zero, Act.put, List.setIfInBounds_toArray, List.set_cons_zero, List.set_cons_succ]
                  refine wpAnyH_take (i := 6) (v := ?_) rfl (by kernel_rfl) (by kernel_rfl) (by kernel_rfl) (fun _ _ _ h => h) (Or.inl ⟨by first | kernel_rfl | rfl, ?_⟩) (by assumption) ?_
                  rotate_left
                  · (intro wq hSw; (try dsimp only at hSw); (try simp (maxSteps := 2000000) only [List.getElem_toArray, List.getElem_cons_succ, List.getElem_cons_zero]); go_simp); try with_reducible rfl
                  try simp (maxSteps := 2000000) only [List.getElem_toArray, List.getElem_cons_succ, List.getElem_cons_zero, Act.put, List.setIfInBounds_toArray, List.set_cons_zero, List.set_cons_succ]
                  refine wpAnyH_take (i := 7) (v := ?_) rfl (by kernel_rfl) (by kernel_rfl) (by kernel_rfl) (fun _ _ _ h => h) (Or.inl ⟨by first | kernel_rfl | rfl, ?_⟩) (by assumption) ?_
                  rotate_left
                  · (intro wq hSw; (try dsimp only at hSw); (try simp (maxSteps := 2000000) only [List.getElem_toArray, List.getElem_cons_succ, List.getElem_cons_zero]); go_simp); try with_reducible rfl
                  try simp (maxSteps := 2000000) only [List.getElem_toArray, List.getElem_cons_succ, List.getElem_cons_zero, Act.put, List.setIfInBounds_toArray, List.set_cons_zero, List.set_cons_succ]
                  refine wpAnyH_ready (rs := [3]) (by kernel_rfl) (by simp) ?_
                  refine AllReadyH.cons rfl (fun K hK => ?_) AllReadyH.nil
                  try simp (maxSteps := 2000000) only [List.getElem_toArray, List.getElem_cons_succ, List.getElem_cons_zero]
                  go_simp
                  refine c4.mono ?_
                  rintro e w3 ⟨rfl, h3, k3⟩
                  have HR3 := Lib.hid (HR2d.out.went k3 h3)
                  have KK := Keep.trans (G := fun k => k = o ∨ k = b) (keep_drew (Keep.refl _ w2)) k3 (fun k h _ => h)
                  clear h3 k3 c4
                  try (go_wp2_with fail)
                  refine hK.out _ _ (by first | assumption | exact Keep.refl _ _ | exact keep_drew (Keep.refl _ _)) (fun hHeld => ?_)
                  clear hK K
                  try simp (maxSteps := 2000000) only [List.getElem_toArray, List.getElem_cons_succ, List.getElem_cons_zero, Act.put, List.setIfInBounds_toArray, List.set_cons_zero, List.set_cons_succ]
                  refine wpAnyH_take (i := 8) (v := ?_) rfl (by kernel_rfl) (by kernel_rfl) (by kernel_rfl) (fun _ _ _ h => h) (Or.inl ⟨by first | kernel_rfl | rfl, ?_⟩) (by assumption) ?_
                  rotate_left
                  · (intro wq hSw; (try dsimp only at hSw); (try simp (maxSteps := 2000000) only [List.getElem_toArray, List.getElem_cons_succ, List.getElem_cons_zero]); go_simp); try with_reducible rfl
                  try simp (maxSteps := 2000000) only [List.getElem_toArray, List.getElem_cons_succ, List.getElem_cons_zero, Act.put, List.setIfInBounds_toArray, List.set_cons_zero, List.set_cons_succ]
                  refine wpAnyH_take (i := 9) (v := ?_) rfl (by kernel_rfl) (by kernel_rfl) (by kernel_rfl) (fun _ _ _ h => h) (Or.inl ⟨by first | kernel_rfl | rfl, ?_⟩) (by assumption) ?_
                  rotate_left
                  · (intro wq hSw; (try dsimp only at hSw); (try simp (maxSteps := 2000000) only [List.getElem_toArray, List.getElem_cons_succ, List.getElem_cons_zero]); go_simp); try with_reducible rfl
                  try simp (maxSteps := 2000000) only [List.getElem_toArray, List.getElem_cons_succ, List.getElem_cons_zero, Act.put, List.setIfInBounds_toArray, List.set_cons_zero, List.set_cons_succ]
                  refine wpAnyH_take (i := 10) (v := ?_) rfl (by kernel_rfl) (by kernel_rfl) (by kernel_rfl) (fun _ _ _ h => h) (Or.inl ⟨by first | kernel_rfl | rfl, ?_⟩) (by assumption) ?_
                  rotate_left
                  · (intro wq hSw; (try dsimp only at hSw); (try simp (maxSteps := 2000000) only [List.getElem_toArray, List.getElem_cons_succ, List.getElem_cons_zero]); go_simp); try with_reducible rfl
                  try simp (maxSteps := 2000000) only [List.getElem_toArray, List.getElem_cons_succ, List.getElem_cons_zero, Act.put, List.setIfInBounds_toArray, List.set_cons_zero, List.set_cons_succ]
                  refine wpAnyH_take (i := 11) (v := ?_) rfl (by kernel_rfl) (by kernel_rfl) (by kernel_rfl) (fun _ _ _ h => h) (Or.inl ⟨by first | kernel_rfl | rfl, ?_⟩) (by assumption) ?_
                  rotate_left
                  · (intro wq hSw; (try dsimp only at hSw); (try simp (maxSteps := 2000000) only [List.getElem_toArray, List.getElem_cons_succ, List.getElem_cons_zero]); go_simp); try with_reducible rfl
                  try simp (maxSteps := 2000000) only [List.getElem_toArray, List.getElem_cons_succ, List.getElem_cons_zero, Act.put, List.setIfInBounds_toArray, List.set_cons_zero, List.set_cons_succ]
                  refine wpAnyH_take (i := 12) (v := ?_) rfl (by kernel_rfl) (by kernel_rfl) (by kernel_rfl) (fun _ _ _ h => h) (Or.inl ⟨by first | kernel_rfl | rfl, ?_⟩) (by assumption) ?_
                  rotate_left
                  · (intro wq hSw; (try dsimp only at hSw); (try simp (maxSteps := 2000000) only [List.getElem_toArray, List.getElem_cons_succ, List.getElem_cons_zero]); go_simp); try with_reducible rfl
                  try simp (maxSteps := 2000000) only [List.getElem_toArray, List.getElem_cons_succ, List.getElem_cons_zero, Act.put, List.setIfInBounds_toArray, List.set_cons_zero, List.set_cons_succ]
                  refine wpAnyH_take (i := 13) (v := ?_) rfl (by kernel_rfl) (by kernel_rfl) (by kernel_rfl) (fun _ _ _ h => h) (Or.inl ⟨by first | kernel_rfl | rfl, ?_⟩) (by assumption) ?_
                  rotate_left
                  · (intro wq hSw; (try dsimp only at hSw); (try simp (maxSteps := 2000000) only [List.getElem_toArray, List.getElem_cons_succ, List.getElem_cons_zero]); go_simp); try with_reducible rfl
                  try simp (maxSteps := 2000000) only [List.getElem_toArray, List.getElem_cons_succ, List.getElem_cons_zero, Act.put, List.setIfInBounds_toArray, List.set_cons_zero, List.set_cons_succ]
                  refine wpAnyH_take (i := 14) (v := ?_) rfl (by kernel_rfl) (by kernel_rfl) (by kernel_rfl) (fun _ _ _ h => h) (Or.inl ⟨by first | kernel_rfl | rfl, ?_⟩) (by assumption) ?_
                  rotate_left
                  · (intro wq hSw; (try dsimp only at hSw); (try simp (maxSteps := 2000000) only [List.getElem_toArray, List.getElem_cons_succ, List.getElem_cons_zero]); go_simp); try with_reducible rfl
                  try simp (maxSteps := 2000000) only [List.getElem_toArray, List.getElem_cons_succ, List.getElem_cons_zero, Act.put, List.setIfInBounds_toArray, List.set_cons_zero, List.set_cons_succ]
                  refine wpAnyH_done (by kernel_rfl) ?_ _
                  go_wp2_with fail
                  go_meet
                  case rel => exact ⟨a.n, L, A2, c2, rfl, by omega, by rw [← HH.out]; exact hor_up (by omega), Lib.hid HR3.out.more⟩
                · have p2 : decide (a.n ≤ most) = false := decide_eq_false hq
                  rw [decide_eq_false (show ¬ (la < a.n ∧ a.n ≤ most) from fun h => hq h.2), if_neg (show ¬ (la < a.n ∧ a.n ≤ most) from fun h => hq h.2)] at c4
                  go_wp2_with fail
                  refine wp_region_held_drew (S := fun w' => Keep (fun k => k = o ∨ k = b) w2 w') (by kernel_rfl) (by first | assumption | exact Keep.refl _ _ | exact keep_drew (Keep.refl _ _)) (fun hHeld => ?_)
                  refine wpAnyH_take (i := 0) (v := ?_) rfl (by kernel_rfl) (by kernel_rfl) (by kernel_rfl) (fun _ _ _ h => h) (Or.inl ⟨by first | kernel_rfl | rfl, ?_⟩) (by assumption) ?_
                  rotate_left
                  · (intro wq hSw; (try dsimp only at hSw); (try simp (maxSteps := 2000000) only [List.getElem_toArray, List.getElem_cons_succ, List.getElem_cons_zero]); go_simp); try with_reducible rfl
                  try simp (maxSteps := 2000000) only [List.getElem_toArray, List.getElem_cons_succ, List.getElem_cons_zero, Act.put, List.setIfInBounds_toArray, List.set_cons_zero, List.set_cons_succ]
                  refine wpAnyH_take (i := 1) (v := ?_) rfl (by kernel_rfl) (by kernel_rfl) (by kernel_rfl) (fun _ _ _ h => h) (Or.inl ⟨by first | kernel_rfl | rfl, ?_⟩) (by assumption) ?_
                  rotate_left
                  · (intro wq hSw; (try dsimp only at hSw); (try simp (maxSteps := 2000000) only [List.getElem_toArray, List.getElem_cons_succ, List.getElem_cons_zero]); go_simp); try with_reducible rfl
                  try simp (maxSteps := 2000000) only [List.getElem_toArray, List.getElem_cons_succ, List.getElem_cons_zero, Act.put, List.setIfInBounds_toArray, List.set_cons_zero, List.set_cons_succ]
                  refine wpAnyH_take (i := 2) (v := ?_) rfl (by kernel_rfl) (by kernel_rfl) (by kernel_rfl) (fun _ _ _ h => h) (Or.inl ⟨by first | kernel_rfl | rfl, ?_⟩) (by assumption) ?_
                  rotate_left
                  · (intro wq hSw; (try dsimp only at hSw); (try simp (maxSteps := 2000000) only [List.getElem_toArray, List.getElem_cons_succ, List.getElem_cons_zero]); go_simp); try with_reducible rfl
                  try simp (maxSteps := 2000000) only [List.getElem_toArray, List.getElem_cons_succ, List.getElem_cons_zero, Act.put, List.setIfInBounds_toArray, List.set_cons_zero, List.set_cons_succ]
                  refine wpAnyH_take (i := 4) (v := ?_) rfl (by kernel_rfl) (by kernel_rfl) (by kernel_rfl) (fun _ _ _ h => h) (Or.inl ⟨by first | kernel_rfl | rfl, ?_⟩) (by assumption) ?_
                  rotate_left
                  · (intro wq hSw; (try dsimp only at hSw); (try simp (maxSteps := 2000000) only [List.getElem_toArray, List.getElem_cons_succ, List.getElem_cons_zero]); go_simp); try with_reducible rfl
                  try simp (maxSteps := 2000000) only [List.getElem_toArray, List.getElem_cons_succ, List.getElem_cons_zero, Act.put, List.setIfInBounds_toArray, List.set_cons_zero, List.set_cons_succ]
                  refine wpAnyH_take (i := 5) (v := ?_) rfl (by kernel_rfl) (by kernel_rfl) (by kernel_rfl) (fun _ _ _ h => h) (Or.inl ⟨by first | kernel_rfl | rfl, ?_⟩) (by assumption) ?_
                  rotate_left
                  · (intro wq hSw; (try dsimp only at hSw); (try simp (maxSteps := 2000000) only [List.getElem_toArray, List.getElem_cons_succ, List.getElem_cons_zero]); go_simp); try with_reducible rfl
                  try simp (maxSteps := 2000000) only [List.getElem_toArray, List.getElem_cons_succ, List.getElem_cons_zero, Act.put, List.setIfInBounds_toArray, List.set_cons_zero, List.set_cons_succ]
                  refine wpAnyH_take (i := 6) (v := ?_) rfl (by kernel_rfl) (by kernel_rfl) (by kernel_rfl) (fun _ _ _ h => h) (Or.inl ⟨by first | kernel_rfl | rfl, ?_⟩) (by assumption) ?_
                  rotate_left
                  · (intro wq hSw; (try dsimp only at hSw); (try simp (maxSteps := 2000000) only [List.getElem_toArray, List.getElem_cons_succ, List.getElem_cons_zero]); go_simp); try with_reducible rfl
                  try simp (maxSteps := 2000000) only [List.getElem_toArray, List.getElem_cons_succ, List.getElem_cons_zero, Act.put, List.setIfInBounds_toArray, List.set_cons_zero, List.set_cons_succ]
                  refine wpAnyH_take (i := 7) (v := ?_) rfl (by kernel_rfl) (by kernel_rfl) (by kernel_rfl) (fun _ _ _ h => h) (Or.inl ⟨by first | kernel_rfl | rfl, ?_⟩) (by assumption) ?_
                  rotate_left
                  · (intro wq hSw; (try dsimp only at hSw); (try simp (maxSteps := 2000000) only [List.getElem_toArray, List.getElem_cons_succ, List.getElem_cons_zero]); go_simp); try with_reducible rfl
                  try simp (maxSteps := 2000000) only [List.getElem_toArray, List.getElem_cons_succ, List.getElem_cons_zero, Act.put, List.setIfInBounds_toArray, List.set_cons_zero, List.set_cons_succ]
                  refine wpAnyH_ready (rs := [3]) (by kernel_rfl) (by simp) ?_
                  refine AllReadyH.cons rfl (fun K hK => ?_) AllReadyH.nil
                  try simp (maxSteps := 2000000) only [List.getElem_toArray, List.getElem_cons_succ, List.getElem_cons_zero]
                  go_simp
                  refine c4.mono ?_
                  rintro e w3 ⟨rfl, h3, k3⟩
                  have HR3 := Lib.hid (HR2d.out.went k3 h3)
                  have KK := Keep.trans (G := fun k => k = o ∨ k = b) (keep_drew (Keep.refl _ w2)) k3 (fun k h _ => h)
                  clear h3 k3 c4
                  try (go_wp2_with fail)
                  refine hK.out _ _ (by first | assumption | exact Keep.refl _ _ | exact keep_drew (Keep.refl _ _)) (fun hHeld => ?_)
                  clear hK K
                  try simp (maxSteps := 2000000) only [List.getElem_toArray, List.getElem_cons_succ, List.getElem_cons_zero, Act.put, List.setIfInBounds_toArray, List.set_cons_zero, List.set_cons_succ]
                  refine wpAnyH_take (i := 8) (v := ?_) rfl (by kernel_rfl) (by kernel_rfl) (by kernel_rfl) (fun _ _ _ h => h) (Or.inl ⟨by first | kernel_rfl | rfl, ?_⟩) (by assumption) ?_
                  rotate_left
                  · (intro wq hSw; (try dsimp only at hSw); (try simp (maxSteps := 2000000) only [List.getElem_toArray, List.getElem_cons_succ, List.getElem_cons_zero]); go_simp); try with_reducible rfl
                  try simp (maxSteps := 2000000) only [List.getElem_toArray, List.getElem_cons_succ, List.getElem_cons_zero, Act.put, List.setIfInBounds_toArray, List.set_cons_zero, List.set_cons_succ]
                  refine wpAnyH_take (i := 9) (v := ?_) rfl (by kernel_rfl) (by kernel_rfl) (by kernel_rfl) (fun _ _ _ h => h) (Or.inl ⟨by first | kernel_rfl | rfl, ?_⟩) (by assumption) ?_
                  rotate_left
                  · (intro wq hSw; (try dsimp only at hSw); (try simp (maxSteps := 2000000) only [List.getElem_toArray, List.getElem_cons_succ, List.getElem_cons_zero]); go_simp); try with_reducible rfl
                  try simp (maxSteps := 2000000) only [List.getElem_toArray, List.getElem_cons_succ, List.getElem_cons_zero, Act.put, List.setIfInBounds_toArray, List.set_cons_zero, List.set_cons_succ]
                  refine wpAnyH_take (i := 10) (v := ?_) rfl (by kernel_rfl) (by kernel_rfl) (by kernel_rfl) (fun _ _ _ h => h) (Or.inl ⟨by first | kernel_rfl | rfl, ?_⟩) (by assumption) ?_
                  rotate_left
                  · (intro wq hSw; (try dsimp only at hSw); (try simp (maxSteps := 2000000) only [List.getElem_toArray, List.getElem_cons_succ, List.getElem_cons_zero]); go_simp); try with_reducible rfl
                  try simp (maxSteps := 2000000) only [List.getElem_toArray, List.getElem_cons_succ, List.getElem_cons_zero, Act.put, List.setIfInBounds_toArray, List.set_cons_zero, List.set_cons_succ]
                  refine wpAnyH_take (i := 11) (v := ?_) rfl (by kernel_rfl) (by kernel_rfl) (by kernel_rfl) (fun _ _ _ h => h) (Or.inl ⟨by first | kernel_rfl | rfl, ?_⟩) (by assumption) ?_
                  rotate_left
                  · (intro wq hSw; (try dsimp only at hSw); (try simp (maxSteps := 2000000) only [List.getElem_toArray, List.getElem_cons_succ, List.getElem_cons_zero]); go_simp); try with_reducible rfl
                  try simp (maxSteps := 2000000) only [List.getElem_toArray, List.getElem_cons_succ, List.getElem_cons_zero, Act.put, List.setIfInBounds_toArray, List.set_cons_zero, List.set_cons_succ]
                  refine wpAnyH_take (i := 12) (v := ?_) rfl (by kernel_rfl) (by kernel_rfl) (by kernel_rfl) (fun _ _ _ h => h) (Or.inl ⟨by first | kernel_rfl | rfl, ?_⟩) (by assumption) ?_
                  rotate_left
                  · (intro wq hSw; (try dsimp only at hSw); (try simp (maxSteps := 2000000) only [List.getElem_toArray, List.getElem_cons_succ, List.getElem_cons_zero]); go_simp); try with_reducible rfl
                  try simp (maxSteps := 2000000) only [List.getElem_toArray, List.getElem_cons_succ, List.getElem_cons_zero, Act.put, List.setIfInBounds_toArray, List.set_cons_zero, List.set_cons_succ]
                  refine wpAnyH_take (i := 13) (v := ?_) rfl (by kernel_rfl) (by kernel_rfl) (by kernel_rfl) (fun _ _ _ h => h) (Or.inl ⟨by first | kernel_rfl | rfl, ?_⟩) (by assumption) ?_
                  rotate_left
                  · (intro wq hSw; (try dsimp only at hSw); (try simp (maxSteps := 2000000) only [List.getElem_toArray, List.getElem_cons_succ, List.getElem_cons_zero]); go_simp); try with_reducible rfl
                  try simp (maxSteps := 2000000) only [List.getElem_toArray, List.getElem_cons_succ, List.getElem_cons_zero, Act.put, List.setIfInBounds_toArray, List.set_cons_zero, List.set_cons_succ]
                  refine wpAnyH_take (i := 14) (v := ?_) rfl (by kernel_rfl) (by kernel_rfl) (by kernel_rfl) (fun _ _ _ h => h) (Or.inl ⟨by first | kernel_rfl | rfl, ?_⟩) (by assumption) ?_
                  rotate_left
                  · (intro wq hSw; (try dsimp only at hSw); (try simp (maxSteps := 2000000) only [List.getElem_toArray, List.getElem_cons_succ, List.getElem_cons_zero]); go_simp); try with_reducible rfl
                  try simp (maxSteps := 2000000) only [List.getElem_toArray, List.getElem_cons_succ, List.getElem_cons_zero, Act.put, List.setIfInBounds_toArray, List.set_cons_zero, List.set_cons_succ]
                  refine wpAnyH_done (by kernel_rfl) ?_ _
                  go_wp2_with fail
                  go_meet
                  case rel => exact ⟨la, L, A2, c2, rfl, Int.le_refl _, by rw [HH.out]; exact Int.le_refl _, Lib.hid HR3.out.more⟩
              · have p1 : decide (la < a.n) = false := decide_eq_false hp
                rw [decide_eq_false (show ¬ (la < a.n ∧ a.n ≤ most) from fun h => hp h.1), if_neg (show ¬ (la < a.n ∧ a.n ≤ most) from fun h => hp h.1)] at c4
                go_wp2_with fail
                refine wp_region_held_drew (S := fun w' => Keep (fun k => k = o ∨ k = b) w2 w') (by kernel_rfl) (by first | assumption | exact Keep.refl _ _ | exact keep_drew (Keep.refl _ _)) (fun hHeld => ?_)
                refine wpAnyH_take (i := 0) (v := ?_) rfl (by kernel_rfl) (by kernel_rfl) (by kernel_rfl) (fun _ _ _ h => h) (Or.inl ⟨by first | kernel_rfl | rfl, ?_⟩) (by assumption) ?_
                rotate_left
                · (intro wq hSw; (try dsimp only at hSw); (try simp (maxSteps := 2000000) only [List.getElem_toArray, List.getElem_cons_succ, List.getElem_cons_zero]); go_simp); try with_reducible rfl
                try simp (maxSteps := 2000000) only [List.getElem_toArray, List.getElem_cons_succ, List.getElem_cons_zero, Act.put, List.setIfInBounds_toArray, List.set_cons_zero, List.set_cons_succ]
                refine wpAnyH_take (i := 1) (v := ?_) rfl (by kernel_rfl) (by kernel_rfl) (by kernel_rfl) (fun _ _ _ h => h) (Or.inl ⟨by first | kernel_rfl | rfl, ?_⟩) (by assumption) ?_
                rotate_left
                · (intro wq hSw; (try dsimp only at hSw); (try simp (maxSteps := 2000000) only [List.getElem_toArray, List.getElem_cons_succ, List.getElem_cons_zero]); go_simp); try with_reducible rfl
                try simp (maxSteps := 2000000) only [List.getElem_toArray, List.getElem_cons_succ, List.getElem_cons_zero, Act.put, List.setIfInBounds_toArray, List.set_cons_zero, List.set_cons_succ]
                refine wpAnyH_take (i := 2) (v := ?_) rfl (by kernel_rfl) (by kernel_rfl) (by kernel_rfl) (fun _ _ _ h => h) (Or.inl ⟨by first | kernel_rfl | rfl, ?_⟩) (by assumption) ?_
                rotate_left
                · (intro wq hSw; (try dsimp only at hSw); (try simp (maxSteps := 2000000) only [List.getElem_toArray, List.getElem_cons_succ, List.getElem_cons_zero]); go_simp); try with_reducible rfl
                try simp (maxSteps := 2000000) only [List.getElem_toArray, List.getElem_cons_succ, List.getElem_cons_zero, Act.put, List.setIfInBounds_toArray, List.set_cons_zero, List.set_cons_succ]
                refine wpAnyH_take (i := 4) (v := ?_) rfl (by kernel_rfl) (by kernel_rfl) (by kernel_rfl) (fun _ _ _ h => h) (Or.inl ⟨by first | kernel_rfl | rfl, ?_⟩) (by assumption) ?_
                rotate_left
                · (intro wq hSw; (try dsimp only at hSw); (try simp (maxSteps := 2000000) only [List.getElem_toArray, List.getElem_cons_succ, List.getElem_cons_zero]); go_simp); try with_reducible rfl
                try simp (maxSteps := 2000000) only [List.getElem_toArray, List.getElem_cons_succ, List.getElem_cons_zero, Act.put, List.setIfInBounds_toArray, List.set_cons_zero, List.set_cons_succ]
                refine wpAnyH_take (i := 5) (v := ?_) rfl (by kernel_rfl) (by kernel_rfl) (by kernel_rfl) (fun _ _ _ h => h) (Or.inl ⟨by first | kernel_rfl | rfl, ?_⟩) (by assumption) ?_
                rotate_left
                · (intro wq hSw; (try dsimp only at hSw); (try simp (maxSteps := 2000000) only [List.getElem_toArray, List.getElem_cons_succ, List.getElem_cons_zero]); go_simp); try with_reducible rfl
                try simp (maxSteps := 2000000) only [List.getElem_toArray, List.getElem_cons_succ, List.getElem_cons_zero, Act.put, List.setIfInBounds_toArray, List.set_cons_zero, List.set_cons_succ]
                refine wpAnyH_take (i := 6) (v := ?_) rfl (by kernel_rfl) (by kernel_rfl) (by kernel_rfl) (fun _ _ _ h => h) (Or.inl ⟨by first | kernel_rfl | rfl, ?_⟩) (by assumption) ?_
                rotate_left
                · (intro wq hSw; (try dsimp only at hSw); (try simp (maxSteps := 2000000) only [List.getElem_toArray, List.getElem_cons_succ, List.getElem_cons_zero]); go_simp); try with_reducible rfl
                try simp (maxSteps := 2000000) only [List.getElem_toArray, List.getElem_cons_succ, List.getElem_cons_zero, Act.put, List.setIfInBounds_toArray, List.set_cons_zero, List.set_cons_succ]
                refine wpAnyH_take (i := 7) (v := ?_) rfl (by kernel_rfl) (by kernel_rfl) (by kernel_rfl) (fun _ _ _ h => h) (Or.inl ⟨by first | kernel_rfl | rfl, ?_⟩) (by assumption) ?_
                rotate_left
                · (intro wq hSw; (try dsimp only at hSw); (try simp (maxSteps := 2000000) only [List.getElem_toArray, List.getElem_cons_succ, List.getElem_cons_zero]); go_simp); try with_reducible rfl
                try simp (maxSteps := 2000000) only [List.getElem_toArray, List.getElem_cons_succ, List.getElem_cons_zero, Act.put, List.setIfInBounds_toArray, List.set_cons_zero, List.set_cons_succ]
                refine wpAnyH_ready (rs := [3]) (by kernel_rfl) (by simp) ?_
                refine AllReadyH.cons rfl (fun K hK => ?_) AllReadyH.nil
                try simp (maxSteps := 2000000) only [List.getElem_toArray, List.getElem_cons_succ, List.getElem_cons_zero]
                go_simp
                refine c4.mono ?_
                rintro e w3 ⟨rfl, h3, k3⟩
                have HR3 := Lib.hid (HR2d.out.went k3 h3)
                have KK := Keep.trans (G := fun k => k = o ∨ k = b) (keep_drew (Keep.refl _ w2)) k3 (fun k h _ => h)
                clear h3 k3 c4
                try (go_wp2_with fail)
                refine hK.out _ _ (by first | assumption | exact Keep.refl _ _ | exact keep_drew (Keep.refl _ _)) (fun hHeld => ?_)
                clear hK K
                try simp (maxSteps := 2000000) only [List.getElem_toArray, List.getElem_cons_succ, List.getElem_cons_zero, Act.put, List.setIfInBounds_toArray, List.set_cons_zero, List.set_cons_succ]
                refine wpAnyH_take (i := 8) (v := ?_) rfl (by kernel_rfl) (by kernel_rfl) (by kernel_rfl) (fun _ _ _ h => h) (Or.inl ⟨by first | kernel_rfl | rfl, ?_⟩) (by assumption) ?_
                rotate_left
                · (intro wq hSw; (try dsimp only at hSw); (try simp (maxSteps := 2000000) only [List.getElem_toArray, List.getElem_cons_succ, List.getElem_cons_zero]); go_simp); try with_reducible rfl
                try simp (maxSteps := 2000000) only [List.getElem_toArray, List.getElem_cons_succ, List.getElem_cons_zero, Act.put, List.setIfInBounds_toArray, List.set_cons_zero, List.set_cons_succ]
                refine wpAnyH_take (i := 9) (v := undef) rfl (by kernel_rfl) (by kernel_rfl) (by kernel_rfl) (fun _ _ _ h => h) (Or.inr ⟨by first | kernel_rfl | rfl, rfl⟩) (by assumption) ?_
                try simp (maxSteps := 2000000) only [List.getElem_toArray, List.getElem_cons_succ, List.getElem_cons_zero, Act.put, List.setIfInBounds_toArray, List.set_cons_zero, List.set_cons_succ]
                refine wpAnyH_take (i := 10) (v := undef) rfl (by kernel_rfl) (by kernel_rfl) (by kernel_rfl) (fun _ _ _ h => h) (Or.inr ⟨by first | kernel_rfl | rfl, rfl⟩) (by assumption) ?_
                try simp (maxSteps := 2000000) only [List.getElem_toArray, List.getElem_cons_succ, List.getElem_cons_zero, Act.put, List.setIfInBounds_toArray, List.set_cons_zero, List.set_cons_succ]
                refine wpAnyH_take (i := 11) (v := undef) rfl (by kernel_rfl) (by kernel_rfl) (by kernel_rfl) (fun _ _ _ h => h) (Or.inr ⟨by first | kernel_rfl | rfl, rfl⟩) (by assumption) ?_
                try simp (maxSteps := 2000000) only [List.getElem_toArray, List.getElem_cons_succ, List.getElem_cons_zero, Act.put, List.setIfInBounds_toArray, List.set_cons_zero, List.set_cons_succ]
                refine wpAnyH_take (i := 12) (v := undef) rfl (by kernel_rfl) (by kernel_rfl) (by kernel_rfl) (fun _ _ _ h => h) (Or.inr ⟨by first | kernel_rfl | rfl, rfl⟩) (by assumption) ?_
                try simp (maxSteps := 2000000) only [List.getElem_toArray, List.getElem_cons_succ, List.getElem_cons_zero, Act.put, List.setIfInBounds_toArray, List.set_cons_zero, List.set_cons_succ]
                refine wpAnyH_take (i := 13) (v := ?_) rfl (by kernel_rfl) (by kernel_rfl) (by kernel_rfl) (fun _ _ _ h => h) (Or.inl ⟨by first | kernel_rfl | rfl, ?_⟩) (by assumption) ?_
                rotate_left
                · (intro wq hSw; (try dsimp only at hSw); (try simp (maxSteps := 2000000) only [List.getElem_toArray, List.getElem_cons_succ, List.getElem_cons_zero]); go_simp); try with_reducible rfl
                try simp (maxSteps := 2000000) only [List.getElem_toArray, List.getElem_cons_succ, List.getElem_cons_zero, Act.put, List.setIfInBounds_toArray, List.set_cons_zero, List.set_cons_succ]
                refine wpAnyH_take (i := 14) (v := ?_) rfl (by kernel_rfl) (by kernel_rfl) (by kernel_rfl) (fun _ _ _ h => h) (Or.inl ⟨by first | kernel_rfl | rfl, ?_⟩) (by assumption) ?_
                rotate_left
                · (intro wq hSw; (try dsimp only at hSw); (try simp (maxSteps := 2000000) only [List.getElem_toArray, List.getElem_cons_succ, List.getElem_cons_zero]); go_simp); try with_reducible rfl
                try simp (maxSteps := 2000000) only [List.getElem_toArray, List.getElem_cons_succ, List.getElem_cons_zero, Act.put, List.setIfInBounds_toArray, List.set_cons_zero, List.set_cons_succ]
                refine wpAnyH_done (by kernel_rfl) ?_ _
                go_wp2_with fail
                go_meet
                case rel => exact ⟨la, L, A2, c2, rfl, Int.le_refl _, by rw [HH.out]; exact Int.le_refl _, Lib.hid HR3.out.more⟩
            · have e5 : (a.kind == 4) = false := beq_eq_false_iff_ne.2 hk4
              have e6 : decide (a.kind = 4) = false := decide_eq_false hk4
              go_wp2_with fail
              go_meet
              case rel => exact ⟨la, L, A2, c2, rfl, Int.le_refl _, by rw [HH.out]; exact Int.le_refl _, Lib.hid HR2.out.more⟩
    case rest =>
    obtain ⟨la2, L2, A3, c3, rfl, hla, hh2, HR3⟩ := hcut
    clear HR2 HX2 HH j0 j1 hL100 hhl
    as_aux_lemma =>
    obtain ⟨r1, r2, r3⟩ := HR3.out.orc.rng
    have c1 := olast_ok HR3.out.orc
    have c4 := ohor_any HR3.out.orc
    obtain ⟨h2, hh⟩ : ∃ h2, hor la2 L2 = h2 := ⟨_, rfl⟩
    have HH := Lib.hid hh
    have h2l : h2 ≤ la2 := by rw [← hh]; exact (hor_spec L2 la2).1
    rw [hh] at c4 hh2
    clear hh
    have g1 : decide (la2 < la) = false := decide_eq_false (by omega)
    have g2 : decide (most < la2) = false := decide_eq_false (by omega)
    have g3 : decide (h2 < h0) = false := decide_eq_false (by omega)
    have g4 : decide (la2 < h2) = false := decide_eq_false (by omega)
    go_wp2_with fail
    refine c1.mono ?_
    rintro e w9 ⟨rfl, h9⟩
    replace h9 := h9.symm
    subst h9
    go_wp2_with fail
    refine c1.mono ?_
    rintro e w9 ⟨rfl, h9⟩
    replace h9 := h9.symm
    subst h9
    clear c1
    go_wp2_with fail
    refine c4.mono ?_
    rintro e w4 ⟨rfl, t4⟩
    have HR4 := Lib.hid (HR3.out.below t4)
    have c4 := ohor_any HR4.out.orc
    rw [HH.out] at c4
    clear t4 HR3
    go_wp2_with fail
    refine c4.mono ?_
    rintro e w5 ⟨rfl, t5⟩
    have HR5 := Lib.hid (HR4.out.below t5)
    have c1 := olast_ok HR5.out.orc
    have c6 := oopen_ok HR5.out.orc
    clear t5 HR4 c4
    go_wp2_with fail
    refine c1.mono ?_
    rintro e w9 ⟨rfl, h9⟩
    replace h9 := h9.symm
    subst h9
    clear c1
    go_wp2_with fail
    refine c6.mono ?_
    rintro e w9 ⟨rfl, h9⟩
    replace h9 := h9.symm
    subst h9
    clear c6
    go_wp2_with fail
    go_loopw [17] (fun vk wq => ∃ k : Nat, k ≤ L2.length ∧ vk = .int .i64 k ∧ Hid (RisAt w wq B o b la2 most L2 (.slice A3 L2.length c3) (i + 1))) (fun vk _ => L2.length - (intOf vk).toNat)
    case atStart => exact ⟨0, Nat.zero_le _, rfl, HR5⟩
    case round =>
      clear HR5
      obtain ⟨wv, rfl⟩ : ∃ wv, wv = wr := ⟨_, rfl⟩
      obtain ⟨k, hk, rfl, HR5⟩ := hrel
      have p3 : (0 : Int) ≤ (k : Int) := Int.natCast_nonneg _
      have hl1 := HR5.out.len
      by_cases hkl : k < L2.length
      · have p4 : (k : Int) < (L2.length : Int) := by omega
        obtain ⟨A9, c9, hv9, hnc, hrd9⟩ := HR5.out.own.rd (S' := fun _ => True) (fun _ _ => trivial) (fun cs z hz => hz)
        simp only [Value.slice.injEq] at hv9
        obtain ⟨rfl, _, rfl⟩ := hv9
        obtain ⟨b7, o7, x, rfl, hx, hb7, _, hc7⟩ := u64_in hrd9 hkl
        have hhx : decide (x < h2) = false := decide_eq_false (by have := (hor_spec L2 la2).2.1 _ (List.mem_of_getElem? hx); rw [HH.out] at this; omega)
        have u7 : ∀ w', Below wv.heap.size wv w' → w'.cell? ⟨b7, o7 + k, none⟩ = some (.int .u64 x) := fun w' h => (h.cell (p := ⟨b7, o7 + k, none⟩) hb7).trans hc7
        have HRd := Lib.hid (HR5.out.below (Below.refl _ _).drew)
        have c7 := ohor_any HRd.out.orc
        rw [HH.out] at c7
        clear hx hrd9 hc7 hnc HR5
        go_wp2_with fail
        refine wp_region_held_drew (S := fun w' => Below wv.heap.size wv w') (by kernel_rfl) (by first | assumption | exact Below.refl _ _ | exact (Below.refl _ _).drew) (fun hHeld => ?_)
        refine wpAnyH_take (i := 0) (v := ?_) rfl (by kernel_rfl) (by kernel_rfl) (by kernel_rfl) (fun _ _ _ h => h) (Or.inl ⟨by first | kernel_rfl | rfl, ?_⟩) (by assumption) ?_
        rotate_left
        · (intro wq hSw; (try dsimp only at hSw); (try simp (maxSteps := 2000000) only [List.getElem_toArray, List.getElem_cons_succ, List.getElem_cons_zero]); go_simp); try with_reducible rfl
        try simp (maxSteps := 2000000) only [List.getElem_toArray, List.getElem_cons_succ, List.getElem_cons_zero, Act.put, List.setIfInBounds_toArray, List.set_cons_zero, List.set_cons_succ]
        refine wpAnyH_take (i := 1) (v := ?_) rfl (by kernel_rfl) (by kernel_rfl) (by kernel_rfl) (fun _ _ _ h => h) (Or.inl ⟨by first | kernel_rfl | rfl, ?_⟩) (by assumption) ?_
        rotate_left
        · (intro wq hSw; (try dsimp only at hSw); (try simp (maxSteps := 2000000) only [List.getElem_toArray, List.getElem_cons_succ, List.getElem_cons_zero]); go_simp); try with_reducible rfl
        try simp (maxSteps := 2000000) only [List.getElem_toArray, List.getElem_cons_succ, List.getElem_cons_zero, Act.put, List.setIfInBounds_toArray, List.set_cons_zero, List.set_cons_succ]
        refine wpAnyH_take (i := 2) (v := ?_) rfl (by kernel_rfl) (by kernel_rfl) (by kernel_rfl) (fun _ _ _ h => h) (Or.inl ⟨by first | kernel_rfl | rfl, ?_⟩) (by assumption) ?_
        rotate_left
        · (intro wq hSw; (try dsimp only at hSw); (try simp (maxSteps := 2000000) only [List.getElem_toArray, List.getElem_cons_succ, List.getElem_cons_zero]); go_simp); try with_reducible rfl
        try simp (maxSteps := 2000000) only [List.getElem_toArray, List.getElem_cons_succ, List.getElem_cons_zero, Act.put, List.setIfInBounds_toArray, List.set_cons_zero, List.set_cons_succ]
        refine wpAnyH_take (i := 3) (v := ?_) rfl (by kernel_rfl) (by kernel_rfl) (by kernel_rfl) (fun _ _ _ h => h) (Or.inl ⟨by first | kernel_rfl | rfl, ?_⟩) (by assumption) ?_
        rotate_left
        · (intro wq hSw; (try dsimp only at hSw); (try simp (maxSteps := 2000000) only [List.getElem_toArray, List.getElem_cons_succ, List.getElem_cons_zero]); go_simp); try with_reducible rfl
        try simp (maxSteps := 2000000) only [List.getElem_toArray, List.getElem_cons_succ, List.getElem_cons_zero, Act.put, List.setIfInBounds_toArray, List.set_cons_zero, List.set_cons_succ]
        refine wpAnyH_take (i := 4) (v := ?_) rfl (by kernel_rfl) (by kernel_rfl) (by kernel_rfl) (fun _ _ _ h => h) (Or.inl ⟨by first | kernel_rfl | rfl, ?_⟩) (by assumption) ?_
        rotate_left
        · (intro wq hSw; (try dsimp only at hSw); (try simp (maxSteps := 2000000) only [List.getElem_toArray, List.getElem_cons_succ, List.getElem_cons_zero]); go_simp); try with_reducible rfl
        try simp (maxSteps := 2000000) only [List.getElem_toArray, List.getElem_cons_succ, List.getElem_cons_zero, Act.put, List.setIfInBounds_toArray, List.set_cons_zero, List.set_cons_succ]
        refine wpAnyH_ready (rs := [5]) (by kernel_rfl) (by simp) ?_
        refine AllReadyH.cons rfl (fun K hK => ?_) AllReadyH.nil
        try simp (maxSteps := 2000000) only [List.getElem_toArray, List.getElem_cons_succ, List.getElem_cons_zero]
        go_simp
        refine c7.mono ?_
        rintro e w6 ⟨rfl, t6⟩
        have HR6 := Lib.hid (HRd.out.below t6)
        have TT := below_then t6 hHeld
        clear t6 c7
        try (go_wp2_with fail)
        refine hK.out _ _ (by first | assumption | exact Below.refl _ _ | exact (Below.refl _ _).drew) (fun hHeld => ?_)
        clear hK K
        try simp (maxSteps := 2000000) only [List.getElem_toArray, List.getElem_cons_succ, List.getElem_cons_zero, Act.put, List.setIfInBounds_toArray, List.set_cons_zero, List.set_cons_succ]
        refine wpAnyH_take (i := 6) (v := ?_) rfl (by kernel_rfl) (by kernel_rfl) (by kernel_rfl) (fun _ _ _ h => h) (Or.inl ⟨by first | kernel_rfl | rfl, ?_⟩) (by assumption) ?_
        rotate_left
        · (intro wq hSw; (try dsimp only at hSw); (try simp (maxSteps := 2000000) only [List.getElem_toArray, List.getElem_cons_succ, List.getElem_cons_zero]); go_simp); try with_reducible rfl
        try simp (maxSteps := 2000000) only [List.getElem_toArray, List.getElem_cons_succ, List.getElem_cons_zero, Act.put, List.setIfInBounds_toArray, List.set_cons_zero, List.set_cons_succ]
        refine wpAnyH_done (by kernel_rfl) ?_ _
        go_wp2_with fail
        exact ⟨⟨k + 1, by omega, by go_num, HR6⟩, by simp [intOf]; omega⟩
      · obtain rfl : k = L2.length := by omega
        have p4 : ¬ (L2.length : Int) < (L2.length : Int) := by omega
        go_wp2_with fail
        exact ⟨⟨i + 1, la2, L2, A3, c3, by omega, by go_num, rfl, HR5⟩, by simp [intOf]; omega⟩
end Go.Proofs.Ytpibaahiboajhaa
