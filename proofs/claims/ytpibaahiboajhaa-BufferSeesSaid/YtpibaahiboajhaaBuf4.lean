/-
  Spans; what of a buffer is shown.
-/
import Derived.Test.YtpibaahiboajhaaBuf3
set_option linter.unusedSimpArgs false
set_option linter.unusedVariables false
namespace Go.Proofs.Ytpibaahiboajhaa
open Go.RowKit Go.Cib
attribute [local go_sem] cell_set Later.cell Later.frozen Grw.cell Grw.frozen

/-- Does a text stand in a span? -/
def inB (f t k : ByteArray) : Bool := !(Op.bytesLess k.toList f.toList) && (decide (t.size = 0) || Op.bytesLess k.toList t.toList)
set_option maxRecDepth 100000 in
theorem ahead_any (k t : ByteArray) (w : World) : Calls Try.prog 145 #[.string k, .string t] w fun e w' => e = .returned (.bool (decide (t.size = 0) || Op.bytesLess k.toList t.toList)) ∧ w' = w := by
  by_cases h : t.size = 0
  · have q : t.toList.isEmpty = true := by rw [(str_nil t).2 h]; rfl
    have q2 : t.toList = [] := (str_nil t).2 h
    rw [decide_eq_true h]
    go_enter Try.func145, Try.ntmps145
    go_wp2_with fail
    go_ret
    exact ⟨rfl, rfl⟩
  · have q2 : ¬ t.toList = [] := fun e => h ((str_nil t).1 e)
    have q : t.toList.isEmpty = false := by simpa using q2
    rw [decide_eq_false h]
    go_enter Try.func145, Try.ntmps145
    go_wp2_with fail
    go_ret
    exact ⟨rfl, rfl⟩
set_option maxRecDepth 100000 in
theorem in_any (f t k : ByteArray) (w : World) : Calls Try.prog 128 #[.agg #[.string f, .string t], .string k] w fun e w' => e = .returned (.bool (inB f t k)) ∧ Below w.heap.size w w' := by
  have wA : Below w.heap.size w (w.alloc (.cells #[.string f, .string t] 56)) := (by repeat (first | (with_reducible exact Below.refl _ _) | (with_reducible assumption) | (with_reducible refine Below.drew ?_) | (with_reducible refine Below.setCell ?_ ?_ _) | (with_reducible refine Below.alloc ?_ ?_ _) | (with_reducible refine Below.later ?_ ?_ _) | (first | (with_reducible exact Nat.le_refl _) | omega | (simp only [World.size_alloc, World.size_setCell, World.size_drew] <;> omega))))
  have X := BoxAt.new w #[.string f, .string t] 56
  obtain ⟨w1, hw1⟩ : ∃ w1, w.alloc (.cells #[.string f, .string t] 56) = w1 := ⟨_, rfl⟩
  rw [hw1] at wA X
  have c0 := X.cell 0; have c1 := X.cell 1
  have ha := ahead_any k t w1
  unfold inB
  clear X
  cases hf : Op.bytesLess k.toList f.toList with
  | true =>
    go_enter Try.func128, Try.ntmps128
    go_wp2_with fail
    go_ret
    exact ⟨rfl, wA⟩
  | false =>
    obtain ⟨B, hB⟩ : ∃ B, (decide (t.size = 0) || Op.bytesLess k.toList t.toList) = B := ⟨_, rfl⟩
    rw [hB] at ha ⊢
    clear hB
    go_enter Try.func128, Try.ntmps128
    go_wp2_with fail
    refine ha.mono ?_
    rintro e w9 ⟨rfl, h1⟩
    replace h1 := h1.symm
    subst h1
    go_wp2_with fail
    go_ret
    exact ⟨by simp, wA⟩
set_option maxRecDepth 100000 in
theorem rin_any (f t k : ByteArray) (w : World) : Calls Try.prog 100 #[.agg #[.string f, .string t], .string k] w fun e w' => e = .returned (.bool (inB f t k)) ∧ Below w.heap.size w w' := by
  have wA : Below w.heap.size w (w.alloc (.cells #[.string f, .string t] 56)) := (by repeat (first | (with_reducible exact Below.refl _ _) | (with_reducible assumption) | (with_reducible refine Below.drew ?_) | (with_reducible refine Below.setCell ?_ ?_ _) | (with_reducible refine Below.alloc ?_ ?_ _) | (with_reducible refine Below.later ?_ ?_ _) | (first | (with_reducible exact Nat.le_refl _) | omega | (simp only [World.size_alloc, World.size_setCell, World.size_drew] <;> omega))))
  have X := BoxAt.new w #[.string f, .string t] 56
  obtain ⟨w1, hw1⟩ : ∃ w1, w.alloc (.cells #[.string f, .string t] 56) = w1 := ⟨_, rfl⟩
  rw [hw1] at wA X
  have c0 := X.cell 0; have c1 := X.cell 1
  unfold inB
  clear X
  cases hf : Op.bytesLess k.toList f.toList with
  | true =>
    go_enter Try.func100, Try.ntmps100
    go_wp2_with fail
    go_ret
    exact ⟨rfl, wA⟩
  | false =>
    by_cases h : t.size = 0
    · have q : t.toList.isEmpty = true := by rw [(str_nil t).2 h]; rfl
      have q2 : t.toList = [] := (str_nil t).2 h
      rw [decide_eq_true h]
      go_enter Try.func100, Try.ntmps100
      go_wp2_with fail
      go_ret
      exact ⟨rfl, wA⟩
    · have q2 : ¬ t.toList = [] := fun e => h ((str_nil t).1 e)
      have q : t.toList.isEmpty = false := by simpa using q2
      rw [decide_eq_false h]
      cases hk : Op.bytesLess k.toList t.toList with
      | true =>
        go_enter Try.func100, Try.ntmps100
        go_wp2_with fail
        go_ret
        exact ⟨rfl, wA⟩
      | false =>
        go_enter Try.func100, Try.ntmps100
        go_wp2_with fail
        go_ret
        exact ⟨rfl, wA⟩

/-! ### What is found -/
structure Fd where
  key : ByteArray
  own : Bool
  val : List Int
  places : List Int
  gen : Int
  size : Int
def FdR (S : Nat → Prop) (w : World) (cs : List Value) (x : Fd) : Prop := ∃ A m c B n e, cs = [.string x.key, .bool x.own, .slice A m c, .slice B n e, .int .u64 x.gen, .int .i64 x.size] ∧ RdL U8R 1 S w A m x.val ∧ RdL IntR 1 S w B n x.places
theorem FdR.stable : Stable FdR := by
  rintro S S' w w' cs e ⟨A, m, c, B, n, d, rfl, h, h2⟩ hk
  exact ⟨A, m, c, B, n, d, rfl, h.stable U8R.stable hk, h2.stable IntR.stable hk⟩
theorem FdR.one : ∀ S w cs x, FdR S w cs x → ∀ u ∈ cs, u.oneCell' = true := by
  rintro S w cs x ⟨A, m, c, B, n, d, rfl, _⟩ u hu
  simp only [List.mem_cons, List.not_mem_nil, or_false] at hu
  rcases hu with rfl | rfl | rfl | rfl | rfl | rfl <;> rfl
def zFd : Value := .agg #[.string ⟨#[]⟩, .bool false, .slice none 0 0, .slice none 0 0, .int .u64 0, .int .i64 0]
theorem sl_fd : SlTy Try.prog 66 82 zFd 6 88 := ⟨by kernel_rfl, by kernel_rfl, by kernel_rfl, by omega⟩
theorem fd_at {S : Nat → Prop} {w : World} {A : Option Addr} {m : Nat} {xs : List Fd} (h : RdL FdR 6 S w A m xs) {i : Nat} (hi : i < m) : ∃ b o x A' m' c' B' n' d', A = some ⟨b, o, none⟩ ∧ xs[i]? = some x ∧ b < w.heap.size ∧ S b ∧ RdL U8R 1 S w A' m' x.val ∧ RdL IntR 1 S w B' n' x.places ∧
    w.cell? ⟨b, o + i * 6, none⟩ = some (.string x.key) ∧ w.cell? ⟨b, o + i * 6 + 1, none⟩ = some (.bool x.own) ∧ w.cell? ⟨b, o + i * 6 + 2, none⟩ = some (.slice A' m' c') ∧ w.cell? ⟨b, o + i * 6 + 3, none⟩ = some (.slice B' n' d') ∧ w.cell? ⟨b, o + i * 6 + 4, none⟩ = some (.int .u64 x.gen) ∧ w.cell? ⟨b, o + i * 6 + 5, none⟩ = some (.int .i64 x.size) := by
  obtain ⟨b, o, rfl, hS, hlt⟩ := h.addr hi
  obtain ⟨hl, cs, h1, ⟨A', m', c', B', n', d', rfl, hr, hr2⟩, h3⟩ := h.at hi
  exact ⟨b, o, xs[i], A', m', c', B', n', d', rfl, by simp [hl], hlt, hS, hr, hr2, h3 0 _ rfl, h3 1 _ rfl, h3 2 _ rfl, h3 3 _ rfl, h3 4 _ rfl, h3 5 _ rfl⟩

/-! ### Whether there is one or not -/
def BufP (w : World) (p : Option Addr) (L : List Wr) : Prop := (∃ b bb, p = some ⟨b, 0, none⟩ ∧ BufB w b bb L) ∨ (L = [] ∧ BNone w p)
theorem BufP.below {w w' : World} {p : Option Addr} {L : List Wr} (h : BufP w p L) (hb : Below w.heap.size w w') : BufP w' p L := by
  rcases h with ⟨b, bb, rfl, h⟩ | ⟨rfl, h⟩
  · exact .inl ⟨b, bb, rfl, h.below hb⟩
  · exact .inr ⟨rfl, h.below hb⟩
theorem BufP.ok {w : World} {p : Option Addr} {L : List Wr} (h : BufP w p L) : WOk L := by
  rcases h with ⟨b, bb, rfl, h⟩ | ⟨rfl, h⟩
  · exact h.ok
  · exact WOk.nil
set_option maxRecDepth 100000 in
theorem bfind_any {w : World} {p : Option Addr} {L : List Wr} (k : ByteArray) (h : Hid (BufP w p L)) :
    Calls Try.prog 52 #[.pointer p, .string k] w fun e w' => FindE w L k e w' := by
  rcases h.out with ⟨b, bb, rfl, hh⟩ | ⟨rfl, hh⟩
  · exact find_ok k (Lib.hid hh)
  · have wB : Below w.heap.size w (w.alloc (.cells #[.string ⟨#[]⟩, .bool false, .slice none 0 0] 102)) := (by repeat (first | (with_reducible exact Below.refl _ _) | (with_reducible assumption) | (with_reducible refine Below.drew ?_) | (with_reducible refine Below.setCell ?_ ?_ _) | (with_reducible refine Below.alloc ?_ ?_ _) | (with_reducible refine Below.later ?_ ?_ _) | (first | (with_reducible exact Nat.le_refl _) | omega | (simp only [World.size_alloc, World.size_setCell, World.size_drew] <;> omega))))
    have X1 := BoxAt.new w #[.string ⟨#[]⟩, .bool false, .slice none 0 0] 102
    obtain ⟨w1, hw1⟩ : ∃ w1, w.alloc (.cells #[.string ⟨#[]⟩, .bool false, .slice none 0 0] 102) = w1 := ⟨_, rfl⟩
    rw [hw1] at wB X1
    have hn := hh w1 wB
    have g0 := X1.frozen 0; have g1 := X1.frozen 1; have g2 := X1.frozen 2
    have j0 := X1.cell 0; have j1 := X1.cell 1; have j2 := X1.cell 2
    have l1 := X1.lt
    go_enter Try.func52, Try.ntmps52
    go_wp2_with fail
    refine hn.mono ?_
    rintro e w9 ⟨rfl, h1⟩
    replace h1 := h1.symm
    subst h1
    go_wp2_with fail
    refine bodyPost_ret (v := .tuple #[.agg #[.string ⟨#[]⟩, .bool false, .slice none 0 0], .bool false]) (by simp [results, Try.results52, go_sem, *]) rfl ?_
    refine ⟨none, 0, 0, rfl, RdL.nil, ?_⟩
    exact (by repeat (first | (with_reducible exact Below.refl _ _) | (with_reducible assumption) | (with_reducible refine Below.drew ?_) | (with_reducible refine Below.setCell ?_ ?_ _) | (with_reducible refine Below.alloc ?_ ?_ _) | (with_reducible refine Below.later ?_ ?_ _) | (first | (with_reducible exact Nat.le_refl _) | omega | (simp only [World.size_alloc, World.size_setCell, World.size_drew] <;> omega))))
theorem blist_any {w : World} {p : Option Addr} {L : List Wr} (h : Hid (BufP w p L)) :
    Calls Try.prog 55 #[.pointer p] w fun e w' => ∃ A c, e = .returned (.slice A L.length c) ∧ RdL WrR 3 (w.heap.size ≤ ·) w' A L.length L ∧ Below w.heap.size w w' := by
  rcases h.out with ⟨b, bb, rfl, hh⟩ | ⟨rfl, hh⟩
  · exact blist_ok (Lib.hid hh)
  · have hk := bkeys_none (Lib.hid hh)
    go_enter Try.func55, Try.ntmps55
    go_wp2_with fail
    refine hk.mono ?_
    rintro e w9 ⟨rfl, h1⟩
    replace h1 := h1.symm
    subst h1
    go_wp2_with fail
    go_loopw [3, 9] (fun out vi wr => out = .slice none 0 0 ∧ vi = .int .i64 0 ∧ wr = w) (fun _ _ _ => 0)
    case atStart => exact ⟨rfl, rfl, rfl⟩
    case round =>
      obtain ⟨rfl, rfl, rfl⟩ := hrel
      go_wp2_with fail
      go_ret
      exact ⟨none, 0, rfl, RdL.nil, Below.refl _ _⟩
def fdOf (x : Wr) : Fd := ⟨x.key, true, x.val, [], 0, 0⟩
def shownL (f t : ByteArray) (L : List Wr) : List Fd := (L.filter fun x => !x.dead && inB f t x.key).map fdOf
theorem shown_snoc {f t : ByteArray} {L : List Wr} {i : Nat} {x : Wr} (h : L[i]? = some x) : shownL f t (L.take (i + 1)) = shownL f t (L.take i) ++ (if (!x.dead && inB f t x.key) = true then [fdOf x] else []) := by
  rw [take_snoc h]
  unfold shownL
  rw [List.filter_append, List.map_append, List.filter_cons]
  split <;> simp
theorem shown_len {f t : ByteArray} (L : List Wr) : (shownL f t L).length ≤ L.length := by
  unfold shownL; rw [List.length_map]; exact List.length_filter_le _ _
set_option maxRecDepth 100000 in
set_option maxHeartbeats 4000000 in
theorem shown_any {w : World} {p : Option Addr} {L : List Wr} (h : Hid (BufP w p L)) (f t : ByteArray) :
    Calls Try.prog 96 #[.pointer p, .agg #[.string f, .string t]] w fun e w' => ∃ A c, e = .returned (.slice A (shownL f t L).length c) ∧ (shownL f t L).length ≤ c ∧ RdL FdR 6 (w.heap.size ≤ ·) w' A (shownL f t L).length (shownL f t L) ∧ Below w.heap.size w w' := by
  have wA : Below w.heap.size w (w.alloc (.cells #[.string f, .string t] 56)) := (by repeat (first | (with_reducible exact Below.refl _ _) | (with_reducible assumption) | (with_reducible refine Below.drew ?_) | (with_reducible refine Below.setCell ?_ ?_ _) | (with_reducible refine Below.alloc ?_ ?_ _) | (with_reducible refine Below.later ?_ ?_ _) | (first | (with_reducible exact Nat.le_refl _) | omega | (simp only [World.size_alloc, World.size_setCell, World.size_drew] <;> omega))))
  have X0 := BoxAt.new w #[.string f, .string t] 56
  obtain ⟨wx, hw1⟩ : ∃ w1, w.alloc (.cells #[.string f, .string t] 56) = w1 := ⟨_, rfl⟩
  rw [hw1] at wA X0
  have hl := blist_any (Lib.hid (h.out.below wA))
  have hL16 : L.length ≤ 16 := h.out.ok.len
  have HX0 := Lib.hid X0
  have WA := Lib.hid wA
  clear X0 wA
  go_enter Try.func96, Try.ntmps96
  go_wp2_with fail
  refine hl.mono ?_
  rintro e w1 ⟨A1, c1, rfl, r1, t1⟩
  have R1 : Hid (RdL WrR 3 (fun b => w.heap.size ≤ b ∧ b < w1.heap.size) w1 A1 L.length L) := Lib.hid (r1.stable WrR.stable (fun b hb hlt => ⟨⟨Nat.le_trans WA.out.size hb, hlt⟩, rfl⟩))
  have T1 := Lib.hid t1
  have HX1 := Lib.hid (HX0.out.below t1)
  clear r1 t1 hl HX0
  go_wp2_with fail
  go_loopw [5, 11] (fun out vi wr => ∃ i : Nat, i ≤ L.length ∧ vi = .int .i64 i ∧ Hid (OwnL FdR 82 6 w1.heap.size (fun b => w.heap.size ≤ b ∧ b < w1.heap.size) wr out (shownL f t (L.take i)).length (shownL f t (L.take i))) ∧ Hid (Below w1.heap.size w1 wr)) (fun _ vi _ => L.length - (intOf vi).toNat)
  case atStart => exact ⟨0, Nat.zero_le _, rfl, Lib.hid OwnL.nil_, Lib.hid (Below.refl _ _)⟩
  case round =>
    obtain ⟨wo, rfl⟩ : ∃ wo, wo = wr := ⟨_, rfl⟩
    obtain ⟨i, hi, rfl, HO, HT⟩ := hrel
    obtain ⟨Ao, co, rfl⟩ := ownL_form HO.out
    by_cases hlt : i < L.length
    · have q1 : (i : Int) < (L.length : Int) := by omega
      have q2 : (0 : Int) ≤ (i : Int) := Int.natCast_nonneg _
      obtain ⟨g, og, x, A, m, c, rfl, hx, hg, _, hr, pk, pd, pv⟩ := wr_at (R1.out.below WrR.stable HT.out) hlt
      have wB : Below wo.heap.size wo (wo.alloc (.cells #[.string x.key, .bool x.dead, .slice A m c] 102)) := (by repeat (first | (with_reducible exact Below.refl _ _) | (with_reducible assumption) | (with_reducible refine Below.drew ?_) | (with_reducible refine Below.setCell ?_ ?_ _) | (with_reducible refine Below.alloc ?_ ?_ _) | (with_reducible refine Below.later ?_ ?_ _) | (first | (with_reducible exact Nat.le_refl _) | omega | (simp only [World.size_alloc, World.size_setCell, World.size_drew] <;> omega))))
      have X2 := BoxAt.new wo #[.string x.key, .bool x.dead, .slice A m c] 102
      obtain ⟨w2, hw2⟩ : ∃ w2, wo.alloc (.cells #[.string x.key, .bool x.dead, .slice A m c] 102) = w2 := ⟨_, rfl⟩
      rw [hw2] at wB X2
      have T2 := below_then wB HT.out
      have Y0 := (HX1.out.below HT.out).below wB
      have s0 := Y0.cell 0; have s1 := Y0.cell 1
      have k0 := X2.cell 0; have k1 := X2.cell 1; have k2 := X2.cell 2
      have HO2 := Lib.hid (HO.out.keep FdR.stable wB)
      have HX := Lib.hid hx
      have HR2 := Lib.hid (hr.below U8R.stable wB)
      have HT2 := Lib.hid T2
      have hsn := shown_snoc (f := f) (t := t) hx
      have HSN := Lib.hid hsn
      have hln : (shownL f t (L.take i)).length ≤ 16 := Nat.le_trans (shown_len _) (by rw [List.length_take]; omega)
      obtain ⟨n, hn⟩ : ∃ n, (shownL f t (L.take i)).length = n := ⟨_, rfl⟩
      rw [hn] at HO2 hln ⊢
      have HN := Lib.hid hn
      clear hsn hn hx hr Y0 wB T2
      cases hd : x.dead with
      | true =>
        rw [hd] at k1 pd hw2
        clear X2
        go_wp2_with fail
        refine ⟨⟨i + 1, by omega, by go_num, ?_, HT2⟩, by simp [intOf]; omega⟩
        rw [HSN.out, hd]
        simp only [Bool.not_true, Bool.false_and, Bool.false_eq_true, if_false, List.append_nil]
        rw [HN.out]
        exact HO2
      | false =>
        rw [hd] at k1 pd hw2
        have hin := in_any f t x.key w2
        obtain ⟨B, hB⟩ : ∃ B, inB f t x.key = B := ⟨_, rfl⟩
        rw [hB] at hin
        have HBB := Lib.hid hB
        clear hB
        go_wp2_with fail
        refine hin.mono ?_
        rintro e w3 ⟨rfl, t3⟩
        have X3 := X2.below t3
        have k0 := X3.cell 0; have k2 := X3.cell 2
        have HT3 := Lib.hid (below_then t3 HT2.out)
        have HO3 := HO2.out.keep FdR.stable t3
        have HR3 := Lib.hid (HR2.out.below U8R.stable t3)
        have hs3 := HT3.out.size
        clear X3 X2 t3 hin s0 s1 pk pd pv
        cases B with
        | false =>
          go_wp2_with fail
          refine ⟨⟨i + 1, by omega, by go_num, ?_, HT3⟩, by simp [intOf]; omega⟩
          rw [HSN.out, hd, HBB.out]
          simp only [Bool.not_false, Bool.true_and, Bool.false_eq_true, if_false, List.append_nil]
          rw [HN.out]
          exact Lib.hid HO3
        | true =>
          have hrest : ∀ bq, (w.heap.size ≤ bq ∧ bq < w1.heap.size) → Go.Cib.Rest (fun b => w.heap.size ≤ b ∧ b < w1.heap.size) (.slice Ao n co) bq := fun bq hb => ⟨hb, fun e => by have := (HO3.lt _ e.symm).1; omega⟩
          go_wp2_with (at_builtin; refine wpList_push1 FdR.stable FdR.one sl_fd rfl (by exact rfl) (by exact rfl) (by exact rfl) HO3 (y := fdOf x) rfl ⟨A, m, c, none, 0, 0, rfl, HR3.out.weaken U8R.stable hrest, RdL.nil⟩ (by unfold maxLen; omega) (by omega) (by omega) ?_; intro A3 c3 u hc3 hown3 hus hub hat)
          refine ⟨⟨i + 1, by omega, by go_num, ?_, Lib.hid (HT3.out.trans hub)⟩, by simp [intOf]; omega⟩
          rw [HSN.out, hd, HBB.out]
          simp only [Bool.not_false, Bool.true_and, if_true, List.length_append, List.length_singleton]
          rw [HN.out]
          exact Lib.hid hown3
    · obtain rfl : i = L.length := by omega
      have q1 : ¬ (L.length : Int) < (L.length : Int) := by omega
      obtain ⟨A, c, hv, hc, hrd⟩ := HO.out.rd (S' := (w.heap.size ≤ ·)) (fun b hb => Nat.le_trans (Nat.le_trans WA.out.size T1.out.size) hb) (fun cs x hx => FdR.stable _ _ _ _ _ _ hx fun b hb _ => ⟨hb.1.1, rfl⟩)
      simp only [Value.slice.injEq] at hv
      obtain ⟨rfl, _, rfl⟩ := hv
      rw [List.take_of_length_le (Nat.le_refl _)] at hrd hc
      rw [List.take_of_length_le (Nat.le_refl L.length)]
      have HR := Lib.hid hrd
      have HC := Lib.hid hc
      clear hrd hc
      go_wp2_with fail
      go_ret
      exact ⟨Ao, co, rfl, HC.out, HR.out, below_then T1.out WA.out |>.trans (HT.out.mono (Nat.le_trans WA.out.size T1.out.size))⟩
end Go.Proofs.Ytpibaahiboajhaa
