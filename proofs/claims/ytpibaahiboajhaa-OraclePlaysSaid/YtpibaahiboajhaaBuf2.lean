/-
  A buffer: what is asked of it, walked (Right, none, Clone, own, write, Put, Delete, Find, Len).
-/
import Derived.Test.YtpibaahiboajhaaBuf1
import Derived.WalkSpells
import Derived.Laws.Cover3
import Derived.Lib.SliceRun
import Derived.Deep.RegionHeld3
set_option linter.unusedSimpArgs false
set_option linter.unusedVariables false
namespace Go.Proofs.Ytpibaahiboajhaa
open Go.RowKit Go.Cib
attribute [local go_sem] cell_set Later.cell Later.frozen Grw.cell Grw.frozen
theorem kt_str : KeyTy Try.prog 9 Value.string := keyTy_string (by kernel_rfl)
theorem un_wmap : Try.prog.underlying 117 = some (.map 9 102) := by kernel_rfl
theorem below_then {w0 w1 w2 : World} (h2 : Below w1.heap.size w1 w2) (h1 : Below w0.heap.size w0 w1) : Below w0.heap.size w0 w2 := h1.trans (h2.mono h1.size)
def zWr : Value := .agg #[.string ⟨#[]⟩, .bool false, .slice none 0 0]
theorem z_wr (w : World) : (zeroValue 102).run Try.prog w = .ok zWr w := by
  kernel_rfl
theorem sl_u8 : SlTy Try.prog 80 5 (.int .u8 0) 1 1 := ⟨by kernel_rfl, by kernel_rfl, by kernel_rfl, by omega⟩

theorem eq_wmap (w : World) (r : Option Nat) : (binOp .eql 117 (.map r) (.map none)).run Try.prog w = .ok (.bool r.isNone) w := run_eql_map_nil _ _ _ _ _ un_wmap
theorem eq_sl8 (w : World) (p : Option Addr) (n c : Nat) : (binOp .eql 80 (.slice p n c) (.slice none 0 0)).run Try.prog w = .ok (.bool p.isNone) w := Lib.run_eql_slice_nil _ _ _ _ _ _ _ _ sl_u8.und
attribute [local go_sem] eq_wmap eq_sl8

set_option maxRecDepth 100000 in
theorem right_any (k : ByteArray) (w : World) :
    Calls Try.prog 110 #[.string k] w fun e w' => e = .returned (.bool (decide (0 < k.size ∧ k.size ≤ 16))) ∧ w' = w := by
  by_cases h0 : 0 < k.size
  · have e0 : (0 : Int) < (k.size : Int) := by omega
    by_cases h1 : k.size ≤ 16
    · have e1 : (k.size : Int) ≤ 16 := by omega
      go_enter Try.func110, Try.ntmps110
      go_wp2_with fail
      go_ret
      simp [h0, h1]
    · have e1 : ¬ (k.size : Int) ≤ 16 := by omega
      go_enter Try.func110, Try.ntmps110
      go_wp2_with fail
      go_ret
      simp [h0, h1]
  · have e0 : ¬ (0 : Int) < (k.size : Int) := by omega
    go_enter Try.func110, Try.ntmps110
    go_wp2_with fail
    go_ret
    simp [h0]
theorem bnone_nil (w : World) : Calls Try.prog 91 #[.pointer none] w fun e w' => e = .returned (.bool true) ∧ w' = w := by
  go_enter Try.func91, Try.ntmps91
  go_wp2_with fail
  go_ret
  exact ⟨rfl, rfl⟩
set_option maxRecDepth 100000 in
theorem bnone_is {b : Nat} {mb : Option Nat} (w : World) (h : w.cell? ⟨b, 0, none⟩ = some (.map mb)) : Calls Try.prog 91 #[.pointer (some ⟨b, 0, none⟩)] w fun e w' => e = .returned (.bool mb.isNone) ∧ w' = w := by
  cases mb with
  | none =>
    go_enter Try.func91, Try.ntmps91
    go_wp2_with fail
    go_ret
    exact ⟨rfl, rfl⟩
  | some bb =>
    go_enter Try.func91, Try.ntmps91
    go_wp2_with fail
    go_ret
    exact ⟨rfl, rfl⟩
set_option maxRecDepth 100000 in
theorem clone8_any {S : Nat → Prop} {w : World} {A : Option Addr} {m c : Nat} {xs : List Int} (R : Hid (RdL U8R 1 S w A m xs)) (hm : m ≤ 1000000) :
    Calls Try.prog 102 #[.slice A m c] w fun e w' => ∃ A' c', e = .returned (.slice A' m c') ∧ RdL U8R 1 (w.heap.size ≤ ·) w' A' m xs ∧ Below w.heap.size w w' := by
  cases A with
  | none =>
    have hm0 : m = 0 := by
      rcases Nat.eq_zero_or_pos m with h | h
      · exact h
      · obtain ⟨b, o, hA, _⟩ := R.out.addr h; cases hA
    subst hm0
    have hx := R.out.1
    have : xs = [] := List.length_eq_zero_iff.1 hx
    subst this
    go_enter Try.func102, Try.ntmps102
    go_wp2_with fail
    go_ret
    exact ⟨none, 0, rfl, RdL.nil, Below.refl _ _⟩
  | some p =>
    go_enter Try.func102, Try.ntmps102
    have hA := Lib.hid (R.out.alloc U8R.stable (.cells #[] 5))
    go_wp2_with (at_builtin; refine wpList_appL U8R.stable U8R.one sl_u8 rfl (by exact rfl) (base := w.heap.size) (S := fun _ => True) (n := 0) (xs := []) (by exact rfl) (OwnL.made #[] 0 (Nat.le_refl _) (by unfold maxLen; omega) rfl) (by exact rfl) hA.out (fun _ _ h => h) (by unfold maxLen; omega) (by omega) (by simp only [World.size_alloc]; omega) ?_; intro A' c' w' hc hown hg hat)
    have hb : Below w.heap.size w w' := ((Below.refl _ _).alloc (Nat.le_refl _) _).grown hg (by simp only [World.size_alloc]; omega) (fun k hk => by simp only [Value.ownBlock, Option.some.injEq] at hk; omega)
    rw [Nat.zero_add, List.nil_append] at hown
    obtain ⟨A2, c2, hv, hc2, hrd⟩ := hown.rd (S' := fun b => w.heap.size ≤ b) (fun b hb => hb) (fun cs x hx => hx)
    simp only [Value.slice.injEq] at hv
    obtain ⟨rfl, _, rfl⟩ := hv
    clear hA hown hg hat
    go_ret
    exact ⟨A', c', rfl, hrd, hb⟩
set_option maxRecDepth 100000 in
theorem own_any {S : Nat → Prop} {w : World} {k : ByteArray} {d : Bool} {A : Option Addr} {m c : Nat} {xs : List Int} (R : Hid (RdL U8R 1 S w A m xs)) (hm : m ≤ 1000000) :
    Calls Try.prog 92 #[.agg #[.string k, .bool d, .slice A m c]] w fun e w' => ∃ A' c', e = .returned (.agg #[.string k, .bool d, .slice A' m c']) ∧ RdL U8R 1 (w.heap.size ≤ ·) w' A' m xs ∧ Below w.heap.size w w' := by
  go_enter Try.func92, Try.ntmps92
  go_wp2_with fail
  have hB : Below w.heap.size w ((w.alloc (.cells #[.string k, .bool d, .slice A m c] 102)).alloc (.cells #[.string ⟨#[]⟩, .bool false, .slice none 0 0] 102)) := (by repeat (first | (with_reducible exact Below.refl _ _) | (with_reducible assumption) | (with_reducible refine Below.drew ?_) | (with_reducible refine Below.setCell ?_ ?_ _) | (with_reducible refine Below.alloc ?_ ?_ _) | (with_reducible refine Below.later ?_ ?_ _) | (first | (with_reducible exact Nat.le_refl _) | omega | (simp only [World.size_alloc, World.size_setCell, World.size_drew] <;> omega))))
  have hR := Lib.hid (R.out.below U8R.stable hB)
  have X1 := (BoxAt.new w #[.string k, .bool d, .slice A m c] 102).alloc (.cells #[.string ⟨#[]⟩, .bool false, .slice none 0 0] 102)
  have X2 := BoxAt.new (w.alloc (.cells #[.string k, .bool d, .slice A m c] 102)) #[.string ⟨#[]⟩, .bool false, .slice none 0 0] 102
  refine (clone8_any hR hm).mono ?_
  rintro e w2 ⟨A2, c2, rfl, R2, t2⟩
  have Y1 := X1.below t2
  have Y2 := X2.below t2
  have t3 := hB.trans (t2.mono (by simp only [World.size_alloc]; omega))
  rw [World.size_alloc] at Y2
  have l1 := Y1.lt
  have l2 := Y2.lt
  have R3 : RdL U8R 1 (fun b => w.heap.size + 1 + 1 ≤ b) w2 A2 m xs := by simpa only [World.size_alloc] using R2
  clear X1 X2 hB hR t2 R2
  have k0 := Y1.cell 0; have k1 := Y1.cell 1; have k2 := Y1.cell 2; have f2 := Y1.frozen 2
  have j0 := Y2.cell 0; have j1 := Y2.cell 1; have j2 := Y2.cell 2; have g0 := Y2.frozen 0; have g1 := Y2.frozen 1; have g2 := Y2.frozen 2
  go_wp2_with fail
  refine bodyPost_ret (v := .agg #[.string k, .bool d, .slice A2 m c2]) (by simp [results, Try.results92, go_sem, *]) rfl ?_
  refine ⟨A2, c2, rfl, ?_, ?_⟩
  · refine R3.stable U8R.stable (fun b hb hlt => ⟨by omega, ?_⟩)
    have n1 : b ≠ w.heap.size := by omega
    have n2 : b ≠ w.heap.size + 1 := by omega
    have q1 : ∀ (W : World) (o : Nat) (v : Value), (W.setCell ⟨w.heap.size, o, none⟩ v).heap[b]? = W.heap[b]? := fun W o v => Below.heap_setCell W ⟨w.heap.size, o, none⟩ v b n1
    have q2 : ∀ (W : World) (o : Nat) (v : Value), (W.setCell ⟨w.heap.size + 1, o, none⟩ v).heap[b]? = W.heap[b]? := fun W o v => Below.heap_setCell W ⟨w.heap.size + 1, o, none⟩ v b n2
    simp only [q1, q2]
  · exact (by repeat (first | (with_reducible exact Below.refl _ _) | (with_reducible assumption) | (with_reducible refine Below.drew ?_) | (with_reducible refine Below.setCell ?_ ?_ _) | (with_reducible refine Below.alloc ?_ ?_ _) | (with_reducible refine Below.later ?_ ?_ _) | (first | (with_reducible exact Nat.le_refl _) | omega | (simp only [World.size_alloc, World.size_setCell, World.size_drew] <;> omega))))

theorem BufM.look {w : World} {bb : Nat} {L : List Wr} (h : BufM w bb L) (k : ByteArray) : ∃ es, MapAt Value.string w bb es ∧ es.length = L.length ∧ (∀ k, (mlook es k = none ∧ findW L k = none) ∨ ∃ v x, mlook es k = some v ∧ findW L k = some x ∧ WvR (· ≠ bb) w v x) ∧
    ∃ s1 b1 A1 m1 c1, (mlook es k).getD zWr = .agg #[.string s1, .bool b1, .slice A1 m1 c1] ∧ (mlook es k).isSome = (findW L k).isSome := by
  obtain ⟨es, h1, h2, h3⟩ := h
  refine ⟨es, h1, h2, h3, ?_⟩
  rcases h3 k with ⟨e1, e2⟩ | ⟨v, x, e1, e2, A, m, c, rfl, hr⟩
  · exact ⟨_, _, _, _, _, by rw [e1]; rfl, by rw [e1, e2]; rfl⟩
  · exact ⟨_, _, _, _, _, by rw [e1]; rfl, by rw [e1, e2]; rfl⟩
/-- The map behind an update. -/
theorem BufM.put {w w' : World} {bb : Nat} {L : List Wr} {es : List (ByteArray × Value)} (hr : RisesW L) (h1 : MapAt Value.string w bb es) (h2 : es.length = L.length)
    (h3 : ∀ k, (mlook es k = none ∧ findW L k = none) ∨ ∃ v x, mlook es k = some v ∧ findW L k = some x ∧ WvR (· ≠ bb) w v x)
    {x : Wr} {v : Value} (hv : WvR (· ≠ bb) w v x) (hk : Keep (· = bb) w w') (hm : MapAt Value.string w' bb (mput es x.key v)) : BufM w' bb (insW L x) := by
  refine ⟨_, hm, ?_, fun k => ?_⟩
  · rw [ins_len hr]
    have hpl : ∀ (es : List (ByteArray × Value)) (k : ByteArray) (v : Value), (mput es k v).length = es.length + (if (mlook es k).isSome then 0 else 1) := by
      intro es k v
      induction es with
      | nil => simp [mput, mlook]
      | cons p r ih =>
        obtain ⟨a, u⟩ := p
        by_cases hak : a = k
        · simp [mput, mlook, hak]
        · simp only [mput, mlook, hak, if_false, List.length_cons, ih]; omega
    rw [hpl, h2]
    rcases h3 x.key with ⟨e1, e2⟩ | ⟨v, y, e1, e2, _⟩
    · rw [e1, e2]; rfl
    · rw [e1, e2]; rfl
  · rw [look_put, find_ins hr]
    by_cases hxk : x.key = k
    · rw [if_pos hxk, if_pos hxk]
      exact .inr ⟨v, x, rfl, rfl, hv.keep hk (fun b h e => h e)⟩
    · rw [if_neg hxk, if_neg hxk]
      refine (h3 k).imp id ?_
      rintro ⟨v, y, e1, e2, e3⟩
      exact ⟨v, y, e1, e2, e3.keep hk (fun b h e => h e)⟩

set_option maxRecDepth 100000 in
set_option maxHeartbeats 4000000 in
theorem write_ok {w : World} {b bb : Nat} {L : List Wr} {k : ByteArray} {d : Bool} {A : Option Addr} {m c : Nat} {xs : List Int} (h : Hid (BufB w b bb L)) (R : Hid (RdL U8R 1 (· ≠ bb) w A m xs)) :
    Calls Try.prog 101 #[.pointer (some ⟨b, 0, none⟩), .agg #[.string k, .bool d, .slice A m c]] w fun e w' => e = .returned (.int .i64 (wrE L ⟨k, d, xs⟩)) ∧ BufB w' b bb (wrW L ⟨k, d, xs⟩) ∧ Keep (· = bb) w w' := by
  have b0 : Below w.heap.size w (w.alloc (.cells #[.string k, .bool d, .slice A m c] 102)) := (Below.refl _ _).alloc (Nat.le_refl _) _
  have X0 := BoxAt.new w #[.string k, .bool d, .slice A m c] 102
  obtain ⟨wA, hwA⟩ : ∃ wA, w.alloc (.cells #[.string k, .bool d, .slice A m c] 102) = wA := ⟨_, rfl⟩
  rw [hwA] at b0 X0
  have HA := Lib.hid (h.out.below b0)
  have RA := Lib.hid (R.out.below U8R.stable b0)
  have hne : bb ≠ w.heap.size := by
    obtain ⟨es, hm, _⟩ := h.out.map
    have := hm.lt; omega
  have hne2 : b ≠ bb := h.out.ne
  have p0 := fun w' (hb : Below wA.heap.size wA w') => (hb.cell (p := ⟨b, 0, none⟩) HA.out.lt).trans HA.out.cell
  have k0 := fun w' (hb : Below wA.heap.size wA w') => (hb.cell (p := ⟨w.heap.size, 0, none⟩) X0.lt).trans (X0.cell 0)
  have k1 := fun w' (hb : Below wA.heap.size wA w') => (hb.cell (p := ⟨w.heap.size, 1, none⟩) X0.lt).trans (X0.cell 1)
  have k2 := fun w' (hb : Below wA.heap.size wA w') => (hb.cell (p := ⟨w.heap.size, 2, none⟩) X0.lt).trans (X0.cell 2)
  have hXl := X0.lt
  obtain ⟨es, hm, hlen, h3, s1, b1, A1, m1, c1, hz, hs⟩ := HA.out.map.look k
  have HM0 := Lib.hid hm
  have H3 := Lib.hid h3
  have hlk : ∀ w', Below wA.heap.size wA w' → (Instr.lookup 117 (.map (some bb)) (.string k) true).run Try.prog w' = .ok (.tuple #[.agg #[.string s1, .bool b1, .slice A1 m1 c1], .bool (findW L k).isSome]) w' := fun w' hb => by
    have := run_lookup (P := Try.prog) kt_str un_wmap z_wr (hm.below hb) k true
    rw [if_pos rfl, hz, hs] at this
    exact this
  clear hz hs hm h3
  have HL := Lib.hid hlen
  clear hlen X0
  go_enter Try.func101, Try.ntmps101
  go_wp2_with fail
  refine (bnone_is wA (p0 wA (Below.refl _ _))).mono ?_
  rintro e w1 ⟨rfl, h1⟩
  replace h1 := h1.symm
  subst h1
  go_wp2_with fail
  refine wp_region_held_drew (S := fun w' => Below wA.heap.size wA w') (by kernel_rfl) (by exact (by repeat (first | (with_reducible exact Below.refl _ _) | (with_reducible assumption) | (with_reducible refine Below.drew ?_) | (with_reducible refine Below.setCell ?_ ?_ _) | (with_reducible refine Below.alloc ?_ ?_ _) | (with_reducible refine Below.later ?_ ?_ _) | (first | (with_reducible exact Nat.le_refl _) | omega | (simp only [World.size_alloc, World.size_setCell, World.size_drew] <;> omega))))) (fun hHeld => ?_)
  refine wpAnyH_take (i := 0) (v := ?_) rfl (by kernel_rfl) (by kernel_rfl) (by kernel_rfl) (fun _ _ _ h => h) (Or.inl ⟨by first | kernel_rfl | rfl, ?_⟩) (by assumption) ?_
  rotate_left
  · (intro wq hSw; (try dsimp only at hSw); (try simp (maxSteps := 2000000) only [List.getElem_toArray, List.getElem_cons_succ, List.getElem_cons_zero]); go_simp); try with_reducible rfl
  try simp (maxSteps := 2000000) only [List.getElem_toArray, List.getElem_cons_succ, List.getElem_cons_zero, Act.put, List.setIfInBounds_toArray, List.set_cons_zero, List.set_cons_succ]
  refine wpAnyH_take (i := 1) (v := ?_) rfl (by kernel_rfl) (by kernel_rfl) (by kernel_rfl) (fun _ _ _ h => h) (Or.inl ⟨by first | kernel_rfl | rfl, ?_⟩) (by assumption) ?_
  rotate_left
  · (intro wq hSw; (try dsimp only at hSw); (try simp (maxSteps := 2000000) only [List.getElem_toArray, List.getElem_cons_succ, List.getElem_cons_zero]); go_simp); try with_reducible rfl
  try simp (maxSteps := 2000000) only [List.getElem_toArray, List.getElem_cons_succ, List.getElem_cons_zero, Act.put, List.setIfInBounds_toArray, List.set_cons_zero, List.set_cons_succ]
  refine wpAnyH_take (i := 2) (v := ?_) rfl (by kernel_rfl) (by kernel_rfl) (by kernel_rfl) (fun _ _ _ h => h) (Or.inl ⟨by first | kernel_rfl | rfl, ?_⟩) (by assumption) ?_
  rotate_left
  · (intro wq hSw; (try dsimp only at hSw); (try simp (maxSteps := 2000000) only [List.getElem_toArray, List.getElem_cons_succ, List.getElem_cons_zero]); go_simp); try with_reducible rfl
  try simp (maxSteps := 2000000) only [List.getElem_toArray, List.getElem_cons_succ, List.getElem_cons_zero, Act.put, List.setIfInBounds_toArray, List.set_cons_zero, List.set_cons_succ]
  refine wpAnyH_take (i := 3) (v := ?_) rfl (by kernel_rfl) (by kernel_rfl) (by kernel_rfl) (fun _ _ _ h => h) (Or.inl ⟨by first | kernel_rfl | rfl, ?_⟩) (by assumption) ?_
  rotate_left
  · (intro wq hSw; (try dsimp only at hSw); (try simp (maxSteps := 2000000) only [List.getElem_toArray, List.getElem_cons_succ, List.getElem_cons_zero]); go_simp); try with_reducible rfl
  try simp (maxSteps := 2000000) only [List.getElem_toArray, List.getElem_cons_succ, List.getElem_cons_zero, Act.put, List.setIfInBounds_toArray, List.set_cons_zero, List.set_cons_succ]
  refine wpAnyH_take (i := 4) (v := ?_) rfl (by kernel_rfl) (by kernel_rfl) (by kernel_rfl) (fun _ _ _ h => h) (Or.inl ⟨by first | kernel_rfl | rfl, ?_⟩) (by assumption) ?_
  rotate_left
  · (intro wq hSw; (try dsimp only at hSw); (try simp (maxSteps := 2000000) only [List.getElem_toArray, List.getElem_cons_succ, List.getElem_cons_zero]); go_simp); try with_reducible rfl
  try simp (maxSteps := 2000000) only [List.getElem_toArray, List.getElem_cons_succ, List.getElem_cons_zero, Act.put, List.setIfInBounds_toArray, List.set_cons_zero, List.set_cons_succ]
  refine wpAnyH_take (i := 5) (v := ?_) rfl (by kernel_rfl) (by kernel_rfl) (by kernel_rfl) (fun _ _ _ h => h) (Or.inl ⟨by first | kernel_rfl | rfl, ?_⟩) (by assumption) ?_
  rotate_left
  · (intro wq hSw; (try dsimp only at hSw); (try simp (maxSteps := 2000000) only [List.getElem_toArray, List.getElem_cons_succ, List.getElem_cons_zero]); go_simp); try with_reducible rfl
  try simp (maxSteps := 2000000) only [List.getElem_toArray, List.getElem_cons_succ, List.getElem_cons_zero, Act.put, List.setIfInBounds_toArray, List.set_cons_zero, List.set_cons_succ]
  refine wpAnyH_take (i := 6) (v := ?_) rfl (by kernel_rfl) (by kernel_rfl) (by kernel_rfl) (fun _ _ _ h => h) (Or.inl ⟨by first | kernel_rfl | rfl, ?_⟩) (by assumption) ?_
  rotate_left
  · (intro wq hSw; (try dsimp only at hSw); (try simp (maxSteps := 2000000) only [List.getElem_toArray, List.getElem_cons_succ, List.getElem_cons_zero]); go_simp); try with_reducible rfl
  try simp (maxSteps := 2000000) only [List.getElem_toArray, List.getElem_cons_succ, List.getElem_cons_zero, Act.put, List.setIfInBounds_toArray, List.set_cons_zero, List.set_cons_succ]
  refine wpAnyH_take (i := 7) (v := ?_) rfl (by kernel_rfl) (by kernel_rfl) (by kernel_rfl) (fun _ _ _ h => h) (Or.inl ⟨by first | kernel_rfl | rfl, ?_⟩) (by assumption) ?_
  rotate_left
  · (intro wq hSw; (try dsimp only at hSw); (try simp (maxSteps := 2000000) only [List.getElem_toArray, List.getElem_cons_succ, List.getElem_cons_zero]); go_simp); try with_reducible rfl
  try simp (maxSteps := 2000000) only [List.getElem_toArray, List.getElem_cons_succ, List.getElem_cons_zero, Act.put, List.setIfInBounds_toArray, List.set_cons_zero, List.set_cons_succ]
  refine wpAnyH_take (i := 8) (v := ?_) rfl (by kernel_rfl) (by kernel_rfl) (by kernel_rfl) (fun _ _ _ h => h) (Or.inl ⟨by first | kernel_rfl | rfl, ?_⟩) (by assumption) ?_
  rotate_left
  · (intro wq hSw; (try dsimp only at hSw); (try simp (maxSteps := 2000000) only [List.getElem_toArray, List.getElem_cons_succ, List.getElem_cons_zero]); go_simp); try with_reducible rfl
  try simp (maxSteps := 2000000) only [List.getElem_toArray, List.getElem_cons_succ, List.getElem_cons_zero, Act.put, List.setIfInBounds_toArray, List.set_cons_zero, List.set_cons_succ]
  refine wpAnyH_take (i := 9) (v := ?_) rfl (by kernel_rfl) (by kernel_rfl) (by kernel_rfl) (fun _ _ _ h => h) (Or.inl ⟨by first | kernel_rfl | rfl, ?_⟩) (by assumption) ?_
  rotate_left
  · (intro wq hSw; (try dsimp only at hSw); (try simp (maxSteps := 2000000) only [List.getElem_toArray, List.getElem_cons_succ, List.getElem_cons_zero]); go_simp); try with_reducible rfl
  try simp (maxSteps := 2000000) only [List.getElem_toArray, List.getElem_cons_succ, List.getElem_cons_zero, Act.put, List.setIfInBounds_toArray, List.set_cons_zero, List.set_cons_succ]
  refine wpAnyH_ready (rs := [10]) (by kernel_rfl) (by simp) ?_
  refine AllReadyH.cons rfl (fun K hK => ?_) AllReadyH.nil
  try simp (maxSteps := 2000000) only [List.getElem_toArray, List.getElem_cons_succ, List.getElem_cons_zero]
  go_simp
  refine hK.out _ _ (by exact (by repeat (first | (with_reducible exact Below.refl _ _) | (with_reducible assumption) | (with_reducible refine Below.drew ?_) | (with_reducible refine Below.setCell ?_ ?_ _) | (with_reducible refine Below.alloc ?_ ?_ _) | (with_reducible refine Below.later ?_ ?_ _) | (first | (with_reducible exact Nat.le_refl _) | omega | (simp only [World.size_alloc, World.size_setCell, World.size_drew] <;> omega))))) (fun hHeld => ?_)
  clear hK K
  try simp (maxSteps := 2000000) only [List.getElem_toArray, List.getElem_cons_succ, List.getElem_cons_zero, Act.put, List.setIfInBounds_toArray, List.set_cons_zero, List.set_cons_succ]
  refine wpAnyH_ready (rs := [11]) (by kernel_rfl) (by simp) ?_
  refine AllReadyH.cons rfl (fun K hK => ?_) AllReadyH.nil
  try simp (maxSteps := 2000000) only [List.getElem_toArray, List.getElem_cons_succ, List.getElem_cons_zero]
  go_simp
  refine hK.out _ _ (by exact (by repeat (first | (with_reducible exact Below.refl _ _) | (with_reducible assumption) | (with_reducible refine Below.drew ?_) | (with_reducible refine Below.setCell ?_ ?_ _) | (with_reducible refine Below.alloc ?_ ?_ _) | (with_reducible refine Below.later ?_ ?_ _) | (first | (with_reducible exact Nat.le_refl _) | omega | (simp only [World.size_alloc, World.size_setCell, World.size_drew] <;> omega))))) (fun hHeld => ?_)
  clear hK K
  try simp (maxSteps := 2000000) only [List.getElem_toArray, List.getElem_cons_succ, List.getElem_cons_zero, Act.put, List.setIfInBounds_toArray, List.set_cons_zero, List.set_cons_succ]
  refine wpAnyH_take (i := 12) (v := ?_) rfl (by kernel_rfl) (by kernel_rfl) (by kernel_rfl) (fun _ _ _ h => h) (Or.inl ⟨by first | kernel_rfl | rfl, ?_⟩) (by assumption) ?_
  rotate_left
  · (intro wq hSw; (try dsimp only at hSw); (try simp (maxSteps := 2000000) only [List.getElem_toArray, List.getElem_cons_succ, List.getElem_cons_zero]); go_simp); try with_reducible rfl
  try simp (maxSteps := 2000000) only [List.getElem_toArray, List.getElem_cons_succ, List.getElem_cons_zero, Act.put, List.setIfInBounds_toArray, List.set_cons_zero, List.set_cons_succ]
  refine wpAnyH_done (by kernel_rfl) ?_ _
  obtain ⟨y, hy⟩ := Later.ex hHeld
  rw [hy]
  clear hHeld hy
  rename_i hq
  clear hq
  have hyb := y.ok
  have wyb : Below w.heap.size w y.to := below_then hyb b0
  have q0 := p0 y.to hyb
  have u0 := k0 y.to hyb
  have u1 := k1 y.to hyb
  have u2 := k2 y.to hyb
  have hright := right_any k y.to
  by_cases hr : 0 < k.size ∧ k.size ≤ 16
  · rw [decide_eq_true hr] at hright
    go_wp2_with fail
    refine hright.mono ?_
    rintro e w2 ⟨rfl, h2⟩
    replace h2 := h2.symm
    subst h2
    have HM := Lib.hid (HM0.out.below hyb)
    have hml : ∀ ty, (Builtin.len_ #[117] ty #[.map (some bb)]).run Try.prog y.to = .ok (.int .i64 L.length) y.to := fun ty => by
      rw [run_lenMap un_wmap HM.out ty, HL.out]
    have hxl : xs.length = m := R.out.1
    by_cases hbig : 400 < m ∨ (findW L k = none ∧ 16 ≤ L.length)
    · have hE : wrE L ⟨k, d, xs⟩ = 260 := by
        unfold wrE
        rw [if_neg (fun e => e hr), if_pos (by rw [hxl]; exact hbig)]
      have HE := Lib.hid hE
      clear hE
      by_cases h4 : 400 < m
      · have e4 : decide ((400 : Int) < (m : Int)) = true := decide_eq_true (by omega)
        go_wp2_with fail
        go_ret
        exact ⟨by rw [HE.out]; rfl, by unfold wrW; rw [HE.out]; exact h.out.below wyb, Keep.of_below wyb⟩
      · have e4 : decide ((400 : Int) < (m : Int)) = false := decide_eq_false (by omega)
        obtain ⟨hf, hl⟩ := hbig.resolve_left h4
        rw [hf] at hlk
        have e5 : decide ((16 : Int) ≤ (L.length : Int)) = true := decide_eq_true (by omega)
        rw [show (findW L k).isSome = false by rw [hf]; rfl]
        go_wp2_with fail
        go_ret
        exact ⟨by rw [HE.out]; rfl, by unfold wrW; rw [HE.out]; exact h.out.below wyb, Keep.of_below wyb⟩
    · have hE : wrE L ⟨k, d, xs⟩ = 0 := by
        unfold wrE
        rw [if_neg (fun e => e hr), if_neg (by rw [hxl]; exact hbig)]
      have HE := Lib.hid hE
      clear hE
      have e4 : decide ((400 : Int) < (m : Int)) = false := decide_eq_false (by omega)
      have hZ := Lib.hid fun w5 (hk5 : Keep (· = bb) y.to w5) (hM5 : MapAt Value.string w5 bb (mput es k (.agg #[.string k, .bool d, .slice A m c]))) =>
        show BufB w5 b bb (wrW L ⟨k, d, xs⟩) ∧ Keep (· = bb) w w5 from
        ⟨⟨by have := World.cell?_of_block (a := ⟨b, 0, none⟩) (hk5.block b (by have := h.out.lt; have := wyb.size; omega) hne2); exact this.trans q0, hne2, by have := h.out.lt; have := wyb.size; have := hk5.size; omega,
          by unfold wrW; rw [HE.out]; exact BufM.put (x := ⟨k, d, xs⟩) h.out.ok.rises HM.out HL.out (fun j => ((H3.out j).imp id fun ⟨v, x, e1, e2, e3⟩ => ⟨v, x, e1, e2, e3.keep (F := fun _ => False) (Keep.of_below hyb) (fun _ _ h => h)⟩)) ⟨A, m, c, rfl, R.out.below U8R.stable wyb⟩ hk5 hM5,
          h.out.ok.write _⟩, (Keep.of_below wyb).trans (G := (· = bb)) hk5 (fun k h _ => h)⟩
      have r0 := fun w' (hk : Keep (· = bb) y.to w') => (World.cell?_of_block (a := ⟨b, 0, none⟩) (hk.block b (by have := h.out.lt; have := wyb.size; omega) hne2)).trans q0
      have hXy : w.heap.size < y.to.heap.size := by have := hyb.size; omega
      have r1 := fun w' (hk : Keep (· = bb) y.to w') => (World.cell?_of_block (a := ⟨w.heap.size, 0, none⟩) (hk.block w.heap.size hXy (fun e => hne e.symm))).trans u0
      have r2 := fun w' (hk : Keep (· = bb) y.to w') => (World.cell?_of_block (a := ⟨w.heap.size, 1, none⟩) (hk.block w.heap.size hXy (fun e => hne e.symm))).trans u1
      have r3 := fun w' (hk : Keep (· = bb) y.to w') => (World.cell?_of_block (a := ⟨w.heap.size, 2, none⟩) (hk.block w.heap.size hXy (fun e => hne e.symm))).trans u2
      cases hf : findW L k with
      | none =>
        have e5 : decide ((16 : Int) ≤ (L.length : Int)) = false := decide_eq_false (fun e => hbig (.inr ⟨hf, by omega⟩))
        clear hlk H3 HL p0 k0 k1 k2
        go_wp2_with fail
        refine wp_region_held_drew (S := fun w' => Keep (· = bb) y.to w') (by kernel_rfl) (by first | assumption | exact Keep.of_below ((Below.refl _ _).drew)) (fun hHeld => ?_)
        refine wpAnyH_take (i := 0) (v := ?_) rfl (by kernel_rfl) (by kernel_rfl) (by kernel_rfl) (fun _ _ _ h => h) (Or.inl ⟨by first | kernel_rfl | rfl, ?_⟩) (by assumption) ?_
        rotate_left
        · (intro wq hSw; (try dsimp only at hSw); (try simp (maxSteps := 2000000) only [List.getElem_toArray, List.getElem_cons_succ, List.getElem_cons_zero]); go_simp); try with_reducible rfl
        try simp (maxSteps := 2000000) only [List.getElem_toArray, List.getElem_cons_succ, List.getElem_cons_zero, Act.put, List.setIfInBounds_toArray, List.set_cons_zero, List.set_cons_succ]
        refine wpAnyH_take (i := 1) (v := ?_) rfl (by kernel_rfl) (by kernel_rfl) (by kernel_rfl) (fun _ _ _ h => h) (Or.inl ⟨by first | kernel_rfl | rfl, ?_⟩) (by assumption) ?_
        rotate_left
        · (intro wq hSw; (try dsimp only at hSw); (try simp (maxSteps := 2000000) only [List.getElem_toArray, List.getElem_cons_succ, List.getElem_cons_zero]); go_simp); try with_reducible rfl
        try simp (maxSteps := 2000000) only [List.getElem_toArray, List.getElem_cons_succ, List.getElem_cons_zero, Act.put, List.setIfInBounds_toArray, List.set_cons_zero, List.set_cons_succ]
        refine wpAnyH_take (i := 2) (v := ?_) rfl (by kernel_rfl) (by kernel_rfl) (by kernel_rfl) (fun _ _ _ h => h) (Or.inl ⟨by first | kernel_rfl | rfl, ?_⟩) (by assumption) ?_
        rotate_left
        · (intro wq hSw; (try dsimp only at hSw); (try simp (maxSteps := 2000000) only [List.getElem_toArray, List.getElem_cons_succ, List.getElem_cons_zero]); go_simp); try with_reducible rfl
        try simp (maxSteps := 2000000) only [List.getElem_toArray, List.getElem_cons_succ, List.getElem_cons_zero, Act.put, List.setIfInBounds_toArray, List.set_cons_zero, List.set_cons_succ]
        refine wpAnyH_take (i := 3) (v := ?_) rfl (by kernel_rfl) (by kernel_rfl) (by kernel_rfl) (fun _ _ _ h => h) (Or.inl ⟨by first | kernel_rfl | rfl, ?_⟩) (by assumption) ?_
        rotate_left
        · (intro wq hSw; (try dsimp only at hSw); (try simp (maxSteps := 2000000) only [List.getElem_toArray, List.getElem_cons_succ, List.getElem_cons_zero]); go_simp); try with_reducible rfl
        try simp (maxSteps := 2000000) only [List.getElem_toArray, List.getElem_cons_succ, List.getElem_cons_zero, Act.put, List.setIfInBounds_toArray, List.set_cons_zero, List.set_cons_succ]
        refine wpAnyH_take (i := 4) (v := ?_) rfl (by kernel_rfl) (by kernel_rfl) (by kernel_rfl) (fun _ _ _ h => h) (Or.inl ⟨by first | kernel_rfl | rfl, ?_⟩) (by assumption) ?_
        rotate_left
        · (intro wq hSw; (try dsimp only at hSw); (try simp (maxSteps := 2000000) only [List.getElem_toArray, List.getElem_cons_succ, List.getElem_cons_zero]); go_simp); try with_reducible rfl
        try simp (maxSteps := 2000000) only [List.getElem_toArray, List.getElem_cons_succ, List.getElem_cons_zero, Act.put, List.setIfInBounds_toArray, List.set_cons_zero, List.set_cons_succ]
        refine wpAnyH_take (i := 5) (v := ?_) rfl (by kernel_rfl) (by kernel_rfl) (by kernel_rfl) (fun _ _ _ h => h) (Or.inl ⟨by first | kernel_rfl | rfl, ?_⟩) (by assumption) ?_
        rotate_left
        · (intro wq hSw; (try dsimp only at hSw); (try simp (maxSteps := 2000000) only [List.getElem_toArray, List.getElem_cons_succ, List.getElem_cons_zero]); go_simp); try with_reducible rfl
        try simp (maxSteps := 2000000) only [List.getElem_toArray, List.getElem_cons_succ, List.getElem_cons_zero, Act.put, List.setIfInBounds_toArray, List.set_cons_zero, List.set_cons_succ]
        refine wpAnyH_take (i := 6) (v := ?_) rfl (by kernel_rfl) (by kernel_rfl) (by kernel_rfl) (fun _ _ _ h => h) (Or.inl ⟨by first | kernel_rfl | rfl, ?_⟩) (by assumption) ?_
        rotate_left
        · (intro wq hSw; (try dsimp only at hSw); (try simp (maxSteps := 2000000) only [List.getElem_toArray, List.getElem_cons_succ, List.getElem_cons_zero]); go_simp); try with_reducible rfl
        try simp (maxSteps := 2000000) only [List.getElem_toArray, List.getElem_cons_succ, List.getElem_cons_zero, Act.put, List.setIfInBounds_toArray, List.set_cons_zero, List.set_cons_succ]
        refine wpAnyH_ready (rs := [7]) (by kernel_rfl) (by simp) ?_
        refine AllReadyH.cons rfl (fun K hK => ?_) AllReadyH.nil
        try simp (maxSteps := 2000000) only [List.getElem_toArray, List.getElem_cons_succ, List.getElem_cons_zero]
        go_simp
        obtain ⟨w5, hu, hM5, hg5, hs5⟩ := run_mapUpdate (P := Try.prog) kt_str un_wmap (HM.out.below ((Below.refl _ _).drew)) k (.agg #[.string k, .bool d, .slice A m c])
        have hk5 : Keep (· = bb) y.to w5 := (Keep.of_below (F := (· = bb)) ((Below.refl _ _).drew)).trans (G := (· = bb)) ((Keep.of_grown hg5).mono (fun k e _ => Option.some.inj e)) (fun k h _ => h)
        rw [hu]
        try (go_wp2_with fail)
        refine hK.out _ _ (by first | assumption | exact Keep.of_below ((Below.refl _ _).drew)) (fun hHeld => ?_)
        clear hK K
        try simp (maxSteps := 2000000) only [List.getElem_toArray, List.getElem_cons_succ, List.getElem_cons_zero, Act.put, List.setIfInBounds_toArray, List.set_cons_zero, List.set_cons_succ]
        refine wpAnyH_done (by kernel_rfl) ?_ _
        go_wp2_with fail
        go_ret
        exact ⟨by rw [HE.out]; rfl, hZ.out w5 hk5 hM5⟩
      | some z =>
        clear hlk H3 HL p0 k0 k1 k2
        go_wp2_with fail
        refine wp_region_held_drew (S := fun w' => Keep (· = bb) y.to w') (by kernel_rfl) (by first | assumption | exact Keep.of_below ((Below.refl _ _).drew)) (fun hHeld => ?_)
        refine wpAnyH_take (i := 0) (v := ?_) rfl (by kernel_rfl) (by kernel_rfl) (by kernel_rfl) (fun _ _ _ h => h) (Or.inl ⟨by first | kernel_rfl | rfl, ?_⟩) (by assumption) ?_
        rotate_left
        · (intro wq hSw; (try dsimp only at hSw); (try simp (maxSteps := 2000000) only [List.getElem_toArray, List.getElem_cons_succ, List.getElem_cons_zero]); go_simp); try with_reducible rfl
        try simp (maxSteps := 2000000) only [List.getElem_toArray, List.getElem_cons_succ, List.getElem_cons_zero, Act.put, List.setIfInBounds_toArray, List.set_cons_zero, List.set_cons_succ]
        refine wpAnyH_take (i := 1) (v := ?_) rfl (by kernel_rfl) (by kernel_rfl) (by kernel_rfl) (fun _ _ _ h => h) (Or.inl ⟨by first | kernel_rfl | rfl, ?_⟩) (by assumption) ?_
        rotate_left
        · (intro wq hSw; (try dsimp only at hSw); (try simp (maxSteps := 2000000) only [List.getElem_toArray, List.getElem_cons_succ, List.getElem_cons_zero]); go_simp); try with_reducible rfl
        try simp (maxSteps := 2000000) only [List.getElem_toArray, List.getElem_cons_succ, List.getElem_cons_zero, Act.put, List.setIfInBounds_toArray, List.set_cons_zero, List.set_cons_succ]
        refine wpAnyH_take (i := 2) (v := ?_) rfl (by kernel_rfl) (by kernel_rfl) (by kernel_rfl) (fun _ _ _ h => h) (Or.inl ⟨by first | kernel_rfl | rfl, ?_⟩) (by assumption) ?_
        rotate_left
        · (intro wq hSw; (try dsimp only at hSw); (try simp (maxSteps := 2000000) only [List.getElem_toArray, List.getElem_cons_succ, List.getElem_cons_zero]); go_simp); try with_reducible rfl
        try simp (maxSteps := 2000000) only [List.getElem_toArray, List.getElem_cons_succ, List.getElem_cons_zero, Act.put, List.setIfInBounds_toArray, List.set_cons_zero, List.set_cons_succ]
        refine wpAnyH_take (i := 3) (v := ?_) rfl (by kernel_rfl) (by kernel_rfl) (by kernel_rfl) (fun _ _ _ h => h) (Or.inl ⟨by first | kernel_rfl | rfl, ?_⟩) (by assumption) ?_
        rotate_left
        · (intro wq hSw; (try dsimp only at hSw); (try simp (maxSteps := 2000000) only [List.getElem_toArray, List.getElem_cons_succ, List.getElem_cons_zero]); go_simp); try with_reducible rfl
        try simp (maxSteps := 2000000) only [List.getElem_toArray, List.getElem_cons_succ, List.getElem_cons_zero, Act.put, List.setIfInBounds_toArray, List.set_cons_zero, List.set_cons_succ]
        refine wpAnyH_take (i := 4) (v := ?_) rfl (by kernel_rfl) (by kernel_rfl) (by kernel_rfl) (fun _ _ _ h => h) (Or.inl ⟨by first | kernel_rfl | rfl, ?_⟩) (by assumption) ?_
        rotate_left
        · (intro wq hSw; (try dsimp only at hSw); (try simp (maxSteps := 2000000) only [List.getElem_toArray, List.getElem_cons_succ, List.getElem_cons_zero]); go_simp); try with_reducible rfl
        try simp (maxSteps := 2000000) only [List.getElem_toArray, List.getElem_cons_succ, List.getElem_cons_zero, Act.put, List.setIfInBounds_toArray, List.set_cons_zero, List.set_cons_succ]
        refine wpAnyH_take (i := 5) (v := ?_) rfl (by kernel_rfl) (by kernel_rfl) (by kernel_rfl) (fun _ _ _ h => h) (Or.inl ⟨by first | kernel_rfl | rfl, ?_⟩) (by assumption) ?_
        rotate_left
        · (intro wq hSw; (try dsimp only at hSw); (try simp (maxSteps := 2000000) only [List.getElem_toArray, List.getElem_cons_succ, List.getElem_cons_zero]); go_simp); try with_reducible rfl
        try simp (maxSteps := 2000000) only [List.getElem_toArray, List.getElem_cons_succ, List.getElem_cons_zero, Act.put, List.setIfInBounds_toArray, List.set_cons_zero, List.set_cons_succ]
        refine wpAnyH_take (i := 6) (v := ?_) rfl (by kernel_rfl) (by kernel_rfl) (by kernel_rfl) (fun _ _ _ h => h) (Or.inl ⟨by first | kernel_rfl | rfl, ?_⟩) (by assumption) ?_
        rotate_left
        · (intro wq hSw; (try dsimp only at hSw); (try simp (maxSteps := 2000000) only [List.getElem_toArray, List.getElem_cons_succ, List.getElem_cons_zero]); go_simp); try with_reducible rfl
        try simp (maxSteps := 2000000) only [List.getElem_toArray, List.getElem_cons_succ, List.getElem_cons_zero, Act.put, List.setIfInBounds_toArray, List.set_cons_zero, List.set_cons_succ]
        refine wpAnyH_ready (rs := [7]) (by kernel_rfl) (by simp) ?_
        refine AllReadyH.cons rfl (fun K hK => ?_) AllReadyH.nil
        try simp (maxSteps := 2000000) only [List.getElem_toArray, List.getElem_cons_succ, List.getElem_cons_zero]
        go_simp
        obtain ⟨w5, hu, hM5, hg5, hs5⟩ := run_mapUpdate (P := Try.prog) kt_str un_wmap (HM.out.below ((Below.refl _ _).drew)) k (.agg #[.string k, .bool d, .slice A m c])
        have hk5 : Keep (· = bb) y.to w5 := (Keep.of_below (F := (· = bb)) ((Below.refl _ _).drew)).trans (G := (· = bb)) ((Keep.of_grown hg5).mono (fun k e _ => Option.some.inj e)) (fun k h _ => h)
        rw [hu]
        try (go_wp2_with fail)
        refine hK.out _ _ (by first | assumption | exact Keep.of_below ((Below.refl _ _).drew)) (fun hHeld => ?_)
        clear hK K
        try simp (maxSteps := 2000000) only [List.getElem_toArray, List.getElem_cons_succ, List.getElem_cons_zero, Act.put, List.setIfInBounds_toArray, List.set_cons_zero, List.set_cons_succ]
        refine wpAnyH_done (by kernel_rfl) ?_ _
        go_wp2_with fail
        go_ret
        exact ⟨by rw [HE.out]; rfl, hZ.out w5 hk5 hM5⟩
  · rw [decide_eq_false hr] at hright
    have hE : wrE L ⟨k, d, xs⟩ = 200 := if_pos hr
    have HE := Lib.hid hE
    clear hE
    go_wp2_with fail
    refine hright.mono ?_
    rintro e w2 ⟨rfl, h2⟩
    replace h2 := h2.symm
    subst h2
    go_wp2_with fail
    go_ret
    exact ⟨by rw [HE.out]; rfl, by unfold wrW; rw [HE.out]; exact h.out.below wyb, Keep.of_below wyb⟩

/-! ### What is asked -/
set_option maxRecDepth 100000 in
theorem put_ok {S : Nat → Prop} {w : World} {b bb : Nat} {L : List Wr} {k : ByteArray} {A : Option Addr} {m c : Nat} {xs : List Int} (h : Hid (BufB w b bb L)) (R : Hid (RdL U8R 1 S w A m xs)) (hm : m ≤ 1000000) :
    Calls Try.prog 63 #[.pointer (some ⟨b, 0, none⟩), .string k, .slice A m c] w fun e w' => e = .returned (.int .i64 (wrE L ⟨k, false, xs⟩)) ∧ BufB w' b bb (wrW L ⟨k, false, xs⟩) ∧ Keep (· = bb) w w' := by
  go_enter Try.func63, Try.ntmps63
  go_wp2_with fail
  refine (clone8_any R hm).mono ?_
  rintro e w1 ⟨A1, c1, rfl, R1, t1⟩
  have hlt : bb < w.heap.size := by obtain ⟨es, hm, _⟩ := h.out.map; exact hm.lt
  have H1 := Lib.hid (h.out.below t1)
  have R2 := Lib.hid (R1.weaken (S' := (· ≠ bb)) U8R.stable (fun b hb => by omega))
  have T1 := Lib.hid t1
  clear R1 t1
  go_wp2_with fail
  refine (write_ok H1 R2).mono ?_
  rintro e w2 ⟨rfl, h2, k2⟩
  have H2 := Lib.hid h2
  have K2 := Lib.hid ((Keep.of_below (F := (· = bb)) T1.out).trans (G := (· = bb)) k2 (fun k h _ => h))
  clear h2 k2
  go_wp2_with fail
  go_ret
  exact ⟨rfl, H2.out, K2.out⟩
set_option maxRecDepth 100000 in
theorem del_ok {w : World} {b bb : Nat} {L : List Wr} {k : ByteArray} (h : Hid (BufB w b bb L)) :
    Calls Try.prog 62 #[.pointer (some ⟨b, 0, none⟩), .string k] w fun e w' => e = .returned (.int .i64 (wrE L ⟨k, true, []⟩)) ∧ BufB w' b bb (wrW L ⟨k, true, []⟩) ∧ Keep (· = bb) w w' := by
  go_enter Try.func62, Try.ntmps62
  go_wp2_with fail
  refine (write_ok h (Lib.hid RdL.nil)).mono ?_
  rintro e w2 ⟨rfl, h2, k2⟩
  have H2 := Lib.hid h2
  have K2 := Lib.hid k2
  clear h2 k2
  go_wp2_with fail
  go_ret
  exact ⟨rfl, H2.out, K2.out⟩
/-- What isn't there. -/
def BNone (w : World) (p : Option Addr) : Prop := ∀ w', Below w.heap.size w w' → Calls Try.prog 91 #[.pointer p] w' fun e w'' => e = .returned (.bool true) ∧ w'' = w'
theorem BNone.nil (w : World) : BNone w none := fun w' _ => bnone_nil w'
theorem BNone.un {w : World} {b : Nat} (hlt : b < w.heap.size) (h : w.cell? ⟨b, 0, none⟩ = some (.map none)) : BNone w (some ⟨b, 0, none⟩) := fun w' hb => bnone_is w' ((hb.cell (p := ⟨b, 0, none⟩) hlt).trans h)
theorem BNone.below {w w' : World} {p : Option Addr} (h : BNone w p) (hb : Below w.heap.size w w') : BNone w' p := fun w2 h2 => h w2 (below_then h2 hb)
set_option maxRecDepth 100000 in
theorem write_none {w : World} {p : Option Addr} {k : ByteArray} {d : Bool} {A : Option Addr} {m c : Nat} (h : Hid (BNone w p)) :
    Calls Try.prog 101 #[.pointer p, .agg #[.string k, .bool d, .slice A m c]] w fun e w' => e = .returned (.int .i64 1) ∧ Below w.heap.size w w' := by
  have b0 : Below w.heap.size w (w.alloc (.cells #[.string k, .bool d, .slice A m c] 102)) := (Below.refl _ _).alloc (Nat.le_refl _) _
  have hn := h.out _ b0
  go_enter Try.func101, Try.ntmps101
  go_wp2_with fail
  refine hn.mono ?_
  rintro e w1 ⟨rfl, rfl⟩
  go_wp2_with fail
  go_ret
  exact ⟨rfl, b0⟩
set_option maxRecDepth 100000 in
theorem put_none {S : Nat → Prop} {w : World} {p : Option Addr} {k : ByteArray} {A : Option Addr} {m c : Nat} {xs : List Int} (h : Hid (BNone w p)) (R : Hid (RdL U8R 1 S w A m xs)) (hm : m ≤ 1000000) :
    Calls Try.prog 63 #[.pointer p, .string k, .slice A m c] w fun e w' => e = .returned (.int .i64 1) ∧ Below w.heap.size w w' := by
  go_enter Try.func63, Try.ntmps63
  go_wp2_with fail
  refine (clone8_any R hm).mono ?_
  rintro e w1 ⟨A1, c1, rfl, R1, t1⟩
  have H1 := Lib.hid (h.out.below t1)
  have T1 := Lib.hid t1
  clear R1 t1
  go_wp2_with fail
  refine (write_none H1).mono ?_
  rintro e w2 ⟨rfl, t2⟩
  have T2 := Lib.hid (below_then t2 T1.out)
  clear t2
  go_wp2_with fail
  go_ret
  exact ⟨rfl, T2.out⟩
set_option maxRecDepth 100000 in
theorem del_none {w : World} {p : Option Addr} {k : ByteArray} (h : Hid (BNone w p)) :
    Calls Try.prog 62 #[.pointer p, .string k] w fun e w' => e = .returned (.int .i64 1) ∧ Below w.heap.size w w' := by
  go_enter Try.func62, Try.ntmps62
  go_wp2_with fail
  refine (write_none h).mono ?_
  rintro e w2 ⟨rfl, t2⟩
  have T2 := Lib.hid t2
  clear t2
  go_wp2_with fail
  go_ret
  exact ⟨rfl, T2.out⟩
set_option maxRecDepth 100000 in
theorem blen_ok {w : World} {b bb : Nat} {L : List Wr} (h : Hid (BufB w b bb L)) :
    Calls Try.prog 51 #[.pointer (some ⟨b, 0, none⟩)] w fun e w' => e = .returned (.int .i64 L.length) ∧ w' = w := by
  have p0 := h.out.cell
  obtain ⟨es, hm, hl, _⟩ := h.out.map
  have hml : ∀ ty, (Builtin.len_ #[117] ty #[.map (some bb)]).run Try.prog w = .ok (.int .i64 L.length) w := fun ty => by
    rw [run_lenMap un_wmap hm ty, hl]
  have hn := bnone_is w p0
  clear hm hl
  go_enter Try.func51, Try.ntmps51
  go_wp2_with fail
  refine hn.mono ?_
  rintro e w1 ⟨rfl, h1⟩
  replace h1 := h1.symm
  subst h1
  go_wp2_with fail
  go_ret
  exact ⟨rfl, rfl⟩
theorem blen_none {w : World} {p : Option Addr} (h : Hid (BNone w p)) :
    Calls Try.prog 51 #[.pointer p] w fun e w' => e = .returned (.int .i64 0) ∧ w' = w := by
  have hn := h.out w (Below.refl _ _)
  go_enter Try.func51, Try.ntmps51
  go_wp2_with fail
  refine hn.mono ?_
  rintro e w1 ⟨rfl, h1⟩
  replace h1 := h1.symm
  subst h1
  go_wp2_with fail
  go_ret
  exact ⟨rfl, rfl⟩
def w0 : Wr := ⟨⟨#[]⟩, false, []⟩
def FindE (w : World) (L : List Wr) (k : ByteArray) (e : Ending) (w' : World) : Prop := ∃ A m c, e = .returned (.tuple #[.agg #[.string ((findW L k).getD w0).key, .bool ((findW L k).getD w0).dead, .slice A m c], .bool (findW L k).isSome]) ∧ RdL U8R 1 (w.heap.size ≤ ·) w' A m ((findW L k).getD w0).val ∧ Below w.heap.size w w'
set_option maxRecDepth 100000 in
theorem find_ok {w : World} {b bb : Nat} {L : List Wr} (k : ByteArray) (h : Hid (BufB w b bb L)) :
    Calls Try.prog 52 #[.pointer (some ⟨b, 0, none⟩), .string k] w fun e w' => FindE w L k e w' := by
  obtain ⟨es, hm, _, h3⟩ := h.out.map
  obtain ⟨x, hx⟩ : ∃ x, (findW L k).getD w0 = x := ⟨_, rfl⟩
  obtain ⟨B, hB⟩ : ∃ B, (findW L k).isSome = B := ⟨_, rfl⟩
  obtain ⟨A, m, c, hv, hs, hr, hm4⟩ : ∃ A m c, (mlook es k).getD zWr = .agg #[.string x.key, .bool x.dead, .slice A m c] ∧ (mlook es k).isSome = B ∧ RdL U8R 1 (· ≠ bb) w A m x.val ∧ m ≤ 400 := by
    rcases h3 k with ⟨e1, e2⟩ | ⟨v, z, e1, e2, A, m, c, rfl, hr⟩
    · rw [e2] at hx hB; subst hx
      exact ⟨none, 0, 0, by rw [e1]; rfl, by rw [e1]; exact hB, RdL.nil, by omega⟩
    · rw [e2] at hx hB
      obtain rfl : z = x := hx
      exact ⟨A, m, c, by rw [e1]; rfl, by rw [e1]; exact hB, hr, by rw [← hr.1]; exact (h.out.ok.each z (findW_mem e2).1).2⟩
  unfold FindE
  rw [hx, hB]
  clear hx hB h3
  have wB : Below w.heap.size w (w.alloc (.cells #[.string ⟨#[]⟩, .bool false, .slice none 0 0] 102)) := (by repeat (first | (with_reducible exact Below.refl _ _) | (with_reducible assumption) | (with_reducible refine Below.drew ?_) | (with_reducible refine Below.setCell ?_ ?_ _) | (with_reducible refine Below.alloc ?_ ?_ _) | (with_reducible refine Below.later ?_ ?_ _) | (first | (with_reducible exact Nat.le_refl _) | omega | (simp only [World.size_alloc, World.size_setCell, World.size_drew] <;> omega))))
  have X1 := BoxAt.new w #[.string ⟨#[]⟩, .bool false, .slice none 0 0] 102
  obtain ⟨w1, hw1⟩ : ∃ w1, w.alloc (.cells #[.string ⟨#[]⟩, .bool false, .slice none 0 0] 102) = w1 := ⟨_, rfl⟩
  rw [hw1] at wB X1
  have hn := bnone_is w1 (h.out.below wB).cell
  have p0 := (h.out.below wB).cell
  have hlk : (Instr.lookup 117 (.map (some bb)) (.string k) true).run Try.prog w1 = .ok (.tuple #[.agg #[.string x.key, .bool x.dead, .slice A m c], .bool B]) w1 := by
    have := run_lookup (P := Try.prog) kt_str un_wmap z_wr (hm.below wB) k true
    rw [if_pos rfl, hv, hs] at this
    exact this
  have wC : Below w.heap.size w (w1.alloc (.cells #[.string x.key, .bool x.dead, .slice A m c] 102)) := wB.alloc wB.size _
  have X2 := X1.alloc (.cells #[.string x.key, .bool x.dead, .slice A m c] 102)
  have HR := Lib.hid (hr.below U8R.stable wC)
  clear hm hv hs hr
  go_enter Try.func52, Try.ntmps52
  go_wp2_with fail
  refine hn.mono ?_
  rintro e w9 ⟨rfl, h1⟩
  replace h1 := h1.symm
  subst h1
  go_wp2_with fail
  refine (own_any HR (by omega)).mono ?_
  rintro e w2 ⟨A2, c2, rfl, R2, t2⟩
  have Y1 := X2.below t2
  have l1 := Y1.lt
  have t3 := below_then t2 wC
  have R3 : RdL U8R 1 (fun b => w.heap.size + 1 ≤ b) w2 A2 m x.val := R2.weaken U8R.stable (fun b hb => by have := wC.size; have := X2.lt; simp only [World.size_alloc] at *; omega)
  clear hn p0 hlk X1 X2 HR R2 t2 wC
  have g0 := Y1.frozen 0; have g1 := Y1.frozen 1; have g2 := Y1.frozen 2
  have j0 := Y1.cell 0; have j1 := Y1.cell 1; have j2 := Y1.cell 2
  go_wp2_with fail
  refine bodyPost_ret (v := .tuple #[.agg #[.string x.key, .bool x.dead, .slice A2 m c2], .bool B]) (by simp [results, Try.results52, go_sem, *]) rfl ?_
  refine ⟨A2, m, c2, rfl, ?_, ?_⟩
  · refine R3.stable U8R.stable (fun b hb hlt => ⟨by omega, ?_⟩)
    have n1 : b ≠ w.heap.size := by omega
    have q1 : ∀ (W : World) (o : Nat) (v : Value), (W.setCell ⟨w.heap.size, o, none⟩ v).heap[b]? = W.heap[b]? := fun W o v => Below.heap_setCell W ⟨w.heap.size, o, none⟩ v b n1
    simp only [q1]
  · exact (by repeat (first | (with_reducible exact Below.refl _ _) | (with_reducible assumption) | (with_reducible refine Below.drew ?_) | (with_reducible refine Below.setCell ?_ ?_ _) | (with_reducible refine Below.alloc ?_ ?_ _) | (with_reducible refine Below.later ?_ ?_ _) | (first | (with_reducible exact Nat.le_refl _) | omega | (simp only [World.size_alloc, World.size_setCell, World.size_drew] <;> omega))))
end Go.Proofs.Ytpibaahiboajhaa
