/-
  The document's buffer: place, write, Put, Delete, Find.
-/
import Derived.Test.YtpibaahiboajhaaBuf7
import Derived.Test.YtpibaahiboajhaaSlc
set_option linter.unusedSimpArgs false
set_option linter.unusedVariables false
namespace Go.Proofs.Ytpibaahiboajhaa
open Go.RowKit Go.Cib
attribute [local go_sem] cell_set Later.cell Later.frozen Grw.cell Grw.frozen

def posW (L : List Wr) (k : ByteArray) : Nat := (L.takeWhile fun y => Op.bytesLess y.key.toList k.toList).length
theorem pos_le (L : List Wr) (k : ByteArray) : posW L k ≤ L.length := by
  unfold posW
  exact List.Sublist.length_le (List.takeWhile_sublist _)
theorem ins_pos {L : List Wr} (h : RisesW L) (x : Wr) : insW L x = L.take (posW L x.key) ++ x :: L.drop (posW L x.key + (if (findW L x.key).isSome then 1 else 0)) := by
  induction L with
  | nil => simp [insW, posW, findW]
  | cons y r ih =>
    obtain ⟨h1, h2⟩ := List.pairwise_cons.1 h
    unfold insW
    by_cases hlt : Op.bytesLess y.key.toList x.key.toList = true
    · rw [if_pos hlt]
      have hp : posW (y :: r) x.key = posW r x.key + 1 := by unfold posW; rw [List.takeWhile_cons, if_pos hlt, List.length_cons]
      rw [hp, show findW (y :: r) x.key = findW r x.key by rw [findW, if_neg (bl_ne hlt)]]
      rw [List.take_succ_cons, Nat.add_right_comm, List.drop_succ_cons, ih h2, List.cons_append]
    · rw [if_neg hlt]
      have hp : posW (y :: r) x.key = 0 := by unfold posW; rw [List.takeWhile_cons, if_neg hlt]; rfl
      rw [hp]
      by_cases e : y.key = x.key
      · rw [if_pos e, show findW (y :: r) x.key = some y by rw [findW, if_pos e]]
        rfl
      · rw [if_neg e, show findW (y :: r) x.key = none by rw [findW, if_neg e]; exact findW_head h (by simpa using hlt) e]
        rfl
theorem find_pos {L : List Wr} (h : RisesW L) {k : ByteArray} {z : Wr} (hz : findW L k = some z) : L[posW L k]? = some z := by
  induction L with
  | nil => cases hz
  | cons y r ih =>
    obtain ⟨h1, h2⟩ := List.pairwise_cons.1 h
    by_cases e : y.key = k
    · have hlt : ¬ Op.bytesLess y.key.toList k.toList = true := by rw [e, bl_irrefl]; decide
      have hp : posW (y :: r) k = 0 := by unfold posW; rw [List.takeWhile_cons, if_neg hlt]; rfl
      rw [hp]
      rw [findW, if_pos e] at hz
      exact hz
    · rw [findW, if_neg e] at hz
      have hzm := findW_mem hz
      have hlt : Op.bytesLess y.key.toList k.toList = true := by rw [← hzm.2]; exact h1 z hzm.1
      have hp : posW (y :: r) k = posW r k + 1 := by unfold posW; rw [List.takeWhile_cons, if_pos hlt, List.length_cons]
      rw [hp, List.getElem?_cons_succ]
      exact ih h2 hz

/-- The document's buffer in memory. -/
def RBufB (S : Nat → Prop) (w : World) (x : Nat) (L : List Wr) : Prop := ∃ A c, BoxAt w x #[.slice A L.length c] ∧ L.length ≤ c ∧ RdL WrR 3 S w A L.length L
theorem RBufB.keep {S F : Nat → Prop} {w w' : World} {x : Nat} {L : List Wr} (h : RBufB S w x L) (hk : Keep F w w') (hx : ¬ F x) (hS : ∀ b, S b → ¬ F b) : RBufB S w' x L := by
  obtain ⟨A, c, h1, h2, h3⟩ := h
  exact ⟨A, c, h1.keeps hk hx, h2, h3.keep WrR.stable hk hS⟩
theorem RBufB.below {S : Nat → Prop} {w w' : World} {x : Nat} {L : List Wr} (h : RBufB S w x L) (hb : Below w.heap.size w w') : RBufB S w' x L := by
  obtain ⟨A, c, h1, h2, h3⟩ := h
  exact ⟨A, c, h1.below hb, h2, h3.below WrR.stable hb⟩

set_option maxRecDepth 100000 in
set_option maxHeartbeats 4000000 in
theorem place_any {S : Nat → Prop} {w : World} {x : Nat} {L : List Wr} (h : Hid (RBufB S w x L)) (hr : Hid (RisesW L)) (k : ByteArray) (hm : L.length ≤ 1000) :
    Calls Try.prog 93 #[.pointer (some ⟨x, 0, none⟩), .string k] w fun e w' => e = .returned (.tuple #[.int .i64 (posW L k), .bool (findW L k).isSome]) ∧ Below w.heap.size w w' := by
  obtain ⟨A, c, hX, hc, R⟩ := h.out
  have hxl := hX.lt
  have p0 := fun w' (hb : Below w.heap.size w w') => (hb.cell (p := ⟨x, 0, none⟩) hxl).trans (hX.cell 0)
  have p00 := hX.cell 0
  have HR := Lib.hid R
  clear hX R
  go_enter Try.func93, Try.ntmps93
  go_wp2_with fail
  go_loopw [6] (fun vi wr => ∃ i : Nat, i ≤ L.length ∧ vi = .int .i64 i ∧ Hid (posW L k = i + posW (L.drop i) k) ∧ Hid (findW L k = findW (L.drop i) k) ∧ wr = w) (fun vi _ => L.length - (intOf vi).toNat)
  case atStart => exact ⟨0, Nat.zero_le _, rfl, Lib.hid (by simp), Lib.hid rfl, rfl⟩
  case round =>
    obtain ⟨i, hi, rfl, HP, HF, hw⟩ := hrel
    replace hw := hw.symm
    subst hw
    have q2 : (0 : Int) ≤ (i : Int) := Int.natCast_nonneg _
    by_cases hlt : i < L.length
    · have q1 : (i : Int) < (L.length : Int) := by omega
      obtain ⟨g, og, y, VA, vm, vc, rfl, hy, hg, _, _, k0, _⟩ := wr_at HR.out hlt
      have u0 := fun w' (hb : Below w.heap.size w w') => (hb.cell (p := ⟨g, og + i * 3, none⟩) hg).trans k0
      have hdr : L.drop i = y :: L.drop (i + 1) := by rw [List.drop_eq_getElem_cons hlt, (List.getElem?_eq_some_iff.1 hy).2]
      cases hls : Op.bytesLess y.key.toList k.toList with
      | true =>
        have hn : y.key ≠ k := bl_ne hls
        have HP2 : Hid (posW L k = (i + 1) + posW (L.drop (i + 1)) k) := Lib.hid (by
          rw [HP.out, hdr]; unfold posW; rw [List.takeWhile_cons, if_pos hls, List.length_cons]; omega)
        have HF2 : Hid (findW L k = findW (L.drop (i + 1)) k) := Lib.hid (by rw [HF.out, hdr, findW, if_neg hn])
        clear hdr hn hy
        go_wp2_with fail
        exact ⟨⟨i + 1, by omega, by go_num, HP2, HF2, trivial⟩, by simp [intOf]; omega⟩
      | false =>
        have hp : posW L k = i := by
          rw [HP.out, hdr]; unfold posW; rw [List.takeWhile_cons, if_neg (by rw [hls]; decide)]; rfl
        have hsome : (findW L k).isSome = decide (y.key = k) := by
          rw [HF.out, hdr, findW]
          by_cases e : y.key = k
          · rw [if_pos e, decide_eq_true e]; rfl
          · rw [if_neg e, decide_eq_false e, findW_head (by rw [← hdr]; exact List.Pairwise.drop hr.out) hls e]; rfl
        have HP2 := Lib.hid hp
        have HS2 := Lib.hid hsome
        clear hdr hp hsome hy
        have hbeq := str_beq y.key k
        obtain ⟨B, hB⟩ : ∃ B, decide (y.key = k) = B := ⟨_, rfl⟩
        rw [hB] at hbeq HS2
        clear hB
        go_wp2_with fail
        refine wp_region_held_drew (S := fun w' => Below w.heap.size w w') (by kernel_rfl) (by first | assumption | exact Below.refl _ _ | exact (Below.refl _ _).drew | exact (by repeat (first | (with_reducible exact Below.refl _ _) | (with_reducible assumption) | (with_reducible refine Below.drew ?_) | (with_reducible refine Below.setCell ?_ ?_ _) | (with_reducible refine Below.alloc ?_ ?_ _) | (with_reducible refine Below.later ?_ ?_ _) | (first | (with_reducible exact Nat.le_refl _) | omega | (simp only [World.size_alloc, World.size_setCell, World.size_drew] <;> omega))))) (fun hHeld => ?_)
        refine wpAnyH_take (i := 0) (v := ?_) rfl (by kernel_rfl) (by kernel_rfl) (by kernel_rfl) (fun _ _ _ h => h) (Or.inl ⟨by first | kernel_rfl | rfl, ?_⟩) (by assumption) ?_
        rotate_left
        · (intro wq hSw; (try dsimp only at hSw); (try simp (maxSteps := 2000000) only [List.getElem_toArray, List.getElem_cons_succ, List.getElem_cons_zero]); go_simp); try with_reducible rfl
        try simp (maxSteps := 2000000) only [List.getElem_toArray, List.getElem_cons_succ, List.getElem_cons_zero, Act.put, List.setIfInBounds_toArray, List.set_cons_zero, List.set_cons_succ]
        refine wpAnyH_take (i := 1) (v := ?_) rfl (by kernel_rfl) (by kernel_rfl) (by kernel_rfl) (fun _ _ _ h => h) (Or.inl ⟨by first | kernel_rfl | rfl, ?_⟩) (by assumption) ?_
        rotate_left
        · (intro wq hSw; (try dsimp only at hSw); (try simp (maxSteps := 2000000) only [List.getElem_toArray, List.getElem_cons_succ, List.getElem_cons_zero]); go_simp); try with_reducible rfl
        try simp (maxSteps := 2000000) only [List.getElem_toArray, List.getElem_cons_succ, List.getElem_cons_zero, Act.put, List.setIfInBounds_toArray, List.set_cons_zero, List.set_cons_succ]
        refine wpAnyH_take (i := 2) (v := ?_) rfl (by kernel_rfl) (by kernel_rfl) (by kernel_rfl) (fun _ _ _ h => h) (Or.inl ⟨by first | kernel_rfl | rfl, ?_⟩) (by assumption) ?_
        rotate_left
        · (intro wq hSw; (try dsimp only at hSw); (try simp (maxSteps := 2000000) only [List.getElem_toArray, List.getElem_cons_succ, List.getElem_cons_zero]); go_simp); try with_reducible rfl
        try simp (maxSteps := 2000000) only [List.getElem_toArray, List.getElem_cons_succ, List.getElem_cons_zero, Act.put, List.setIfInBounds_toArray, List.set_cons_zero, List.set_cons_succ]
        refine wpAnyH_take (i := 3) (v := ?_) rfl (by kernel_rfl) (by kernel_rfl) (by kernel_rfl) (fun _ _ _ h => h) (Or.inl ⟨by first | kernel_rfl | rfl, ?_⟩) (by assumption) ?_
        rotate_left
        · (intro wq hSw; (try dsimp only at hSw); (try simp (maxSteps := 2000000) only [List.getElem_toArray, List.getElem_cons_succ, List.getElem_cons_zero]); go_simp); try with_reducible rfl
        try simp (maxSteps := 2000000) only [List.getElem_toArray, List.getElem_cons_succ, List.getElem_cons_zero, Act.put, List.setIfInBounds_toArray, List.set_cons_zero, List.set_cons_succ]
        refine wpAnyH_take (i := 4) (v := ?_) rfl (by kernel_rfl) (by kernel_rfl) (by kernel_rfl) (fun _ _ _ h => h) (Or.inl ⟨by first | kernel_rfl | rfl, ?_⟩) (by assumption) ?_
        rotate_left
        · (intro wq hSw; (try dsimp only at hSw); (try simp (maxSteps := 2000000) only [List.getElem_toArray, List.getElem_cons_succ, List.getElem_cons_zero]); go_simp); try with_reducible rfl
        try simp (maxSteps := 2000000) only [List.getElem_toArray, List.getElem_cons_succ, List.getElem_cons_zero, Act.put, List.setIfInBounds_toArray, List.set_cons_zero, List.set_cons_succ]
        refine wpAnyH_take (i := 5) (v := ?_) rfl (by kernel_rfl) (by kernel_rfl) (by kernel_rfl) (fun _ _ _ h => h) (Or.inl ⟨by first | kernel_rfl | rfl, ?_⟩) (by assumption) ?_
        rotate_left
        · (intro wq hSw; (try dsimp only at hSw); (try simp (maxSteps := 2000000) only [List.getElem_toArray, List.getElem_cons_succ, List.getElem_cons_zero]); go_simp); try with_reducible rfl
        try simp (maxSteps := 2000000) only [List.getElem_toArray, List.getElem_cons_succ, List.getElem_cons_zero, Act.put, List.setIfInBounds_toArray, List.set_cons_zero, List.set_cons_succ]
        refine wpAnyH_take (i := 6) (v := ?_) rfl (by kernel_rfl) (by kernel_rfl) (by kernel_rfl) (fun _ _ _ h => h) (Or.inl ⟨by first | kernel_rfl | rfl, ?_⟩) (by assumption) ?_
        rotate_left
        · (intro wq hSw; (try dsimp only at hSw); (try simp (maxSteps := 2000000) only [List.getElem_toArray, List.getElem_cons_succ, List.getElem_cons_zero]); go_simp); try with_reducible rfl
        try simp (maxSteps := 2000000) only [List.getElem_toArray, List.getElem_cons_succ, List.getElem_cons_zero, Act.put, List.setIfInBounds_toArray, List.set_cons_zero, List.set_cons_succ]
        refine wpAnyH_take (i := 7) (v := ?_) rfl (by kernel_rfl) (by kernel_rfl) (by kernel_rfl) (fun _ _ _ h => h) (Or.inl ⟨by first | kernel_rfl | rfl, ?_⟩) (by assumption) ?_
        rotate_left
        · (intro wq hSw; (try dsimp only at hSw); (try simp (maxSteps := 2000000) only [List.getElem_toArray, List.getElem_cons_succ, List.getElem_cons_zero]); go_simp); try with_reducible rfl
        try simp (maxSteps := 2000000) only [List.getElem_toArray, List.getElem_cons_succ, List.getElem_cons_zero, Act.put, List.setIfInBounds_toArray, List.set_cons_zero, List.set_cons_succ]
        refine wpAnyH_take (i := 8) (v := ?_) rfl (by kernel_rfl) (by kernel_rfl) (by kernel_rfl) (fun _ _ _ h => h) (Or.inl ⟨by first | kernel_rfl | rfl, ?_⟩) (by assumption) ?_
        rotate_left
        · (intro wq hSw; (try dsimp only at hSw); (try simp (maxSteps := 2000000) only [List.getElem_toArray, List.getElem_cons_succ, List.getElem_cons_zero]); go_simp); try with_reducible rfl
        try simp (maxSteps := 2000000) only [List.getElem_toArray, List.getElem_cons_succ, List.getElem_cons_zero, Act.put, List.setIfInBounds_toArray, List.set_cons_zero, List.set_cons_succ]
        refine wpAnyH_take (i := 9) (v := ?_) rfl (by kernel_rfl) (by kernel_rfl) (by kernel_rfl) (fun _ _ _ h => h) (Or.inl ⟨by first | kernel_rfl | rfl, ?_⟩) (by assumption) ?_
        rotate_left
        · (intro wq hSw; (try dsimp only at hSw); (try simp (maxSteps := 2000000) only [List.getElem_toArray, List.getElem_cons_succ, List.getElem_cons_zero]); go_simp); try with_reducible rfl
        try simp (maxSteps := 2000000) only [List.getElem_toArray, List.getElem_cons_succ, List.getElem_cons_zero, Act.put, List.setIfInBounds_toArray, List.set_cons_zero, List.set_cons_succ]
        refine wpAnyH_take (i := 10) (v := ?_) rfl (by kernel_rfl) (by kernel_rfl) (by kernel_rfl) (fun _ _ _ h => h) (Or.inl ⟨by first | kernel_rfl | rfl, ?_⟩) (by assumption) ?_
        rotate_left
        · (intro wq hSw; (try dsimp only at hSw); (try simp (maxSteps := 2000000) only [List.getElem_toArray, List.getElem_cons_succ, List.getElem_cons_zero]); go_simp); try with_reducible rfl
        try simp (maxSteps := 2000000) only [List.getElem_toArray, List.getElem_cons_succ, List.getElem_cons_zero, Act.put, List.setIfInBounds_toArray, List.set_cons_zero, List.set_cons_succ]
        refine wpAnyH_take (i := 11) (v := ?_) rfl (by kernel_rfl) (by kernel_rfl) (by kernel_rfl) (fun _ _ _ h => h) (Or.inl ⟨by first | kernel_rfl | rfl, ?_⟩) (by assumption) ?_
        rotate_left
        · (intro wq hSw; (try dsimp only at hSw); (try simp (maxSteps := 2000000) only [List.getElem_toArray, List.getElem_cons_succ, List.getElem_cons_zero]); go_simp); try with_reducible rfl
        try simp (maxSteps := 2000000) only [List.getElem_toArray, List.getElem_cons_succ, List.getElem_cons_zero, Act.put, List.setIfInBounds_toArray, List.set_cons_zero, List.set_cons_succ]
        refine wpAnyH_take (i := 12) (v := ?_) rfl (by kernel_rfl) (by kernel_rfl) (by kernel_rfl) (fun _ _ _ h => h) (Or.inl ⟨by first | kernel_rfl | rfl, ?_⟩) (by assumption) ?_
        rotate_left
        · (intro wq hSw; (try dsimp only at hSw); (try simp (maxSteps := 2000000) only [List.getElem_toArray, List.getElem_cons_succ, List.getElem_cons_zero]); go_simp); try with_reducible rfl
        try simp (maxSteps := 2000000) only [List.getElem_toArray, List.getElem_cons_succ, List.getElem_cons_zero, Act.put, List.setIfInBounds_toArray, List.set_cons_zero, List.set_cons_succ]
        refine wpAnyH_done (by kernel_rfl) ?_ _
        go_wp2_with fail
        refine bodyPost_ret (v := .tuple #[.int .i64 (i : Int), .bool B]) (by simp [results, Try.results93, go_sem, *]) rfl ?_
        rw [HP2.out, HS2.out]
        exact ⟨rfl, (Below.refl _ _).drew⟩
    · obtain rfl : i = L.length := by omega
      have q1 : ¬ (L.length : Int) < (L.length : Int) := by omega
      have hp : posW L k = L.length := by rw [HP.out, List.drop_of_length_le (Nat.le_refl _)]; rfl
      have hf : findW L k = none := by rw [HF.out, List.drop_of_length_le (Nat.le_refl _)]; rfl
      have HP2 := Lib.hid hp
      have HF2 := Lib.hid hf
      clear hp hf
      go_wp2_with fail
      refine bodyPost_ret (v := .tuple #[.int .i64 (L.length : Int), .bool false]) (by simp [results, Try.results93, go_sem, *]) rfl ?_
      rw [HP2.out, HF2.out]
      exact ⟨rfl, Below.refl _ _⟩

theorem rwrite_post {S : Nat → Prop} {w wq w' : World} {x : Nat} {L : List Wr} {k : ByteArray} {d : Bool} {xs : List Int} {AL A' : Option Addr} {cL c' n : Nat} {l : List Wr} (hX : BoxAt wq x #[.slice AL L.length cL]) (hq : Below w.heap.size w wq)
    (own : OwnL WrR 102 3 wq.heap.size S w' (.slice A' n c') n l) (hc : n ≤ c') (hb : Below wq.heap.size wq w') (hSx : ¬ S x) (hSn : ∀ b, wq.heap.size ≤ b → S b) (hins : insW L ⟨k, d, xs⟩ = l) (hE : wrE L ⟨k, d, xs⟩ = 0) :
    RBufB S (w'.setCell ⟨x, 0, none⟩ (.slice A' n c')) x (wrW L ⟨k, d, xs⟩) ∧ Keep (· = x) w (w'.setCell ⟨x, 0, none⟩ (.slice A' n c')) := by
  have hlen : (wrW L ⟨k, d, xs⟩).length = n := by unfold wrW; rw [if_pos hE, hins]; exact own.len
  refine ⟨⟨A', c', ?_, by omega, ?_⟩, Keep.setCell (F := (· = x)) (Keep.of_below (F := (· = x)) (below_then hb hq)) (p := ⟨x, 0, none⟩) (fun _ => rfl) _⟩
  · rw [hlen]; exact (hX.below hb).set 0 _
  · obtain ⟨A2, c2, e, _, hr⟩ := own.rd (S' := S) (fun q hq => hSn q hq) (fun cs x hx => WrR.stable _ _ _ _ _ _ hx fun b hb _ => ⟨hb.1, rfl⟩)
    injection e with e1 e2 e3
    subst e1
    rw [hlen]
    unfold wrW
    rw [if_pos hE, hins]
    exact hr.setCell WrR.stable hSx _

theorem wr_one {S : Nat → Prop} {W : World} {k : ByteArray} {d : Bool} {A : Option Addr} {m c : Nat} {xs : List Int} (h : RdL U8R 1 S W A m xs) :
    RdL WrR 3 (fun b => S b ∨ b = W.heap.size) (W.alloc (.cells #[.string k, .bool d, .slice A m c] 102)) (some ⟨W.heap.size, 0, none⟩) 1 [⟨k, d, xs⟩] := by
  have hX := BoxAt.new W #[.string k, .bool d, .slice A m c] 102
  refine ⟨rfl, fun _ => ⟨W.heap.size, 0, rfl, .inr rfl, hX.lt, fun i x hx => ?_⟩⟩
  match i, hx with
  | 0, hx =>
    cases hx
    refine ⟨[.string k, .bool d, .slice A m c], rfl, ⟨A, m, c, rfl, (h.weaken U8R.stable (fun b hb => .inl hb)).alloc U8R.stable _⟩, fun j v hj => ?_⟩
    match j, hj with
    | 0, hj => cases hj; exact hX.cell 0
    | 1, hj => cases hj; exact hX.cell 1
    | 2, hj => cases hj; exact hX.cell 2
set_option maxRecDepth 100000 in
set_option maxHeartbeats 16000000 in
theorem rwrite_any {S : Nat → Prop} {w : World} {x : Nat} {L : List Wr} {k : ByteArray} {d : Bool} {A : Option Addr} {m c : Nat} {xs : List Int} (h : Hid (RBufB S w x L)) (hok : Hid (WOk L)) (R : Hid (RdL U8R 1 S w A m xs)) (hSx : ¬ S x) (hSn : ∀ b, w.heap.size ≤ b → S b) :
    Calls Try.prog 124 #[.pointer (some ⟨x, 0, none⟩), .agg #[.string k, .bool d, .slice A m c]] w fun e w' => e = .returned (.int .i64 (wrE L ⟨k, d, xs⟩)) ∧ RBufB S w' x (wrW L ⟨k, d, xs⟩) ∧ Keep (· = x) w w' := by
  have b0 : Below w.heap.size w (w.alloc (.cells #[.string k, .bool d, .slice A m c] 102)) := (Below.refl _ _).alloc (Nat.le_refl _) _
  have X0 := BoxAt.new w #[.string k, .bool d, .slice A m c] 102
  obtain ⟨wA, hwA⟩ : ∃ wA, w.alloc (.cells #[.string k, .bool d, .slice A m c] 102) = wA := ⟨_, rfl⟩
  rw [hwA] at b0 X0
  have HA := Lib.hid (h.out.below b0)
  have RA := Lib.hid (R.out.below U8R.stable b0)
  have hL16 := hok.out.len
  have WB0 := Lib.hid b0
  have k0 := X0.cell 0; have k1 := X0.cell 1; have k2 := X0.cell 2
  have HX0 := Lib.hid X0
  have hxl : xs.length = m := R.out.1
  clear X0
  by_cases hr : 0 < k.size ∧ k.size ≤ 16
  · have e1 : decide ((k.size : Int) < 1) = false := decide_eq_false (by omega)
    have e2 : decide ((16 : Int) < (k.size : Int)) = false := decide_eq_false (by omega)
    have hpl := place_any HA (Lib.hid hok.out.rises) k (by omega)
    go_enter Try.func124, Try.ntmps124
    go_wp2_with fail
    clear hwA
    refine hpl.mono ?_
    rintro e wq ⟨rfl, t1⟩
    have Bq := Lib.hid (below_then t1 b0)
    have HBq := Lib.hid (HA.out.below t1)
    have RVq := Lib.hid (RA.out.below U8R.stable t1)
    have Xq := HX0.out.below t1
    have k0 := Xq.cell 0; have k1 := Xq.cell 1; have k2 := Xq.cell 2
    obtain ⟨AL, cL, hXq, hcL, RLq⟩ := HBq.out
    have pq := hXq.cell 0
    have hxq := hXq.lt
    have hyq := Xq.lt
    have hwq := Bq.out.size
    clear t1 hpl
    obtain ⟨i, hi⟩ : ∃ i, posW L k = i := ⟨_, rfl⟩
    have hil : i ≤ L.length := by rw [← hi]; exact pos_le L k
    rw [hi]
    have HI := Lib.hid hi
    clear hi
    by_cases hbig : 400 < m ∨ (findW L k = none ∧ 16 ≤ L.length)
    · have hE : wrE L ⟨k, d, xs⟩ = 260 := by
        unfold wrE
        rw [if_neg (fun e => e hr), if_pos (by rw [hxl]; exact hbig)]
      have HE := Lib.hid hE
      have HXq := Lib.hid hXq
      clear hE hXq Xq
      by_cases h4 : 400 < m
      · have e4 : decide ((400 : Int) < (m : Int)) = true := decide_eq_true (by omega)
        go_wp2_with fail
        go_ret
        exact ⟨by rw [HE.out]; rfl, by unfold wrW; rw [HE.out]; exact HBq.out, Keep.of_below Bq.out⟩
      · have e4 : decide ((400 : Int) < (m : Int)) = false := decide_eq_false (by omega)
        obtain ⟨hf, hl⟩ := hbig.resolve_left h4
        have e5 : decide ((16 : Int) ≤ (L.length : Int)) = true := decide_eq_true (by omega)
        rw [show (findW L k).isSome = false by rw [hf]; rfl]
        go_wp2_with fail
        go_ret
        exact ⟨by rw [HE.out]; rfl, by unfold wrW; rw [HE.out]; exact HBq.out, Keep.of_below Bq.out⟩
    · have hE : wrE L ⟨k, d, xs⟩ = 0 := by
        unfold wrE
        rw [if_neg (fun e => e hr), if_neg (by rw [hxl]; exact hbig)]
      have HE := Lib.hid hE
      clear hE
      have hm4 : m ≤ 400 := by omega
      have e4 : decide ((400 : Int) < (m : Int)) = false := decide_eq_false (by omega)
      have RL0 : Hid (RdL WrR 3 (fun b => S b ∧ b < wq.heap.size) wq AL i (L.take i)) := Lib.hid (RdL.take (RLq.stable WrR.stable (fun b hb hlt => ⟨⟨hb, hlt⟩, rfl⟩)) hil)
      have RV : Hid (RdL U8R 1 (fun b => S b ∧ b < wq.heap.size) wq A m xs) := Lib.hid (RVq.out.stable U8R.stable (fun b hb hlt => ⟨⟨hb, hlt⟩, rfl⟩))
      have hSn : ∀ b, wq.heap.size ≤ b → S b := fun b hb => hSn b (by omega)
      have u0 := fun w' (hb : Below wq.heap.size wq w') => (hb.cell (p := ⟨x, 0, none⟩) hxq).trans pq
      have v0 := fun w' (hb : Below wq.heap.size wq w') => (hb.cell (p := ⟨w.heap.size, 0, none⟩) hyq).trans k0
      have v1 := fun w' (hb : Below wq.heap.size wq w') => (hb.cell (p := ⟨w.heap.size, 1, none⟩) hyq).trans k1
      have v2 := fun w' (hb : Below wq.heap.size wq w') => (hb.cell (p := ⟨w.heap.size, 2, none⟩) hyq).trans k2
      have hsl := fun w' => piece_pre sl_wr (A := AL) (N := L.length) (c := cL) (k := i) (by omega) w'
      have hins := ins_pos hok.out.rises ⟨k, d, xs⟩
      rw [HI.out] at hins
      cases hf : findW L k with
      | none =>
        have e5 : decide ((16 : Int) ≤ (L.length : Int)) = false := decide_eq_false (fun e => hbig (.inr ⟨hf, by omega⟩))
        have hl2 : L.length ≤ 15 := by have : ¬ 16 ≤ L.length := fun e => hbig (.inr ⟨hf, e⟩); omega
        rw [hf] at hins
        have hins : insW L ⟨k, d, xs⟩ = L.take i ++ [⟨k, d, xs⟩] ++ L.drop i := by rw [hins]; simp
        have hsl2 := fun w' => piece_suf sl_wr (A := AL) (N := L.length) (c := cL) (k := i) hil w'
        have RS0 := piece_rd (RLq.stable (S' := fun b => S b ∧ b < wq.heap.size) WrR.stable (fun b hb hlt => ⟨⟨hb, hlt⟩, rfl⟩)) hcL hil
        obtain ⟨AS, hAS⟩ : ∃ AS, (if cL = i then AL else AL.map (fun x : Addr => x.add (i * 3))) = AS := ⟨_, rfl⟩
        rw [hAS] at hsl2 RS0
        have RS := Lib.hid RS0
        have hZ := Lib.hid fun A' c' w' (own : OwnL WrR 102 3 wq.heap.size S w' (.slice A' (i + 1 + (L.length - i)) c') (i + 1 + (L.length - i)) (L.take i ++ [⟨k, d, xs⟩] ++ L.drop i)) (hc : i + 1 + (L.length - i) ≤ c') (hb : Below wq.heap.size wq w') => rwrite_post (k := k) (d := d) (xs := xs) hXq Bq.out own hc hb hSx hSn hins HE.out
        clear hins hAS RS0 hf hbig
        go_wp2_with fail
        refine wp_region_held_drew (S := fun w' => Below wq.heap.size wq w') (by kernel_rfl) (by first | assumption | exact Below.refl _ _ | exact (Below.refl _ _).drew | exact (by repeat (first | (with_reducible exact Below.refl _ _) | (with_reducible assumption) | (with_reducible refine Below.drew ?_) | (with_reducible refine Below.setCell ?_ ?_ _) | (with_reducible refine Below.alloc ?_ ?_ _) | (with_reducible refine Below.later ?_ ?_ _) | (first | (with_reducible exact Nat.le_refl _) | omega | (simp only [World.size_alloc, World.size_setCell, World.size_drew] <;> omega))))) (fun hHeld => ?_)
        refine wpAnyH_take (i := 1) (v := ?_) rfl (by kernel_rfl) (by kernel_rfl) (by kernel_rfl) (fun _ _ _ h => h) (Or.inl ⟨by first | kernel_rfl | rfl, ?_⟩) (by assumption) ?_
        rotate_left
        · (intro wq hSw; (try dsimp only at hSw); (try simp (maxSteps := 2000000) only [List.getElem_toArray, List.getElem_cons_succ, List.getElem_cons_zero]); go_simp); try with_reducible rfl
        try simp (maxSteps := 2000000) only [List.getElem_toArray, List.getElem_cons_succ, List.getElem_cons_zero, Act.put, List.setIfInBounds_toArray, List.set_cons_zero, List.set_cons_succ]
        refine wpAnyH_take (i := 2) (v := ?_) rfl (by kernel_rfl) (by kernel_rfl) (by kernel_rfl) (fun _ _ _ h => h) (Or.inl ⟨by first | kernel_rfl | rfl, ?_⟩) (by assumption) ?_
        rotate_left
        · (intro wq hSw; (try dsimp only at hSw); (try simp (maxSteps := 2000000) only [List.getElem_toArray, List.getElem_cons_succ, List.getElem_cons_zero]); go_simp); try with_reducible rfl
        try simp (maxSteps := 2000000) only [List.getElem_toArray, List.getElem_cons_succ, List.getElem_cons_zero, Act.put, List.setIfInBounds_toArray, List.set_cons_zero, List.set_cons_succ]
        refine wpAnyH_take (i := 3) (v := ?_) rfl (by kernel_rfl) (by kernel_rfl) (by kernel_rfl) (fun _ _ _ h => h) (Or.inl ⟨by first | kernel_rfl | rfl, ?_⟩) (by assumption) ?_
        rotate_left
        · (intro wq hSw; (try dsimp only at hSw); (try simp (maxSteps := 2000000) only [List.getElem_toArray, List.getElem_cons_succ, List.getElem_cons_zero]); go_simp); try with_reducible rfl
        try simp (maxSteps := 2000000) only [List.getElem_toArray, List.getElem_cons_succ, List.getElem_cons_zero, Act.put, List.setIfInBounds_toArray, List.set_cons_zero, List.set_cons_succ]
        refine wpAnyH_take (i := 4) (v := ?_) rfl (by kernel_rfl) (by kernel_rfl) (by kernel_rfl) (fun _ _ _ h => h) (Or.inl ⟨by first | kernel_rfl | rfl, ?_⟩) (by assumption) ?_
        rotate_left
        · (intro wq hSw; (try dsimp only at hSw); (try simp (maxSteps := 2000000) only [List.getElem_toArray, List.getElem_cons_succ, List.getElem_cons_zero]); go_simp); try with_reducible rfl
        try simp (maxSteps := 2000000) only [List.getElem_toArray, List.getElem_cons_succ, List.getElem_cons_zero, Act.put, List.setIfInBounds_toArray, List.set_cons_zero, List.set_cons_succ]
        refine wpAnyH_take (i := 5) (v := ?_) rfl (by kernel_rfl) (by kernel_rfl) (by kernel_rfl) (fun _ _ _ h => h) (Or.inl ⟨by first | kernel_rfl | rfl, ?_⟩) (by assumption) ?_
        rotate_left
        · (intro wq hSw; (try dsimp only at hSw); (try simp (maxSteps := 2000000) only [List.getElem_toArray, List.getElem_cons_succ, List.getElem_cons_zero]); go_simp); try with_reducible rfl
        try simp (maxSteps := 2000000) only [List.getElem_toArray, List.getElem_cons_succ, List.getElem_cons_zero, Act.put, List.setIfInBounds_toArray, List.set_cons_zero, List.set_cons_succ]
        refine wpAnyH_take (i := 6) (v := ?_) rfl (by kernel_rfl) (by kernel_rfl) (by kernel_rfl) (fun _ _ _ h => h) (Or.inl ⟨by first | kernel_rfl | rfl, ?_⟩) (by assumption) ?_
        rotate_left
        · (intro wq hSw; (try dsimp only at hSw); (try simp (maxSteps := 2000000) only [List.getElem_toArray, List.getElem_cons_succ, List.getElem_cons_zero]); go_simp); try with_reducible rfl
        try simp (maxSteps := 2000000) only [List.getElem_toArray, List.getElem_cons_succ, List.getElem_cons_zero, Act.put, List.setIfInBounds_toArray, List.set_cons_zero, List.set_cons_succ]
        refine wpAnyH_take (i := 8) (v := ?_) rfl (by kernel_rfl) (by kernel_rfl) (by kernel_rfl) (fun _ _ _ h => h) (Or.inl ⟨by first | kernel_rfl | rfl, ?_⟩) (by assumption) ?_
        rotate_left
        · (intro wq hSw; (try dsimp only at hSw); (try simp (maxSteps := 2000000) only [List.getElem_toArray, List.getElem_cons_succ, List.getElem_cons_zero]); go_simp); try with_reducible rfl
        try simp (maxSteps := 2000000) only [List.getElem_toArray, List.getElem_cons_succ, List.getElem_cons_zero, Act.put, List.setIfInBounds_toArray, List.set_cons_zero, List.set_cons_succ]
        obtain ⟨wd, hwd⟩ : ∃ wd, wq.drew = wd := ⟨_, rfl⟩
        rw [hwd] at hHeld ⊢
        clear hwd
        have hs_wd := hHeld.size
        refine wpAnyH_ready (rs := [0, 9]) (by kernel_rfl) (by simp) ?_
        refine AllReadyH.cons rfl (fun K hK => ?_) (AllReadyH.cons rfl (fun K hK => ?_) AllReadyH.nil)
        · try simp (maxSteps := 2000000) only [List.getElem_toArray, List.getElem_cons_succ, List.getElem_cons_zero]
          go_simp
          have hA : Below wd.heap.size wd (wd.alloc (.cells #[] 102)) := (Below.refl _ _).alloc (Nat.le_refl _) _
          have own := OwnL.made (R := WrR) (E := 102) (s := 3) (base := wq.heap.size) (S := S) (w := wd) #[] 0 hHeld.size (by decide) rfl
          refine hK.out _ _ (below_then hA hHeld) (fun hHeld => ?_)
          clear hK K
          try simp (maxSteps := 2000000) only [List.getElem_toArray, List.getElem_cons_succ, List.getElem_cons_zero, Act.put, List.setIfInBounds_toArray, List.set_cons_zero, List.set_cons_succ]
          obtain ⟨wa, hw⟩ : ∃ wn, wd.alloc (.cells #[] 102) = wn := ⟨_, rfl⟩
          rw [hw] at hHeld own ⊢
          clear hw hA
          have hs_wa := hHeld.size
          have lto : wd.heap.size < wa.heap.size := (own.lt _ rfl).2
          refine wpAnyH_ready (rs := [7, 9]) (by kernel_rfl) (by simp) ?_
          refine AllReadyH.cons rfl (fun K hK => ?_) (AllReadyH.cons rfl (fun K hK => ?_) AllReadyH.nil)
          · have hs7 := hHeld.size
            refine step_law (by rfl) (wpList_appL WrR.stable WrR.one sl_wr (by rfl) (by rfl) (base := wq.heap.size) (S := S) (S0 := fun b => S b ∧ b < wq.heap.size) (by rfl) own (by rfl) (RL0.out.below WrR.stable hHeld) (fun cs y hy => WrR.stable _ _ _ _ _ _ hy (fun b hb _ => ⟨⟨hb.1, fun e => by have h1 := hb.2; have h2 := (own.lt b e.symm).1; omega⟩, rfl⟩)) (by unfold maxLen; omega) (by omega) hs7 ?_)
            intro A7 c7 wb hc7 own7 hg7 hat7
            refine And.intro rfl ?_
            have b7 : Below wq.heap.size wq wb := hHeld.grown hg7 hs7 (fun q hq => (own.lt q hq).1)
            rw [Nat.zero_add] at own7 hc7 hat7
            rw [List.nil_append] at own7
            have hv7 : ∀ q, (Value.slice A7 i c7).ownBlock = some q → q = wd.heap.size ∨ q = wa.heap.size := fun q hq => hat7.elim (fun e => .inl (Option.some.inj (e.symm.trans hq)).symm) (fun e => .inr (Option.some.inj (e.symm.trans hq)).symm)
            have hlt7 : ∀ q, (Value.slice A7 i c7).ownBlock = some q → q < wb.heap.size := fun q hq => (own7.lt q hq).2
            refine hK.out _ _ b7 (fun hHeld => ?_)
            clear hK K
            try simp (maxSteps := 2000000) only [List.getElem_toArray, List.getElem_cons_succ, List.getElem_cons_zero, Act.put, List.setIfInBounds_toArray, List.set_cons_zero, List.set_cons_succ]
            rw [Nat.zero_add]
            have hs_wb := hHeld.size
            refine wpAnyH_ready (rs := [9]) (by kernel_rfl) (by simp) ?_
            refine AllReadyH.cons rfl (fun K hK => ?_) AllReadyH.nil
            try simp (maxSteps := 2000000) only [List.getElem_toArray, List.getElem_cons_succ, List.getElem_cons_zero]
            go_simp
            have hA : Below wb.heap.size wb (wb.alloc (.cells #[.string k, .bool d, .slice A m c] 102)) := (Below.refl _ _).alloc (Nat.le_refl _) _
            replace own7 := own7.keep WrR.stable hA
            have r9 := wr_one (S := fun b => S b ∧ b < wq.heap.size) (W := wb) (k := k) (d := d) (c := c) (RV.out.below U8R.stable hHeld)
            refine hK.out _ _ (below_then hA hHeld) (fun hHeld => ?_)
            clear hK K
            try simp (maxSteps := 2000000) only [List.getElem_toArray, List.getElem_cons_succ, List.getElem_cons_zero, Act.put, List.setIfInBounds_toArray, List.set_cons_zero, List.set_cons_succ]
            obtain ⟨wc, hw⟩ : ∃ wn, wb.alloc (.cells #[.string k, .bool d, .slice A m c] 102) = wn := ⟨_, rfl⟩
            rw [hw] at hHeld own7 r9 ⊢
            clear hw hA
            have hs_wc := hHeld.size
            have hne : ∀ q, (Value.slice A7 i c7).ownBlock = some q → q ≠ wb.heap.size := fun q hq => by have := hlt7 q hq; omega
            refine wpAnyH_ready (rs := [10]) (by kernel_rfl) (by simp) ?_
            refine AllReadyH.cons rfl (fun K hK => ?_) AllReadyH.nil
            have hs10 := hHeld.size
            have own := own7
            have lt9 : wb.heap.size < wc.heap.size := by obtain ⟨b, o, e, _, h⟩ := r9.addr (k := 0) (by omega); injection e with e; injection e with e; omega
            refine step_law (by rfl) (wpList_appL WrR.stable WrR.one sl_wr (by rfl) (by rfl) (base := wq.heap.size) (S := S) (by rfl) own7 (by rfl) r9 (fun cs y hy => WrR.stable _ _ _ _ _ _ hy (fun b hb _ => ⟨⟨hb.elim (fun h => h.1) (fun h => hSn b (by omega)), fun e => by have h2 := own7.lt b e.symm; have h3 := hv7 b e.symm; have h4 := hlt7 b e.symm; rcases hb with hb | hb <;> omega⟩, rfl⟩)) (by unfold maxLen; omega) (by omega) hs10 ?_)
            intro A10 c10 wz hc10 own10 hg10 hat10
            refine And.intro rfl ?_
            have b10 : Below wq.heap.size wq wz := hHeld.grown hg10 hs10 (fun q hq => (own7.lt q hq).1)
            refine hK.out _ _ b10 (fun hHeld => ?_)
            clear hK K
            try simp (maxSteps := 2000000) only [List.getElem_toArray, List.getElem_cons_succ, List.getElem_cons_zero, Act.put, List.setIfInBounds_toArray, List.set_cons_zero, List.set_cons_succ]
            have B10 := Lib.hid b10
            have OW := Lib.hid own10
            clear own10 own7 own r9 b10 hg10 hat10 hc10
            refine wpAnyH_take (i := 11) (v := ?_) rfl (by kernel_rfl) (by kernel_rfl) (by kernel_rfl) (fun _ _ _ h => h) (Or.inl ⟨by first | kernel_rfl | rfl, ?_⟩) (by assumption) ?_
            rotate_left
            · (intro wq hSw; (try dsimp only at hSw); (try simp (maxSteps := 2000000) only [List.getElem_toArray, List.getElem_cons_succ, List.getElem_cons_zero]); go_simp); try with_reducible rfl
            try simp (maxSteps := 2000000) only [List.getElem_toArray, List.getElem_cons_succ, List.getElem_cons_zero, Act.put, List.setIfInBounds_toArray, List.set_cons_zero, List.set_cons_succ]
            refine wpAnyH_done (by kernel_rfl) ?_ _
            clear k0 k1 k2
            have hXz := hXq.below B10.out
            have own10 := OW.out
            have hxz := hXz.lt
            have pz := hXz.cell 0
            have hnx : ∀ q, (Value.slice A10 (i + 1) c10).ownBlock = some q → q ≠ x := fun q hq => by have h1 := (own10.lt q hq).1; have h2 := hXq.lt; omega
            go_wp2_with (at_builtin; refine wpList_appL WrR.stable WrR.one sl_wr rfl (by exact rfl) (base := wq.heap.size) (S := S) (by exact rfl) own10 (by exact rfl) (RS.out.below WrR.stable B10.out) (fun cs y hy => WrR.stable _ _ _ _ _ _ hy (fun b hb _ => ⟨⟨hb.1, fun e => by have h1 := hb.2; have h2 := (own10.lt b e.symm).1; omega⟩, rfl⟩)) (by unfold maxLen; omega) (by omega) B10.out.size ?_; intro A11 c11 w11 hc11 own11 hg11 hat11; have b11 := B10.out.grown hg11 B10.out.size (fun q hq => (own10.lt q hq).1); have hX11 := hXq.below b11; have p11 := hX11.cell 0; have f11 := hX11.frozen 0; have OW11 := Lib.hid own11; have B11 := Lib.hid b11; clear own11 hg11 hat11 hXz)
            go_ret
            exact ⟨by rw [HE.out]; rfl, hZ.out _ _ _ OW11.out hc11 B11.out⟩
          · try simp (maxSteps := 2000000) only [List.getElem_toArray, List.getElem_cons_succ, List.getElem_cons_zero]
            go_simp
            have hA : Below wa.heap.size wa (wa.alloc (.cells #[.string k, .bool d, .slice A m c] 102)) := (Below.refl _ _).alloc (Nat.le_refl _) _
            replace own := own.keep WrR.stable hA
            have r9 := wr_one (S := fun b => S b ∧ b < wq.heap.size) (W := wa) (k := k) (d := d) (c := c) (RV.out.below U8R.stable hHeld)
            refine hK.out _ _ (below_then hA hHeld) (fun hHeld => ?_)
            clear hK K
            try simp (maxSteps := 2000000) only [List.getElem_toArray, List.getElem_cons_succ, List.getElem_cons_zero, Act.put, List.setIfInBounds_toArray, List.set_cons_zero, List.set_cons_succ]
            obtain ⟨wb, hw⟩ : ∃ wn, wa.alloc (.cells #[.string k, .bool d, .slice A m c] 102) = wn := ⟨_, rfl⟩
            rw [hw] at hHeld own r9 ⊢
            clear hw hA
            have hs_wb := hHeld.size
            refine wpAnyH_ready (rs := [7]) (by kernel_rfl) (by simp) ?_
            refine AllReadyH.cons rfl (fun K hK => ?_) AllReadyH.nil
            have hs7 := hHeld.size
            refine step_law (by rfl) (wpList_appL WrR.stable WrR.one sl_wr (by rfl) (by rfl) (base := wq.heap.size) (S := S) (S0 := fun b => S b ∧ b < wq.heap.size) (by rfl) own (by rfl) (RL0.out.below WrR.stable hHeld) (fun cs y hy => WrR.stable _ _ _ _ _ _ hy (fun b hb _ => ⟨⟨hb.1, fun e => by have h1 := hb.2; have h2 := (own.lt b e.symm).1; omega⟩, rfl⟩)) (by unfold maxLen; omega) (by omega) hs7 ?_)
            intro A7 c7 wc hc7 own7 hg7 hat7
            refine And.intro rfl ?_
            have b7 : Below wq.heap.size wq wc := hHeld.grown hg7 hs7 (fun q hq => (own.lt q hq).1)
            rw [Nat.zero_add] at own7 hc7 hat7
            rw [List.nil_append] at own7
            have hv7 : ∀ q, (Value.slice A7 i c7).ownBlock = some q → q = wd.heap.size ∨ q = wb.heap.size := fun q hq => hat7.elim (fun e => .inl (Option.some.inj (e.symm.trans hq)).symm) (fun e => .inr (Option.some.inj (e.symm.trans hq)).symm)
            have lt9 : wa.heap.size < wb.heap.size := by obtain ⟨b, o, e, _, h⟩ := r9.addr (k := 0) (by omega); injection e with e; injection e with e; omega
            replace r9 := r9.stable WrR.stable (fun b hb hlt => ⟨hb, hg7.block b hlt (fun e => by have e2 : b = wd.heap.size := Option.some.inj e; rcases hb with hb | hb <;> omega)⟩)
            have hlt7 : ∀ q, (Value.slice A7 i c7).ownBlock = some q → q < wc.heap.size := fun q hq => (own7.lt q hq).2
            refine hK.out _ _ b7 (fun hHeld => ?_)
            clear hK K
            try simp (maxSteps := 2000000) only [List.getElem_toArray, List.getElem_cons_succ, List.getElem_cons_zero, Act.put, List.setIfInBounds_toArray, List.set_cons_zero, List.set_cons_succ]
            rw [Nat.zero_add]
            have hs_wc := hHeld.size
            refine wpAnyH_ready (rs := [10]) (by kernel_rfl) (by simp) ?_
            refine AllReadyH.cons rfl (fun K hK => ?_) AllReadyH.nil
            have hs10 := hHeld.size
            have own := own7
            have lt9 : wa.heap.size < wc.heap.size := by obtain ⟨b, o, e, _, h⟩ := r9.addr (k := 0) (by omega); injection e with e; injection e with e; omega
            refine step_law (by rfl) (wpList_appL WrR.stable WrR.one sl_wr (by rfl) (by rfl) (base := wq.heap.size) (S := S) (by rfl) own7 (by rfl) r9 (fun cs y hy => WrR.stable _ _ _ _ _ _ hy (fun b hb _ => ⟨⟨hb.elim (fun h => h.1) (fun h => hSn b (by omega)), fun e => by have h2 := own7.lt b e.symm; have h3 := hv7 b e.symm; have h4 := hlt7 b e.symm; rcases hb with hb | hb <;> omega⟩, rfl⟩)) (by unfold maxLen; omega) (by omega) hs10 ?_)
            intro A10 c10 wz hc10 own10 hg10 hat10
            refine And.intro rfl ?_
            have b10 : Below wq.heap.size wq wz := hHeld.grown hg10 hs10 (fun q hq => (own7.lt q hq).1)
            refine hK.out _ _ b10 (fun hHeld => ?_)
            clear hK K
            try simp (maxSteps := 2000000) only [List.getElem_toArray, List.getElem_cons_succ, List.getElem_cons_zero, Act.put, List.setIfInBounds_toArray, List.set_cons_zero, List.set_cons_succ]
            have B10 := Lib.hid b10
            have OW := Lib.hid own10
            clear own10 own7 own r9 b10 hg10 hat10 hc10
            refine wpAnyH_take (i := 11) (v := ?_) rfl (by kernel_rfl) (by kernel_rfl) (by kernel_rfl) (fun _ _ _ h => h) (Or.inl ⟨by first | kernel_rfl | rfl, ?_⟩) (by assumption) ?_
            rotate_left
            · (intro wq hSw; (try dsimp only at hSw); (try simp (maxSteps := 2000000) only [List.getElem_toArray, List.getElem_cons_succ, List.getElem_cons_zero]); go_simp); try with_reducible rfl
            try simp (maxSteps := 2000000) only [List.getElem_toArray, List.getElem_cons_succ, List.getElem_cons_zero, Act.put, List.setIfInBounds_toArray, List.set_cons_zero, List.set_cons_succ]
            refine wpAnyH_done (by kernel_rfl) ?_ _
            clear k0 k1 k2
            have hXz := hXq.below B10.out
            have own10 := OW.out
            have hxz := hXz.lt
            have pz := hXz.cell 0
            have hnx : ∀ q, (Value.slice A10 (i + 1) c10).ownBlock = some q → q ≠ x := fun q hq => by have h1 := (own10.lt q hq).1; have h2 := hXq.lt; omega
            go_wp2_with (at_builtin; refine wpList_appL WrR.stable WrR.one sl_wr rfl (by exact rfl) (base := wq.heap.size) (S := S) (by exact rfl) own10 (by exact rfl) (RS.out.below WrR.stable B10.out) (fun cs y hy => WrR.stable _ _ _ _ _ _ hy (fun b hb _ => ⟨⟨hb.1, fun e => by have h1 := hb.2; have h2 := (own10.lt b e.symm).1; omega⟩, rfl⟩)) (by unfold maxLen; omega) (by omega) B10.out.size ?_; intro A11 c11 w11 hc11 own11 hg11 hat11; have b11 := B10.out.grown hg11 B10.out.size (fun q hq => (own10.lt q hq).1); have hX11 := hXq.below b11; have p11 := hX11.cell 0; have f11 := hX11.frozen 0; have OW11 := Lib.hid own11; have B11 := Lib.hid b11; clear own11 hg11 hat11 hXz)
            go_ret
            exact ⟨by rw [HE.out]; rfl, hZ.out _ _ _ OW11.out hc11 B11.out⟩
        · try simp (maxSteps := 2000000) only [List.getElem_toArray, List.getElem_cons_succ, List.getElem_cons_zero]
          go_simp
          have hA : Below wd.heap.size wd (wd.alloc (.cells #[.string k, .bool d, .slice A m c] 102)) := (Below.refl _ _).alloc (Nat.le_refl _) _
          have r9 := wr_one (S := fun b => S b ∧ b < wq.heap.size) (W := wd) (k := k) (d := d) (c := c) (RV.out.below U8R.stable hHeld)
          refine hK.out _ _ (below_then hA hHeld) (fun hHeld => ?_)
          clear hK K
          try simp (maxSteps := 2000000) only [List.getElem_toArray, List.getElem_cons_succ, List.getElem_cons_zero, Act.put, List.setIfInBounds_toArray, List.set_cons_zero, List.set_cons_succ]
          obtain ⟨wa, hw⟩ : ∃ wn, wd.alloc (.cells #[.string k, .bool d, .slice A m c] 102) = wn := ⟨_, rfl⟩
          rw [hw] at hHeld r9 ⊢
          clear hw hA
          have hs_wa := hHeld.size
          refine wpAnyH_ready (rs := [0]) (by kernel_rfl) (by simp) ?_
          refine AllReadyH.cons rfl (fun K hK => ?_) AllReadyH.nil
          have lt9 : wd.heap.size < wa.heap.size := by obtain ⟨b, o, e, _, h⟩ := r9.addr (k := 0) (by omega); injection e with e; injection e with e; omega
          try simp (maxSteps := 2000000) only [List.getElem_toArray, List.getElem_cons_succ, List.getElem_cons_zero]
          go_simp
          have hA : Below wa.heap.size wa (wa.alloc (.cells #[] 102)) := (Below.refl _ _).alloc (Nat.le_refl _) _
          replace r9 := r9.below WrR.stable hA
          have own := OwnL.made (R := WrR) (E := 102) (s := 3) (base := wq.heap.size) (S := S) (w := wa) #[] 0 hHeld.size (by decide) rfl
          refine hK.out _ _ (below_then hA hHeld) (fun hHeld => ?_)
          clear hK K
          try simp (maxSteps := 2000000) only [List.getElem_toArray, List.getElem_cons_succ, List.getElem_cons_zero, Act.put, List.setIfInBounds_toArray, List.set_cons_zero, List.set_cons_succ]
          obtain ⟨wb, hw⟩ : ∃ wn, wa.alloc (.cells #[] 102) = wn := ⟨_, rfl⟩
          rw [hw] at hHeld r9 own ⊢
          clear hw hA
          have hs_wb := hHeld.size
          have lto : wa.heap.size < wb.heap.size := (own.lt _ rfl).2
          refine wpAnyH_ready (rs := [7]) (by kernel_rfl) (by simp) ?_
          refine AllReadyH.cons rfl (fun K hK => ?_) AllReadyH.nil
          have hs7 := hHeld.size
          refine step_law (by rfl) (wpList_appL WrR.stable WrR.one sl_wr (by rfl) (by rfl) (base := wq.heap.size) (S := S) (S0 := fun b => S b ∧ b < wq.heap.size) (by rfl) own (by rfl) (RL0.out.below WrR.stable hHeld) (fun cs y hy => WrR.stable _ _ _ _ _ _ hy (fun b hb _ => ⟨⟨hb.1, fun e => by have h1 := hb.2; have h2 := (own.lt b e.symm).1; omega⟩, rfl⟩)) (by unfold maxLen; omega) (by omega) hs7 ?_)
          intro A7 c7 wc hc7 own7 hg7 hat7
          refine And.intro rfl ?_
          have b7 : Below wq.heap.size wq wc := hHeld.grown hg7 hs7 (fun q hq => (own.lt q hq).1)
          rw [Nat.zero_add] at own7 hc7 hat7
          rw [List.nil_append] at own7
          have hv7 : ∀ q, (Value.slice A7 i c7).ownBlock = some q → q = wa.heap.size ∨ q = wb.heap.size := fun q hq => hat7.elim (fun e => .inl (Option.some.inj (e.symm.trans hq)).symm) (fun e => .inr (Option.some.inj (e.symm.trans hq)).symm)
          have lt9 : wd.heap.size < wb.heap.size := by obtain ⟨b, o, e, _, h⟩ := r9.addr (k := 0) (by omega); injection e with e; injection e with e; omega
          replace r9 := r9.stable WrR.stable (fun b hb hlt => ⟨hb, hg7.block b hlt (fun e => by have e2 : b = wa.heap.size := Option.some.inj e; rcases hb with hb | hb <;> omega)⟩)
          have hlt7 : ∀ q, (Value.slice A7 i c7).ownBlock = some q → q < wc.heap.size := fun q hq => (own7.lt q hq).2
          refine hK.out _ _ b7 (fun hHeld => ?_)
          clear hK K
          try simp (maxSteps := 2000000) only [List.getElem_toArray, List.getElem_cons_succ, List.getElem_cons_zero, Act.put, List.setIfInBounds_toArray, List.set_cons_zero, List.set_cons_succ]
          rw [Nat.zero_add]
          have hs_wc := hHeld.size
          refine wpAnyH_ready (rs := [10]) (by kernel_rfl) (by simp) ?_
          refine AllReadyH.cons rfl (fun K hK => ?_) AllReadyH.nil
          have hs10 := hHeld.size
          have own := own7
          have lt9 : wd.heap.size < wc.heap.size := by obtain ⟨b, o, e, _, h⟩ := r9.addr (k := 0) (by omega); injection e with e; injection e with e; omega
          refine step_law (by rfl) (wpList_appL WrR.stable WrR.one sl_wr (by rfl) (by rfl) (base := wq.heap.size) (S := S) (by rfl) own7 (by rfl) r9 (fun cs y hy => WrR.stable _ _ _ _ _ _ hy (fun b hb _ => ⟨⟨hb.elim (fun h => h.1) (fun h => hSn b (by omega)), fun e => by have h2 := own7.lt b e.symm; have h3 := hv7 b e.symm; have h4 := hlt7 b e.symm; rcases hb with hb | hb <;> omega⟩, rfl⟩)) (by unfold maxLen; omega) (by omega) hs10 ?_)
          intro A10 c10 wz hc10 own10 hg10 hat10
          refine And.intro rfl ?_
          have b10 : Below wq.heap.size wq wz := hHeld.grown hg10 hs10 (fun q hq => (own7.lt q hq).1)
          refine hK.out _ _ b10 (fun hHeld => ?_)
          clear hK K
          try simp (maxSteps := 2000000) only [List.getElem_toArray, List.getElem_cons_succ, List.getElem_cons_zero, Act.put, List.setIfInBounds_toArray, List.set_cons_zero, List.set_cons_succ]
          have B10 := Lib.hid b10
          have OW := Lib.hid own10
          clear own10 own7 own r9 b10 hg10 hat10 hc10
          refine wpAnyH_take (i := 11) (v := ?_) rfl (by kernel_rfl) (by kernel_rfl) (by kernel_rfl) (fun _ _ _ h => h) (Or.inl ⟨by first | kernel_rfl | rfl, ?_⟩) (by assumption) ?_
          rotate_left
          · (intro wq hSw; (try dsimp only at hSw); (try simp (maxSteps := 2000000) only [List.getElem_toArray, List.getElem_cons_succ, List.getElem_cons_zero]); go_simp); try with_reducible rfl
          try simp (maxSteps := 2000000) only [List.getElem_toArray, List.getElem_cons_succ, List.getElem_cons_zero, Act.put, List.setIfInBounds_toArray, List.set_cons_zero, List.set_cons_succ]
          refine wpAnyH_done (by kernel_rfl) ?_ _
          clear k0 k1 k2
          have hXz := hXq.below B10.out
          have own10 := OW.out
          have hxz := hXz.lt
          have pz := hXz.cell 0
          have hnx : ∀ q, (Value.slice A10 (i + 1) c10).ownBlock = some q → q ≠ x := fun q hq => by have h1 := (own10.lt q hq).1; have h2 := hXq.lt; omega
          go_wp2_with (at_builtin; refine wpList_appL WrR.stable WrR.one sl_wr rfl (by exact rfl) (base := wq.heap.size) (S := S) (by exact rfl) own10 (by exact rfl) (RS.out.below WrR.stable B10.out) (fun cs y hy => WrR.stable _ _ _ _ _ _ hy (fun b hb _ => ⟨⟨hb.1, fun e => by have h1 := hb.2; have h2 := (own10.lt b e.symm).1; omega⟩, rfl⟩)) (by unfold maxLen; omega) (by omega) B10.out.size ?_; intro A11 c11 w11 hc11 own11 hg11 hat11; have b11 := B10.out.grown hg11 B10.out.size (fun q hq => (own10.lt q hq).1); have hX11 := hXq.below b11; have p11 := hX11.cell 0; have f11 := hX11.frozen 0; have OW11 := Lib.hid own11; have B11 := Lib.hid b11; clear own11 hg11 hat11 hXz)
          go_ret
          exact ⟨by rw [HE.out]; rfl, hZ.out _ _ _ OW11.out hc11 B11.out⟩
      | some z =>
        have hzi := find_pos hok.out.rises hf
        rw [HI.out] at hzi
        have hil2 : i < L.length := (List.getElem?_eq_some_iff.1 hzi).1
        have hwr : wrap64 ((i : Int) + 1) = (i : Int) + 1 := by unfold wrap64; omega
        rw [hf] at hins
        have hins : insW L ⟨k, d, xs⟩ = L.take i ++ [⟨k, d, xs⟩] ++ L.drop (i + 1) := by rw [hins]; simp
        have hsl2 := fun w' => piece_suf sl_wr (A := AL) (N := L.length) (c := cL) (k := i + 1) hil2 w'
        have RS0 := piece_rd (RLq.stable (S' := fun b => S b ∧ b < wq.heap.size) WrR.stable (fun b hb hlt => ⟨⟨hb, hlt⟩, rfl⟩)) hcL hil2
        obtain ⟨AS, hAS⟩ : ∃ AS, (if cL = i + 1 then AL else AL.map (fun x : Addr => x.add ((i + 1) * 3))) = AS := ⟨_, rfl⟩
        rw [hAS] at hsl2 RS0
        have hsl2 : ∀ w', (Instr.slice 95 (.slice AL L.length cL) (some (.int .i64 ((i : Int) + 1))) none none).run Try.prog w' = .ok (.slice AS (L.length - (i + 1)) (cL - (i + 1))) w' := fun w' => hsl2 w'
        have RS := Lib.hid RS0
        have hZ := Lib.hid fun A' c' w' (own : OwnL WrR 102 3 wq.heap.size S w' (.slice A' (i + 1 + (L.length - (i + 1))) c') (i + 1 + (L.length - (i + 1))) (L.take i ++ [⟨k, d, xs⟩] ++ L.drop (i + 1))) (hc : i + 1 + (L.length - (i + 1)) ≤ c') (hb : Below wq.heap.size wq w') => rwrite_post (k := k) (d := d) (xs := xs) hXq Bq.out own hc hb hSx hSn hins HE.out
        clear hins hAS RS0 hf hbig hzi
        go_wp2_with fail
        refine wp_region_held_drew (S := fun w' => Below wq.heap.size wq w') (by kernel_rfl) (by first | assumption | exact Below.refl _ _ | exact (Below.refl _ _).drew | exact (by repeat (first | (with_reducible exact Below.refl _ _) | (with_reducible assumption) | (with_reducible refine Below.drew ?_) | (with_reducible refine Below.setCell ?_ ?_ _) | (with_reducible refine Below.alloc ?_ ?_ _) | (with_reducible refine Below.later ?_ ?_ _) | (first | (with_reducible exact Nat.le_refl _) | omega | (simp only [World.size_alloc, World.size_setCell, World.size_drew] <;> omega))))) (fun hHeld => ?_)
        refine wpAnyH_take (i := 1) (v := ?_) rfl (by kernel_rfl) (by kernel_rfl) (by kernel_rfl) (fun _ _ _ h => h) (Or.inl ⟨by first | kernel_rfl | rfl, ?_⟩) (by assumption) ?_
        rotate_left
        · (intro wq hSw; (try dsimp only at hSw); (try simp (maxSteps := 2000000) only [List.getElem_toArray, List.getElem_cons_succ, List.getElem_cons_zero]); go_simp); try with_reducible rfl
        try simp (maxSteps := 2000000) only [List.getElem_toArray, List.getElem_cons_succ, List.getElem_cons_zero, Act.put, List.setIfInBounds_toArray, List.set_cons_zero, List.set_cons_succ]
        refine wpAnyH_take (i := 2) (v := ?_) rfl (by kernel_rfl) (by kernel_rfl) (by kernel_rfl) (fun _ _ _ h => h) (Or.inl ⟨by first | kernel_rfl | rfl, ?_⟩) (by assumption) ?_
        rotate_left
        · (intro wq hSw; (try dsimp only at hSw); (try simp (maxSteps := 2000000) only [List.getElem_toArray, List.getElem_cons_succ, List.getElem_cons_zero]); go_simp); try with_reducible rfl
        try simp (maxSteps := 2000000) only [List.getElem_toArray, List.getElem_cons_succ, List.getElem_cons_zero, Act.put, List.setIfInBounds_toArray, List.set_cons_zero, List.set_cons_succ]
        refine wpAnyH_take (i := 3) (v := ?_) rfl (by kernel_rfl) (by kernel_rfl) (by kernel_rfl) (fun _ _ _ h => h) (Or.inl ⟨by first | kernel_rfl | rfl, ?_⟩) (by assumption) ?_
        rotate_left
        · (intro wq hSw; (try dsimp only at hSw); (try simp (maxSteps := 2000000) only [List.getElem_toArray, List.getElem_cons_succ, List.getElem_cons_zero]); go_simp); try with_reducible rfl
        try simp (maxSteps := 2000000) only [List.getElem_toArray, List.getElem_cons_succ, List.getElem_cons_zero, Act.put, List.setIfInBounds_toArray, List.set_cons_zero, List.set_cons_succ]
        refine wpAnyH_take (i := 4) (v := ?_) rfl (by kernel_rfl) (by kernel_rfl) (by kernel_rfl) (fun _ _ _ h => h) (Or.inl ⟨by first | kernel_rfl | rfl, ?_⟩) (by assumption) ?_
        rotate_left
        · (intro wq hSw; (try dsimp only at hSw); (try simp (maxSteps := 2000000) only [List.getElem_toArray, List.getElem_cons_succ, List.getElem_cons_zero]); go_simp); try with_reducible rfl
        try simp (maxSteps := 2000000) only [List.getElem_toArray, List.getElem_cons_succ, List.getElem_cons_zero, Act.put, List.setIfInBounds_toArray, List.set_cons_zero, List.set_cons_succ]
        refine wpAnyH_take (i := 5) (v := ?_) rfl (by kernel_rfl) (by kernel_rfl) (by kernel_rfl) (fun _ _ _ h => h) (Or.inl ⟨by first | kernel_rfl | rfl, ?_⟩) (by assumption) ?_
        rotate_left
        · (intro wq hSw; (try dsimp only at hSw); (try simp (maxSteps := 2000000) only [List.getElem_toArray, List.getElem_cons_succ, List.getElem_cons_zero]); go_simp); try with_reducible rfl
        try simp (maxSteps := 2000000) only [List.getElem_toArray, List.getElem_cons_succ, List.getElem_cons_zero, Act.put, List.setIfInBounds_toArray, List.set_cons_zero, List.set_cons_succ]
        refine wpAnyH_take (i := 6) (v := ?_) rfl (by kernel_rfl) (by kernel_rfl) (by kernel_rfl) (fun _ _ _ h => h) (Or.inl ⟨by first | kernel_rfl | rfl, ?_⟩) (by assumption) ?_
        rotate_left
        · (intro wq hSw; (try dsimp only at hSw); (try simp (maxSteps := 2000000) only [List.getElem_toArray, List.getElem_cons_succ, List.getElem_cons_zero]); go_simp); try with_reducible rfl
        try simp (maxSteps := 2000000) only [List.getElem_toArray, List.getElem_cons_succ, List.getElem_cons_zero, Act.put, List.setIfInBounds_toArray, List.set_cons_zero, List.set_cons_succ]
        refine wpAnyH_take (i := 8) (v := ?_) rfl (by kernel_rfl) (by kernel_rfl) (by kernel_rfl) (fun _ _ _ h => h) (Or.inl ⟨by first | kernel_rfl | rfl, ?_⟩) (by assumption) ?_
        rotate_left
        · (intro wq hSw; (try dsimp only at hSw); (try simp (maxSteps := 2000000) only [List.getElem_toArray, List.getElem_cons_succ, List.getElem_cons_zero]); go_simp); try with_reducible rfl
        try simp (maxSteps := 2000000) only [List.getElem_toArray, List.getElem_cons_succ, List.getElem_cons_zero, Act.put, List.setIfInBounds_toArray, List.set_cons_zero, List.set_cons_succ]
        obtain ⟨wd, hwd⟩ : ∃ wd, wq.drew = wd := ⟨_, rfl⟩
        rw [hwd] at hHeld ⊢
        clear hwd
        have hs_wd := hHeld.size
        refine wpAnyH_ready (rs := [0, 9]) (by kernel_rfl) (by simp) ?_
        refine AllReadyH.cons rfl (fun K hK => ?_) (AllReadyH.cons rfl (fun K hK => ?_) AllReadyH.nil)
        · try simp (maxSteps := 2000000) only [List.getElem_toArray, List.getElem_cons_succ, List.getElem_cons_zero]
          go_simp
          have hA : Below wd.heap.size wd (wd.alloc (.cells #[] 102)) := (Below.refl _ _).alloc (Nat.le_refl _) _
          have own := OwnL.made (R := WrR) (E := 102) (s := 3) (base := wq.heap.size) (S := S) (w := wd) #[] 0 hHeld.size (by decide) rfl
          refine hK.out _ _ (below_then hA hHeld) (fun hHeld => ?_)
          clear hK K
          try simp (maxSteps := 2000000) only [List.getElem_toArray, List.getElem_cons_succ, List.getElem_cons_zero, Act.put, List.setIfInBounds_toArray, List.set_cons_zero, List.set_cons_succ]
          obtain ⟨wa, hw⟩ : ∃ wn, wd.alloc (.cells #[] 102) = wn := ⟨_, rfl⟩
          rw [hw] at hHeld own ⊢
          clear hw hA
          have hs_wa := hHeld.size
          have lto : wd.heap.size < wa.heap.size := (own.lt _ rfl).2
          refine wpAnyH_ready (rs := [7, 9]) (by kernel_rfl) (by simp) ?_
          refine AllReadyH.cons rfl (fun K hK => ?_) (AllReadyH.cons rfl (fun K hK => ?_) AllReadyH.nil)
          · have hs7 := hHeld.size
            refine step_law (by rfl) (wpList_appL WrR.stable WrR.one sl_wr (by rfl) (by rfl) (base := wq.heap.size) (S := S) (S0 := fun b => S b ∧ b < wq.heap.size) (by rfl) own (by rfl) (RL0.out.below WrR.stable hHeld) (fun cs y hy => WrR.stable _ _ _ _ _ _ hy (fun b hb _ => ⟨⟨hb.1, fun e => by have h1 := hb.2; have h2 := (own.lt b e.symm).1; omega⟩, rfl⟩)) (by unfold maxLen; omega) (by omega) hs7 ?_)
            intro A7 c7 wb hc7 own7 hg7 hat7
            refine And.intro rfl ?_
            have b7 : Below wq.heap.size wq wb := hHeld.grown hg7 hs7 (fun q hq => (own.lt q hq).1)
            rw [Nat.zero_add] at own7 hc7 hat7
            rw [List.nil_append] at own7
            have hv7 : ∀ q, (Value.slice A7 i c7).ownBlock = some q → q = wd.heap.size ∨ q = wa.heap.size := fun q hq => hat7.elim (fun e => .inl (Option.some.inj (e.symm.trans hq)).symm) (fun e => .inr (Option.some.inj (e.symm.trans hq)).symm)
            have hlt7 : ∀ q, (Value.slice A7 i c7).ownBlock = some q → q < wb.heap.size := fun q hq => (own7.lt q hq).2
            refine hK.out _ _ b7 (fun hHeld => ?_)
            clear hK K
            try simp (maxSteps := 2000000) only [List.getElem_toArray, List.getElem_cons_succ, List.getElem_cons_zero, Act.put, List.setIfInBounds_toArray, List.set_cons_zero, List.set_cons_succ]
            rw [Nat.zero_add]
            have hs_wb := hHeld.size
            refine wpAnyH_ready (rs := [9]) (by kernel_rfl) (by simp) ?_
            refine AllReadyH.cons rfl (fun K hK => ?_) AllReadyH.nil
            try simp (maxSteps := 2000000) only [List.getElem_toArray, List.getElem_cons_succ, List.getElem_cons_zero]
            go_simp
            have hA : Below wb.heap.size wb (wb.alloc (.cells #[.string k, .bool d, .slice A m c] 102)) := (Below.refl _ _).alloc (Nat.le_refl _) _
            replace own7 := own7.keep WrR.stable hA
            have r9 := wr_one (S := fun b => S b ∧ b < wq.heap.size) (W := wb) (k := k) (d := d) (c := c) (RV.out.below U8R.stable hHeld)
            refine hK.out _ _ (below_then hA hHeld) (fun hHeld => ?_)
            clear hK K
            try simp (maxSteps := 2000000) only [List.getElem_toArray, List.getElem_cons_succ, List.getElem_cons_zero, Act.put, List.setIfInBounds_toArray, List.set_cons_zero, List.set_cons_succ]
            obtain ⟨wc, hw⟩ : ∃ wn, wb.alloc (.cells #[.string k, .bool d, .slice A m c] 102) = wn := ⟨_, rfl⟩
            rw [hw] at hHeld own7 r9 ⊢
            clear hw hA
            have hs_wc := hHeld.size
            have hne : ∀ q, (Value.slice A7 i c7).ownBlock = some q → q ≠ wb.heap.size := fun q hq => by have := hlt7 q hq; omega
            refine wpAnyH_ready (rs := [10]) (by kernel_rfl) (by simp) ?_
            refine AllReadyH.cons rfl (fun K hK => ?_) AllReadyH.nil
            have hs10 := hHeld.size
            have own := own7
            have lt9 : wb.heap.size < wc.heap.size := by obtain ⟨b, o, e, _, h⟩ := r9.addr (k := 0) (by omega); injection e with e; injection e with e; omega
            refine step_law (by rfl) (wpList_appL WrR.stable WrR.one sl_wr (by rfl) (by rfl) (base := wq.heap.size) (S := S) (by rfl) own7 (by rfl) r9 (fun cs y hy => WrR.stable _ _ _ _ _ _ hy (fun b hb _ => ⟨⟨hb.elim (fun h => h.1) (fun h => hSn b (by omega)), fun e => by have h2 := own7.lt b e.symm; have h3 := hv7 b e.symm; have h4 := hlt7 b e.symm; rcases hb with hb | hb <;> omega⟩, rfl⟩)) (by unfold maxLen; omega) (by omega) hs10 ?_)
            intro A10 c10 wz hc10 own10 hg10 hat10
            refine And.intro rfl ?_
            have b10 : Below wq.heap.size wq wz := hHeld.grown hg10 hs10 (fun q hq => (own7.lt q hq).1)
            refine hK.out _ _ b10 (fun hHeld => ?_)
            clear hK K
            try simp (maxSteps := 2000000) only [List.getElem_toArray, List.getElem_cons_succ, List.getElem_cons_zero, Act.put, List.setIfInBounds_toArray, List.set_cons_zero, List.set_cons_succ]
            have B10 := Lib.hid b10
            have OW := Lib.hid own10
            clear own10 own7 own r9 b10 hg10 hat10 hc10
            refine wpAnyH_take (i := 11) (v := ?_) rfl (by kernel_rfl) (by kernel_rfl) (by kernel_rfl) (fun _ _ _ h => h) (Or.inl ⟨by first | kernel_rfl | rfl, ?_⟩) (by assumption) ?_
            rotate_left
            · (intro wq hSw; (try dsimp only at hSw); (try simp (maxSteps := 2000000) only [List.getElem_toArray, List.getElem_cons_succ, List.getElem_cons_zero]); go_simp); try with_reducible rfl
            try simp (maxSteps := 2000000) only [List.getElem_toArray, List.getElem_cons_succ, List.getElem_cons_zero, Act.put, List.setIfInBounds_toArray, List.set_cons_zero, List.set_cons_succ]
            refine wpAnyH_done (by kernel_rfl) ?_ _
            clear k0 k1 k2
            have hXz := hXq.below B10.out
            have own10 := OW.out
            have hxz := hXz.lt
            have pz := hXz.cell 0
            have hnx : ∀ q, (Value.slice A10 (i + 1) c10).ownBlock = some q → q ≠ x := fun q hq => by have h1 := (own10.lt q hq).1; have h2 := hXq.lt; omega
            go_wp2_with (at_builtin; refine wpList_appL WrR.stable WrR.one sl_wr rfl (by exact rfl) (base := wq.heap.size) (S := S) (by exact rfl) own10 (by exact rfl) (RS.out.below WrR.stable B10.out) (fun cs y hy => WrR.stable _ _ _ _ _ _ hy (fun b hb _ => ⟨⟨hb.1, fun e => by have h1 := hb.2; have h2 := (own10.lt b e.symm).1; omega⟩, rfl⟩)) (by unfold maxLen; omega) (by omega) B10.out.size ?_; intro A11 c11 w11 hc11 own11 hg11 hat11; have b11 := B10.out.grown hg11 B10.out.size (fun q hq => (own10.lt q hq).1); have hX11 := hXq.below b11; have p11 := hX11.cell 0; have f11 := hX11.frozen 0; have OW11 := Lib.hid own11; have B11 := Lib.hid b11; clear own11 hg11 hat11 hXz)
            go_ret
            exact ⟨by rw [HE.out]; rfl, hZ.out _ _ _ OW11.out hc11 B11.out⟩
          · try simp (maxSteps := 2000000) only [List.getElem_toArray, List.getElem_cons_succ, List.getElem_cons_zero]
            go_simp
            have hA : Below wa.heap.size wa (wa.alloc (.cells #[.string k, .bool d, .slice A m c] 102)) := (Below.refl _ _).alloc (Nat.le_refl _) _
            replace own := own.keep WrR.stable hA
            have r9 := wr_one (S := fun b => S b ∧ b < wq.heap.size) (W := wa) (k := k) (d := d) (c := c) (RV.out.below U8R.stable hHeld)
            refine hK.out _ _ (below_then hA hHeld) (fun hHeld => ?_)
            clear hK K
            try simp (maxSteps := 2000000) only [List.getElem_toArray, List.getElem_cons_succ, List.getElem_cons_zero, Act.put, List.setIfInBounds_toArray, List.set_cons_zero, List.set_cons_succ]
            obtain ⟨wb, hw⟩ : ∃ wn, wa.alloc (.cells #[.string k, .bool d, .slice A m c] 102) = wn := ⟨_, rfl⟩
            rw [hw] at hHeld own r9 ⊢
            clear hw hA
            have hs_wb := hHeld.size
            refine wpAnyH_ready (rs := [7]) (by kernel_rfl) (by simp) ?_
            refine AllReadyH.cons rfl (fun K hK => ?_) AllReadyH.nil
            have hs7 := hHeld.size
            refine step_law (by rfl) (wpList_appL WrR.stable WrR.one sl_wr (by rfl) (by rfl) (base := wq.heap.size) (S := S) (S0 := fun b => S b ∧ b < wq.heap.size) (by rfl) own (by rfl) (RL0.out.below WrR.stable hHeld) (fun cs y hy => WrR.stable _ _ _ _ _ _ hy (fun b hb _ => ⟨⟨hb.1, fun e => by have h1 := hb.2; have h2 := (own.lt b e.symm).1; omega⟩, rfl⟩)) (by unfold maxLen; omega) (by omega) hs7 ?_)
            intro A7 c7 wc hc7 own7 hg7 hat7
            refine And.intro rfl ?_
            have b7 : Below wq.heap.size wq wc := hHeld.grown hg7 hs7 (fun q hq => (own.lt q hq).1)
            rw [Nat.zero_add] at own7 hc7 hat7
            rw [List.nil_append] at own7
            have hv7 : ∀ q, (Value.slice A7 i c7).ownBlock = some q → q = wd.heap.size ∨ q = wb.heap.size := fun q hq => hat7.elim (fun e => .inl (Option.some.inj (e.symm.trans hq)).symm) (fun e => .inr (Option.some.inj (e.symm.trans hq)).symm)
            have lt9 : wa.heap.size < wb.heap.size := by obtain ⟨b, o, e, _, h⟩ := r9.addr (k := 0) (by omega); injection e with e; injection e with e; omega
            replace r9 := r9.stable WrR.stable (fun b hb hlt => ⟨hb, hg7.block b hlt (fun e => by have e2 : b = wd.heap.size := Option.some.inj e; rcases hb with hb | hb <;> omega)⟩)
            have hlt7 : ∀ q, (Value.slice A7 i c7).ownBlock = some q → q < wc.heap.size := fun q hq => (own7.lt q hq).2
            refine hK.out _ _ b7 (fun hHeld => ?_)
            clear hK K
            try simp (maxSteps := 2000000) only [List.getElem_toArray, List.getElem_cons_succ, List.getElem_cons_zero, Act.put, List.setIfInBounds_toArray, List.set_cons_zero, List.set_cons_succ]
            rw [Nat.zero_add]
            have hs_wc := hHeld.size
            refine wpAnyH_ready (rs := [10]) (by kernel_rfl) (by simp) ?_
            refine AllReadyH.cons rfl (fun K hK => ?_) AllReadyH.nil
            have hs10 := hHeld.size
            have own := own7
            have lt9 : wa.heap.size < wc.heap.size := by obtain ⟨b, o, e, _, h⟩ := r9.addr (k := 0) (by omega); injection e with e; injection e with e; omega
            refine step_law (by rfl) (wpList_appL WrR.stable WrR.one sl_wr (by rfl) (by rfl) (base := wq.heap.size) (S := S) (by rfl) own7 (by rfl) r9 (fun cs y hy => WrR.stable _ _ _ _ _ _ hy (fun b hb _ => ⟨⟨hb.elim (fun h => h.1) (fun h => hSn b (by omega)), fun e => by have h2 := own7.lt b e.symm; have h3 := hv7 b e.symm; have h4 := hlt7 b e.symm; rcases hb with hb | hb <;> omega⟩, rfl⟩)) (by unfold maxLen; omega) (by omega) hs10 ?_)
            intro A10 c10 wz hc10 own10 hg10 hat10
            refine And.intro rfl ?_
            have b10 : Below wq.heap.size wq wz := hHeld.grown hg10 hs10 (fun q hq => (own7.lt q hq).1)
            refine hK.out _ _ b10 (fun hHeld => ?_)
            clear hK K
            try simp (maxSteps := 2000000) only [List.getElem_toArray, List.getElem_cons_succ, List.getElem_cons_zero, Act.put, List.setIfInBounds_toArray, List.set_cons_zero, List.set_cons_succ]
            have B10 := Lib.hid b10
            have OW := Lib.hid own10
            clear own10 own7 own r9 b10 hg10 hat10 hc10
            refine wpAnyH_take (i := 11) (v := ?_) rfl (by kernel_rfl) (by kernel_rfl) (by kernel_rfl) (fun _ _ _ h => h) (Or.inl ⟨by first | kernel_rfl | rfl, ?_⟩) (by assumption) ?_
            rotate_left
            · (intro wq hSw; (try dsimp only at hSw); (try simp (maxSteps := 2000000) only [List.getElem_toArray, List.getElem_cons_succ, List.getElem_cons_zero]); go_simp); try with_reducible rfl
            try simp (maxSteps := 2000000) only [List.getElem_toArray, List.getElem_cons_succ, List.getElem_cons_zero, Act.put, List.setIfInBounds_toArray, List.set_cons_zero, List.set_cons_succ]
            refine wpAnyH_done (by kernel_rfl) ?_ _
            clear k0 k1 k2
            have hXz := hXq.below B10.out
            have own10 := OW.out
            have hxz := hXz.lt
            have pz := hXz.cell 0
            have hnx : ∀ q, (Value.slice A10 (i + 1) c10).ownBlock = some q → q ≠ x := fun q hq => by have h1 := (own10.lt q hq).1; have h2 := hXq.lt; omega
            go_wp2_with (at_builtin; refine wpList_appL WrR.stable WrR.one sl_wr rfl (by exact rfl) (base := wq.heap.size) (S := S) (by exact rfl) own10 (by exact rfl) (RS.out.below WrR.stable B10.out) (fun cs y hy => WrR.stable _ _ _ _ _ _ hy (fun b hb _ => ⟨⟨hb.1, fun e => by have h1 := hb.2; have h2 := (own10.lt b e.symm).1; omega⟩, rfl⟩)) (by unfold maxLen; omega) (by omega) B10.out.size ?_; intro A11 c11 w11 hc11 own11 hg11 hat11; have b11 := B10.out.grown hg11 B10.out.size (fun q hq => (own10.lt q hq).1); have hX11 := hXq.below b11; have p11 := hX11.cell 0; have f11 := hX11.frozen 0; have OW11 := Lib.hid own11; have B11 := Lib.hid b11; clear own11 hg11 hat11 hXz)
            go_ret
            exact ⟨by rw [HE.out]; rfl, hZ.out _ _ _ OW11.out hc11 B11.out⟩
        · try simp (maxSteps := 2000000) only [List.getElem_toArray, List.getElem_cons_succ, List.getElem_cons_zero]
          go_simp
          have hA : Below wd.heap.size wd (wd.alloc (.cells #[.string k, .bool d, .slice A m c] 102)) := (Below.refl _ _).alloc (Nat.le_refl _) _
          have r9 := wr_one (S := fun b => S b ∧ b < wq.heap.size) (W := wd) (k := k) (d := d) (c := c) (RV.out.below U8R.stable hHeld)
          refine hK.out _ _ (below_then hA hHeld) (fun hHeld => ?_)
          clear hK K
          try simp (maxSteps := 2000000) only [List.getElem_toArray, List.getElem_cons_succ, List.getElem_cons_zero, Act.put, List.setIfInBounds_toArray, List.set_cons_zero, List.set_cons_succ]
          obtain ⟨wa, hw⟩ : ∃ wn, wd.alloc (.cells #[.string k, .bool d, .slice A m c] 102) = wn := ⟨_, rfl⟩
          rw [hw] at hHeld r9 ⊢
          clear hw hA
          have hs_wa := hHeld.size
          refine wpAnyH_ready (rs := [0]) (by kernel_rfl) (by simp) ?_
          refine AllReadyH.cons rfl (fun K hK => ?_) AllReadyH.nil
          have lt9 : wd.heap.size < wa.heap.size := by obtain ⟨b, o, e, _, h⟩ := r9.addr (k := 0) (by omega); injection e with e; injection e with e; omega
          try simp (maxSteps := 2000000) only [List.getElem_toArray, List.getElem_cons_succ, List.getElem_cons_zero]
          go_simp
          have hA : Below wa.heap.size wa (wa.alloc (.cells #[] 102)) := (Below.refl _ _).alloc (Nat.le_refl _) _
          replace r9 := r9.below WrR.stable hA
          have own := OwnL.made (R := WrR) (E := 102) (s := 3) (base := wq.heap.size) (S := S) (w := wa) #[] 0 hHeld.size (by decide) rfl
          refine hK.out _ _ (below_then hA hHeld) (fun hHeld => ?_)
          clear hK K
          try simp (maxSteps := 2000000) only [List.getElem_toArray, List.getElem_cons_succ, List.getElem_cons_zero, Act.put, List.setIfInBounds_toArray, List.set_cons_zero, List.set_cons_succ]
          obtain ⟨wb, hw⟩ : ∃ wn, wa.alloc (.cells #[] 102) = wn := ⟨_, rfl⟩
          rw [hw] at hHeld r9 own ⊢
          clear hw hA
          have hs_wb := hHeld.size
          have lto : wa.heap.size < wb.heap.size := (own.lt _ rfl).2
          refine wpAnyH_ready (rs := [7]) (by kernel_rfl) (by simp) ?_
          refine AllReadyH.cons rfl (fun K hK => ?_) AllReadyH.nil
          have hs7 := hHeld.size
          refine step_law (by rfl) (wpList_appL WrR.stable WrR.one sl_wr (by rfl) (by rfl) (base := wq.heap.size) (S := S) (S0 := fun b => S b ∧ b < wq.heap.size) (by rfl) own (by rfl) (RL0.out.below WrR.stable hHeld) (fun cs y hy => WrR.stable _ _ _ _ _ _ hy (fun b hb _ => ⟨⟨hb.1, fun e => by have h1 := hb.2; have h2 := (own.lt b e.symm).1; omega⟩, rfl⟩)) (by unfold maxLen; omega) (by omega) hs7 ?_)
          intro A7 c7 wc hc7 own7 hg7 hat7
          refine And.intro rfl ?_
          have b7 : Below wq.heap.size wq wc := hHeld.grown hg7 hs7 (fun q hq => (own.lt q hq).1)
          rw [Nat.zero_add] at own7 hc7 hat7
          rw [List.nil_append] at own7
          have hv7 : ∀ q, (Value.slice A7 i c7).ownBlock = some q → q = wa.heap.size ∨ q = wb.heap.size := fun q hq => hat7.elim (fun e => .inl (Option.some.inj (e.symm.trans hq)).symm) (fun e => .inr (Option.some.inj (e.symm.trans hq)).symm)
          have lt9 : wd.heap.size < wb.heap.size := by obtain ⟨b, o, e, _, h⟩ := r9.addr (k := 0) (by omega); injection e with e; injection e with e; omega
          replace r9 := r9.stable WrR.stable (fun b hb hlt => ⟨hb, hg7.block b hlt (fun e => by have e2 : b = wa.heap.size := Option.some.inj e; rcases hb with hb | hb <;> omega)⟩)
          have hlt7 : ∀ q, (Value.slice A7 i c7).ownBlock = some q → q < wc.heap.size := fun q hq => (own7.lt q hq).2
          refine hK.out _ _ b7 (fun hHeld => ?_)
          clear hK K
          try simp (maxSteps := 2000000) only [List.getElem_toArray, List.getElem_cons_succ, List.getElem_cons_zero, Act.put, List.setIfInBounds_toArray, List.set_cons_zero, List.set_cons_succ]
          rw [Nat.zero_add]
          have hs_wc := hHeld.size
          refine wpAnyH_ready (rs := [10]) (by kernel_rfl) (by simp) ?_
          refine AllReadyH.cons rfl (fun K hK => ?_) AllReadyH.nil
          have hs10 := hHeld.size
          have own := own7
          have lt9 : wd.heap.size < wc.heap.size := by obtain ⟨b, o, e, _, h⟩ := r9.addr (k := 0) (by omega); injection e with e; injection e with e; omega
          refine step_law (by rfl) (wpList_appL WrR.stable WrR.one sl_wr (by rfl) (by rfl) (base := wq.heap.size) (S := S) (by rfl) own7 (by rfl) r9 (fun cs y hy => WrR.stable _ _ _ _ _ _ hy (fun b hb _ => ⟨⟨hb.elim (fun h => h.1) (fun h => hSn b (by omega)), fun e => by have h2 := own7.lt b e.symm; have h3 := hv7 b e.symm; have h4 := hlt7 b e.symm; rcases hb with hb | hb <;> omega⟩, rfl⟩)) (by unfold maxLen; omega) (by omega) hs10 ?_)
          intro A10 c10 wz hc10 own10 hg10 hat10
          refine And.intro rfl ?_
          have b10 : Below wq.heap.size wq wz := hHeld.grown hg10 hs10 (fun q hq => (own7.lt q hq).1)
          refine hK.out _ _ b10 (fun hHeld => ?_)
          clear hK K
          try simp (maxSteps := 2000000) only [List.getElem_toArray, List.getElem_cons_succ, List.getElem_cons_zero, Act.put, List.setIfInBounds_toArray, List.set_cons_zero, List.set_cons_succ]
          have B10 := Lib.hid b10
          have OW := Lib.hid own10
          clear own10 own7 own r9 b10 hg10 hat10 hc10
          refine wpAnyH_take (i := 11) (v := ?_) rfl (by kernel_rfl) (by kernel_rfl) (by kernel_rfl) (fun _ _ _ h => h) (Or.inl ⟨by first | kernel_rfl | rfl, ?_⟩) (by assumption) ?_
          rotate_left
          · (intro wq hSw; (try dsimp only at hSw); (try simp (maxSteps := 2000000) only [List.getElem_toArray, List.getElem_cons_succ, List.getElem_cons_zero]); go_simp); try with_reducible rfl
          try simp (maxSteps := 2000000) only [List.getElem_toArray, List.getElem_cons_succ, List.getElem_cons_zero, Act.put, List.setIfInBounds_toArray, List.set_cons_zero, List.set_cons_succ]
          refine wpAnyH_done (by kernel_rfl) ?_ _
          clear k0 k1 k2
          have hXz := hXq.below B10.out
          have own10 := OW.out
          have hxz := hXz.lt
          have pz := hXz.cell 0
          have hnx : ∀ q, (Value.slice A10 (i + 1) c10).ownBlock = some q → q ≠ x := fun q hq => by have h1 := (own10.lt q hq).1; have h2 := hXq.lt; omega
          go_wp2_with (at_builtin; refine wpList_appL WrR.stable WrR.one sl_wr rfl (by exact rfl) (base := wq.heap.size) (S := S) (by exact rfl) own10 (by exact rfl) (RS.out.below WrR.stable B10.out) (fun cs y hy => WrR.stable _ _ _ _ _ _ hy (fun b hb _ => ⟨⟨hb.1, fun e => by have h1 := hb.2; have h2 := (own10.lt b e.symm).1; omega⟩, rfl⟩)) (by unfold maxLen; omega) (by omega) B10.out.size ?_; intro A11 c11 w11 hc11 own11 hg11 hat11; have b11 := B10.out.grown hg11 B10.out.size (fun q hq => (own10.lt q hq).1); have hX11 := hXq.below b11; have p11 := hX11.cell 0; have f11 := hX11.frozen 0; have OW11 := Lib.hid own11; have B11 := Lib.hid b11; clear own11 hg11 hat11 hXz)
          go_ret
          exact ⟨by rw [HE.out]; rfl, hZ.out _ _ _ OW11.out hc11 B11.out⟩
  · have hE : wrE L ⟨k, d, xs⟩ = 200 := if_pos hr
    have HE := Lib.hid hE
    clear hE
    by_cases h0 : 0 < k.size
    · have e1 : decide ((k.size : Int) < 1) = false := decide_eq_false (by omega)
      have e2 : decide ((16 : Int) < (k.size : Int)) = true := decide_eq_true (by omega)
      go_enter Try.func124, Try.ntmps124
      go_wp2_with fail
      go_ret
      exact ⟨by rw [HE.out]; rfl, by unfold wrW; rw [HE.out]; exact HA.out, Keep.of_below WB0.out⟩
    · have e1 : decide ((k.size : Int) < 1) = true := decide_eq_true (by omega)
      go_enter Try.func124, Try.ntmps124
      go_wp2_with fail
      go_ret
      exact ⟨by rw [HE.out]; rfl, by unfold wrW; rw [HE.out]; exact HA.out, Keep.of_below WB0.out⟩
end Go.Proofs.Ytpibaahiboajhaa
