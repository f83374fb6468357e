/-
  slices.Insert, slices.Clone: a tree's entries, a tree's nodes.
-/
import Derived.Test.YtpibaahiboajhaaTre2
import Derived.Test.YtpibaahiboajhaaIns
import Derived.Deep.RegionLaw
import Derived.Lib.Overlaps
set_option linter.unusedSimpArgs false
set_option linter.unusedVariables false
namespace Go.Proofs.Ytpibaahiboajhaa
open Go.RowKit Go.Cib
attribute [local go_sem] cell_set Later.cell Later.frozen Grw.cell Grw.frozen
open Go.Lib

theorem fresh_grown {w w1 w2 : World} {g : Nat} (h1 : w.grownBy w1 none) (h2 : w1.grownBy w2 (some g)) (hg : w.heap.size ≤ g) : w.grownBy w2 none :=
  ⟨h2.os.trans h1.os, h2.tape.trans h1.tape, h2.output.trans h1.output, Nat.le_trans h1.size h2.size, fun k hk _ => (h2.block k (Nat.lt_of_lt_of_le hk h1.size) (fun e => by injection e with e; omega)).trans (h1.block k hk (by simp))⟩
theorem none_grown {w w1 : World} {r : Option Nat} (h : w.grownBy w1 none) : w.grownBy w1 r := ⟨h.os, h.tape, h.output, h.size, fun k hk _ => h.block k hk (by simp)⟩
theorem zeros_len (z : Array Value) (n : Nat) : (Builtin.zeroCells z n).size = n * z.size := by
  simp [Builtin.zeroCells]
theorem row_form {w : World} {base : Nat} {e : TypeId} {s n : Nat} {v : Value} {xs : List Value} (h : w.ownsRow base e s v n xs) : ∃ A c, v = .slice A n c ∧ n ≤ c := by
  rcases h.2 with ⟨rfl, rfl⟩ | ⟨g, cap, cur, rfl, _, _, hnc, _⟩
  · exact ⟨none, 0, rfl, Nat.le_refl _⟩
  · exact ⟨_, cap, rfl, hnc⟩
theorem grow_owns {w : World} {base g n i s G a b : Nat} {E : TypeId} {row xs ys : List Value} (ha : a = i * s) (hb : b = a + s) (hg : base ≤ g) (h : w.heap[g]? = some (.cells ((row.take a ++ ys ++ row.drop (a + ys.length)).take b ++ xs.drop a ++ (row.take a ++ ys ++ row.drop (a + ys.length)).drop (b + (xs.drop a).length)).toArray E (0, 0)))
    (hG : n + 1 ≤ G) (hm : G ≤ maxLen) (hl : row.length = G * s) (hxl : xs.length = n * s) (hys : ys.length = s) (hi : i ≤ n) (hrow : row.take a = xs.take a) :
    w.ownsRow base E s (.slice (some ⟨g, 0, none⟩) (n + 1) G) (n + 1) (xs.take a ++ (ys ++ xs.drop a)) := by
  subst hb
  have his : a ≤ n * s := ha ▸ Nat.mul_le_mul_right _ hi
  have hns : n * s + s ≤ G * s := by have := Nat.mul_le_mul_right s hG; rw [Nat.add_mul] at this; omega
  have e2 : (n + 1) * s = n * s + s := by rw [Nat.add_mul]; omega
  have e1 : (row.take a ++ ys ++ row.drop (a + ys.length)).take (a + s) = xs.take a ++ ys := by
    rw [List.take_append_of_le_length (by simp only [List.length_append, List.length_take, hl, hys]; omega), List.take_of_length_le (by simp only [List.length_append, List.length_take, hl, hys]; omega), hrow]
  rw [e1] at h
  refine ⟨by rw [e2]; simp only [List.length_append, List.length_take, List.length_drop, hxl, hys]; omega, .inr ⟨g, G, _, rfl, hg, h, hG, hm, ?_, ?_⟩⟩
  · simp only [List.size_toArray, List.length_append, List.length_take, List.length_drop, hxl, hys, hl]
    omega
  · simp only [e2]
    rw [List.take_append_of_le_length (by simp only [List.length_append, List.length_take, List.length_drop, hxl, hys]; omega), List.take_of_length_le (by simp only [List.length_append, List.length_take, List.length_drop, hxl, hys]; omega), List.append_assoc]
theorem ins_owns {w : World} {base g c n i s a b : Nat} {E : TypeId} {cur xs ys : List Value} (ha : a = i * s) (hb : b = a + s) (hg : base ≤ g) (h : w.heap[g]? = some (.cells ((cur.take (0 + b) ++ xs.drop a ++ cur.drop (0 + b + (xs.drop a).length)).take (0 + a) ++ ys ++ (cur.take (0 + b) ++ xs.drop a ++ cur.drop (0 + b + (xs.drop a).length)).drop (0 + a + ys.length)).toArray E (0, 0)))
    (hc : n + 1 ≤ c) (hm : c ≤ maxLen) (hl : cur.length = c * s) (hxl : xs.length = n * s) (hys : ys.length = s) (hi : i ≤ n) (ht : cur.take (n * s) = xs) :
    w.ownsRow base E s (.slice (some ⟨g, 0, none⟩) (n + 1) c) (n + 1) (xs.take a ++ (ys ++ xs.drop a)) := by
  rw [← List.append_assoc]
  subst hb
  have his : a ≤ n * s := ha ▸ Nat.mul_le_mul_right _ hi
  have hns : n * s + s ≤ c * s := by have := Nat.mul_le_mul_right s hc; rw [Nat.add_mul] at this; omega
  have e2 : (n + 1) * s = n * s + s := by rw [Nat.add_mul]; omega
  have hdl : (xs.drop a).length = n * s - a := by rw [List.length_drop, hxl]
  refine ⟨by rw [e2]; simp only [List.length_append, List.length_take, List.length_drop, hxl, hys]; omega, .inr ⟨g, c, _, rfl, hg, h, hc, hm, ?_, ?_⟩⟩
  · simp only [List.size_toArray, List.length_append, List.length_take, List.length_drop, hxl, hys, hl]
    omega
  · have := ins_flat cur xs ys (a := a) (b := a + s) (n := n * s) (s := s) ht (by omega) hys his rfl (by omega)
    simp only [Nat.zero_add, e2] at this ⊢
    exact this
section
variable {P : Program} {ops : Array Oper} {rest : List Oper} {o : Oper} {a : Act} {Q : Exit → Act → World → Prop} {w : World}
theorem wpList_copy_row (hgd : o.guard = none) (d s : Operand) (dT sT elem : TypeId) (ho : o.op = .call { callee := .builtin .copy, args := #[d, s], argTypes := #[dT, sT] }) (size : Nat)
    (hu : P.underlying dT = some (.slice elem)) (hs : (P.info? elem).map (·.size) = some size) {g o2 dLen dCap : Nat} {a0 : Addr} {sLen sCap : Nat} (hd : a.eval d = .slice (some ⟨g, o2, none⟩) dLen dCap) (hx : a.eval s = .slice (some a0) sLen sCap)
    {cur : Array Value} {t : TypeId} (cs : List Value) (hg : w.heap[g]? = some (.cells cur t (0, 0))) (hn : cs.length = Nat.min sLen dLen * size)
    (hsrc : ∀ j v, cs[j]? = some v → w.cell? (a0.add j) = some v) (hfit : o2 + cs.length ≤ cur.size) (h1 : ∀ v ∈ cs, v.oneCell' = true)
    (h : ∀ w', w'.heap[g]? = some (.cells (cur.toList.take o2 ++ cs ++ cur.toList.drop (o2 + cs.length)).toArray t (0, 0)) → w.grownBy w' (some g) → w'.heap.size = w.heap.size → wpList P ops Q rest (a.put o.dst (goInt (Nat.min sLen dLen))) w') :
    wpList P ops Q (o :: rest) a w := by
  obtain ⟨w', hr, k1, k2, k3⟩ := copy_row_ex w dT sT o.type elem size g o2 dLen dCap a0 sLen sCap cur t cs hu hs hg hn hsrc hfit h1
  exact Go.Proofs.wpList_copy_runI w hgd d s dT sT ho _ _ hd hx hr (h w' k1 k2 k3)
theorem wpList_grow_zeros (hgd : o.guard = none) (s k : Operand) (t tn e : TypeId) (ho : o.op = .call { callee := .builtin .append, args := #[s, k], argTypes := #[t, tn] }) (i : TypeInfo) (z : Value) (kn : IntKind) (ht : P.underlying t = some (.slice e)) (htn : P.underlying tn = some (.int kn)) (hi : P.info? e = some i) (hz : i.zero = some z)
    {base : Option Addr} {sLen sCap m : Nat} {kq : IntKind} (olds : List Value) (hs0 : a.eval s = .slice base sLen sCap) (hk0 : a.eval k = .int kq (m : Int)) (hold : (Builtin.firstCells i.size sLen (.slice base sLen sCap)).run P w.drew = .ok olds.toArray w.drew)
    (h0 : 0 < m) (hs : 0 < i.size) (hg : sCap < sLen + m) (h63 : ((sLen + m : Nat) : Int) ≤ 9223372036854775807) (h48 : m * i.bytes ≤ 281474976710656) (hfit : Builtin.nextslicecap (sLen + m) sCap * i.bytes ≤ 281474976710656)
    (h48' : sLen + m ≤ maxLen) (ho1 : olds.length = sLen * i.size) (hzc : z.cells.size = i.size)
    (h : ∀ (w' : World) (G : Nat) (row : Array Value), sLen + m ≤ G → G ≤ maxLen → w'.heap[w.heap.size]? = some (.cells row e (0, 0)) → row.toList.length = G * i.size → row.toList.take olds.length = olds → w.grownBy w' none → w'.heap.size = w.heap.size + 1 → wpList P ops Q rest (a.put o.dst (.slice (some ⟨w.heap.size, 0, none⟩) (sLen + m) G)) w') :
    wpList P ops Q (o :: rest) a w := by
  have hr := run_append_grow_zeros w t tn o.type e i z kq kn ht htn hi hz base sLen sCap olds hold m h0 hs hg h63 h48 hfit
  have hG := grownCap_ge w (sLen + m) sCap e
  refine Lib.wpList_append_run w hgd s k t tn ho _ _ hs0 hk0 _ _ hr (h _ _ _ hG (grownCap_le_maxLen w _ _ _ h48') (heap_alloc_new w.drew _) ?_ ?_ ?_ (World.size_alloc _ _))
  · rw [Array.length_toList, Array.size_append, Array.size_append, zeros_len, zeros_len, hzc, List.size_toArray, ho1, ← Nat.add_mul, ← Nat.add_mul]
    congr 1; omega
  · simp [Array.toList_append]
  · exact ⟨rfl, rfl, rfl, by rw [World.size_alloc]; exact Nat.le_succ _, fun k hk _ => Below.heap_alloc w.drew _ _ hk⟩
end
theorem overE {w : World} {vb g la ca lb cb ob : Nat} {tA tB : TypeId} {kA kB : Nat} (hsa : w.shape? vb = some (tA, kA)) (hsb : w.shape? g = some (tB, kB)) (hne : vb ≠ g) (hkB : kB ≠ 0) (hfa : w.frozen? ⟨vb, 0, none⟩ = false) (hfe : w.frozen? ⟨vb, kA, none⟩ = false) :
    (callFunc 157 #[.slice (some ⟨vb, 0, none⟩) la ca, .slice (some ⟨g, ob, none⟩) lb cb]).run Try.prog w = .ok (.value (.bool false)) w := by
  have hz : ∀ w, (Go.sizeOf 189).run Try.prog w = .ok 2 w := fun w => by
    obtain ⟨i, hi, hz, hsz, hby⟩ := info_parts (sl_ent).info
    simp [sizeOf, typeInfo, hi, hsz]
  rw [run_callFunc_extern Try.func157 (by kernel_rfl) (by kernel_rfl) (by kernel_rfl) (e := Extern.SlicesOverlaps.overlaps #[178, 178] #[4]) (by kernel_rfl),
    run_overlaps_apart w 178 4 189 (sl_ent).und 2 hz ⟨vb, 0, none⟩ ⟨g, ob, none⟩ la ca lb cb hne tA tB kA kB hsa hsb hkB hfa hfe]
  rfl

set_option maxRecDepth 100000 in
set_option maxHeartbeats 4000000 in
theorem insE_any {w : World} {base n i vb : Nat} {v : Value} {xs ys : List Value} (own : Hid (w.ownsRow base 189 2 v n xs)) (hbase : base ≤ w.heap.size) (hb : BoxAt w vb ys.toArray) (hys : ys.length = 2) (h1 : ∀ u ∈ ys, u.oneCell' = true) (h1x : ∀ u ∈ xs, u.oneCell' = true)
    (hne : v.ownBlock ≠ some vb) (hi : i ≤ n) (hn : n ≤ 1000) :
    Calls Try.prog 137 #[v, .int .i64 (i : Int), .slice (some ⟨vb, 0, none⟩) 1 1] w (InsP w base 189 2 v (n + 1) (xs.take (i * 2) ++ (ys ++ xs.drop (i * 2)))) := by
  obtain ⟨hxl, hcase⟩ := own.out
  have hysc : ∀ j u, ys[j]? = some u → w.cell? ⟨vb, j, none⟩ = some u := fun j u hj => by rw [hb.cell]; simpa using hj
  have hmixed : Try.prog.follows .mixedOrders = true := by kernel_rfl
  have hvb := hb.lt
  have q0 : (0 : Int) ≤ (i : Int) := Int.natCast_nonneg _
  have q1 : (i : Int) ≤ (n : Int) := by omega
  obtain ⟨A, c, rfl, hnc⟩ : ∃ A c, v = .slice A n c ∧ n ≤ c := by
    rcases hcase with ⟨rfl, rfl⟩ | ⟨g, cap, cur, rfl, _, _, hnc, _⟩
    · exact ⟨none, 0, rfl, Nat.le_refl _⟩
    · exact ⟨_, cap, rfl, hnc⟩
  by_cases hin : i = n
  · subst hin
    have hsuf := fun w' => piece_suf sl_ent (A := A) (N := i) (c := c) (k := i) (Nat.le_refl _) w'
    obtain ⟨AS, hAS⟩ : ∃ AS, (if c = i then A else A.map (fun x : Addr => x.add (i*2))) = AS := ⟨_, rfl⟩
    rw [hAS] at hsuf
    clear hAS hcase
    have e1 : xs.take (i * 2) = xs := List.take_of_length_le (by omega)
    have e2 : xs.drop (i * 2) = [] := List.drop_of_length_le (by omega)
    rw [e1, e2, List.append_nil]
    have hP := Lib.hid fun v' w' (h1 : w'.ownsRow base 189 2 v' (i + 1) (xs ++ ys)) (h2 : w.grownBy w' (Value.ownBlock (.slice A i c))) (h3 : v'.ownBlock = Value.ownBlock (.slice A i c) ∨ v'.ownBlock = some w.heap.size) =>
      (⟨v', rfl, h1, h2, h3.imp id fun e => ⟨_, e, Nat.le_refl _⟩⟩ : InsP w base 189 2 (.slice A i c) (i + 1) (xs ++ ys) (.returned v') w')
    obtain ⟨ti, hti, htz, hts, htb⟩ := info_parts (sl_ent).info
    clear e1 e2 hne
    go_enter Try.func137, Try.ntmps137
    go_wp2_with (at_builtin; refine wpList_append_own_at w rfl _ _ 178 rfl base 189 ti _ 2 40 Try.underlying178 hti htz hts htb rfl (by decide) (.slice A i c) i xs rfl own.out ⟨vb, 0, none⟩ 1 1 ys rfl (by omega) (fun j u hj => by rw [Addr.add_lit]; simpa using hysc j u hj) h1 (by unfold maxLen; omega) (by omega) hbase ?_; intro v2 w2 hown2 hg2 hnil2 hat2; obtain ⟨A2, c2, rfl, hc2⟩ := row_form hown2)
    refine bodyPost_ret (v := .slice A2 (i + 1) c2) (by simp [results, Try.results137, go_sem, *]) rfl ?_
    exact hP.out _ _ hown2 hg2 hat2
  · rcases hcase with ⟨e, rfl⟩ | ⟨g, cap, cur, e, hg, hblk, hnc2, hcm, hsz, ht⟩
    · omega
    · injection e with e1 e2 e3
      subst e1; subst e3
      have hgl : g < w.heap.size := (Array.getElem?_eq_some_iff.1 hblk).1
      have hgv : vb ≠ g := fun e => hne (by rw [e]; rfl)
      have hsuf := fun w' => slice_suf sl_ent (g := g) (o := 0) (N := n) (c := c) (k := i) hi (by omega) w'
      have q2 : ¬ ((i : Int) = (n : Int)) := by omega
      have q3 : ((i : Int) == (n : Int)) = false := by simpa using q2
      have hdl : (xs.drop (i * 2)).length = n * 2 - i * 2 := by rw [List.length_drop, hxl]
      have hxc : ∀ j u, xs[j]? = some u → w.cell? ⟨g, j, none⟩ = some u := fun j u hj => by
        rw [cell_of_row w g j cur _ (0, 0) hblk]
        rw [← ht, List.getElem?_take] at hj
        split at hj
        · simpa using hj
        · cases hj
      have hmo : maxLen = 9223372036854775807 := rfl
      by_cases hroom : n + 1 ≤ c
      · -- there is room
        have hpre := fun w' => piece_pre sl_ent (A := some ⟨g, 0, none⟩) (N := n) (c := c) (k := n + 1) hroom w'
        have hsuf1 := fun w' => slice_suf sl_ent (g := g) (o := 0) (N := n + 1) (c := c) (k := i + 1) (by omega) (by have := hi; omega) w'
        have hsuf0 := fun w' => slice_suf sl_ent (g := g) (o := 0) (N := n + 1) (c := c) (k := i) (by omega) (by omega) w'
        have hov : ∀ ob lb cb, (callFunc 157 #[.slice (some ⟨vb, 0, none⟩) 1 1, .slice (some ⟨g, ob, none⟩) lb cb]).run Try.prog w = .ok (.value (.bool false)) w := fun ob lb cb => by
          obtain ⟨tb, htb⟩ := hb
          exact overE (tA := tb) (kA := ys.length) (tB := 189) (kB := cur.size) (by simp [World.shape?, htb]) (by simp [World.shape?, hblk]) hgv (by rw [show cur.size = _ from hsz]; omega) (by simp [World.frozen?, htb]) (by simp [World.frozen?, htb])
        have hw1 : IntKind.i64.wrap ((i : Int) + 1) = (i : Int) + 1 := by rw [IntKind.wrap_i64]; omega
        have hb1 : (0 : Int) ≤ (i : Int) + 1 := by omega
        have hb2 : ¬ (c = i + 1) := by omega
        have hb3 : ¬ (c = i) := by omega
        have hb4 : (i : Int) ≤ (n : Int) + 1 := by omega
        have hno : ((c : Int) < (n : Int) + 1) ↔ False := ⟨fun h => by omega, False.elim⟩
        have hcn : decide ((c : Int) < (n : Int) + 1) = false := decide_eq_false (by omega)
        have hP := Lib.hid fun w2 w3 (k2 : w2.heap[g]? = some (.cells (cur.toList.take (0 + (i + 1) * 2) ++ xs.drop (i * 2) ++ cur.toList.drop (0 + (i + 1) * 2 + (xs.drop (i * 2)).length)).toArray 189 (0, 0))) (g2 : w.grownBy w2 (some g))
            (k3 : w3.heap[g]? = some (.cells ((cur.toList.take (0 + (i + 1) * 2) ++ xs.drop (i * 2) ++ cur.toList.drop (0 + (i + 1) * 2 + (xs.drop (i * 2)).length)).take (0 + i * 2) ++ ys ++ (cur.toList.take (0 + (i + 1) * 2) ++ xs.drop (i * 2) ++ cur.toList.drop (0 + (i + 1) * 2 + (xs.drop (i * 2)).length)).drop (0 + i * 2 + ys.length)).toArray 189 (0, 0))) (g3 : w2.grownBy w3 (some g)) =>
          (⟨_, rfl, ins_owns (a := i * 2) (b := (i + 1) * 2) (i := i) (s := 2) (by omega) (by omega) hg k3 hroom hcm (by rw [Array.length_toList, hsz]) hxl hys (by omega) (by simpa only [Nat.mul_one] using ht), grown_trans g2 g3, .inl rfl⟩ : InsP w base 189 2 (.slice (some ⟨g, 0, none⟩) n c) (n + 1) (xs.take (i * 2) ++ (ys ++ xs.drop (i * 2))) (.returned (.slice (some ⟨g, 0, none⟩) (n + 1) c)) w3)
        have hcz : cur.size = c * 2 := hsz
        clear ht hne own
        have hblk' : w.drew.heap[g]? = some (.cells cur 189 (0, 0)) := hblk
        have hsi : (Try.prog.info? 189).map (·.size) = some 2 := by obtain ⟨ti, e1, _, e2, _⟩ := info_parts (sl_ent).info; rw [e1]; simp [e2]
        go_enter Try.func137, Try.ntmps137
        go_wp2_with (first | fail)
        refine wp_region_held_drew (S := fun _ => True) (by kernel_rfl) (trivial) (fun hHeld => ?_)
        refine wpAnyH_take (i := 0) (v := ?_) rfl (by kernel_rfl) (by kernel_rfl) (by kernel_rfl) (fun _ _ _ h => h) (Or.inl ⟨by first | kernel_rfl | rfl, ?_⟩) (by assumption) ?_
        rotate_left
        · (intro wq hSw; (try dsimp only at hSw); (try simp (maxSteps := 2000000) only [List.getElem_toArray, List.getElem_cons_succ, List.getElem_cons_zero]); go_simp); try with_reducible rfl
        try simp (maxSteps := 2000000) only [List.getElem_toArray, List.getElem_cons_succ, List.getElem_cons_zero, Act.put, List.setIfInBounds_toArray, List.set_cons_zero, List.set_cons_succ]
        refine wpAnyH_take (i := 1) (v := ?_) rfl (by kernel_rfl) (by kernel_rfl) (by kernel_rfl) (fun _ _ _ h => h) (Or.inl ⟨by first | kernel_rfl | rfl, ?_⟩) (by assumption) ?_
        rotate_left
        · (intro wq hSw; (try dsimp only at hSw); (try simp (maxSteps := 2000000) only [List.getElem_toArray, List.getElem_cons_succ, List.getElem_cons_zero]); go_simp); try with_reducible rfl
        try simp (maxSteps := 2000000) only [List.getElem_toArray, List.getElem_cons_succ, List.getElem_cons_zero, Act.put, List.setIfInBounds_toArray, List.set_cons_zero, List.set_cons_succ]
        refine wpAnyH_take (i := 2) (v := ?_) rfl (by kernel_rfl) (by kernel_rfl) (by kernel_rfl) (fun _ _ _ h => h) (Or.inl ⟨by first | kernel_rfl | rfl, ?_⟩) (by assumption) ?_
        rotate_left
        · (intro wq hSw; (try dsimp only at hSw); (try simp (maxSteps := 2000000) only [List.getElem_toArray, List.getElem_cons_succ, List.getElem_cons_zero]); go_simp); try with_reducible rfl
        try simp (maxSteps := 2000000) only [List.getElem_toArray, List.getElem_cons_succ, List.getElem_cons_zero, Act.put, List.setIfInBounds_toArray, List.set_cons_zero, List.set_cons_succ]
        refine wpAnyH_take (i := 3) (v := ?_) rfl (by kernel_rfl) (by kernel_rfl) (by kernel_rfl) (fun _ _ _ h => h) (Or.inl ⟨by first | kernel_rfl | rfl, ?_⟩) (by assumption) ?_
        rotate_left
        · (intro wq hSw; (try dsimp only at hSw); (try simp (maxSteps := 2000000) only [List.getElem_toArray, List.getElem_cons_succ, List.getElem_cons_zero]); go_simp); try with_reducible rfl
        try simp (maxSteps := 2000000) only [List.getElem_toArray, List.getElem_cons_succ, List.getElem_cons_zero, Act.put, List.setIfInBounds_toArray, List.set_cons_zero, List.set_cons_succ]
        refine wpAnyH_take (i := 4) (v := ?_) rfl (by kernel_rfl) (by kernel_rfl) (by kernel_rfl) (fun _ _ _ h => h) (Or.inl ⟨by first | kernel_rfl | rfl, ?_⟩) (by assumption) ?_
        rotate_left
        · (intro wq hSw; (try dsimp only at hSw); (try simp (maxSteps := 2000000) only [List.getElem_toArray, List.getElem_cons_succ, List.getElem_cons_zero]); go_simp); try with_reducible rfl
        try simp (maxSteps := 2000000) only [List.getElem_toArray, List.getElem_cons_succ, List.getElem_cons_zero, Act.put, List.setIfInBounds_toArray, List.set_cons_zero, List.set_cons_succ]
        refine wpAnyH_take (i := 5) (v := ?_) rfl (by kernel_rfl) (by kernel_rfl) (by kernel_rfl) (fun _ _ _ h => h) (Or.inl ⟨by first | kernel_rfl | rfl, ?_⟩) (by assumption) ?_
        rotate_left
        · (intro wq hSw; (try dsimp only at hSw); (try simp (maxSteps := 2000000) only [List.getElem_toArray, List.getElem_cons_succ, List.getElem_cons_zero]); go_simp); try with_reducible rfl
        try simp (maxSteps := 2000000) only [List.getElem_toArray, List.getElem_cons_succ, List.getElem_cons_zero, Act.put, List.setIfInBounds_toArray, List.set_cons_zero, List.set_cons_succ]
        refine wpAnyH_take (i := 6) (v := ?_) rfl (by kernel_rfl) (by kernel_rfl) (by kernel_rfl) (fun _ _ _ h => h) (Or.inl ⟨by first | kernel_rfl | rfl, ?_⟩) (by assumption) ?_
        rotate_left
        · (intro wq hSw; (try dsimp only at hSw); (try simp (maxSteps := 2000000) only [List.getElem_toArray, List.getElem_cons_succ, List.getElem_cons_zero]); go_simp); try with_reducible rfl
        try simp (maxSteps := 2000000) only [List.getElem_toArray, List.getElem_cons_succ, List.getElem_cons_zero, Act.put, List.setIfInBounds_toArray, List.set_cons_zero, List.set_cons_succ]
        refine wpAnyH_take (i := 7) (v := ?_) rfl (by kernel_rfl) (by kernel_rfl) (by kernel_rfl) (fun _ _ _ h => h) (Or.inl ⟨by first | kernel_rfl | rfl, ?_⟩) (by assumption) ?_
        rotate_left
        · (intro wq hSw; (try dsimp only at hSw); (try simp (maxSteps := 2000000) only [List.getElem_toArray, List.getElem_cons_succ, List.getElem_cons_zero]); go_simp); try with_reducible rfl
        try simp (maxSteps := 2000000) only [List.getElem_toArray, List.getElem_cons_succ, List.getElem_cons_zero, Act.put, List.setIfInBounds_toArray, List.set_cons_zero, List.set_cons_succ]
        refine wpAnyH_ready (rs := [8]) (by kernel_rfl) (by simp) ?_
        refine AllReadyH.cons rfl (fun K hK => ?_) AllReadyH.nil
        refine step_law (by rfl) (wpList_copy_row (by rfl) _ _ 178 178 189 (by rfl) 2 (sl_ent).und hsi (by rfl) (by rfl) (xs.drop (i * 2)) hblk' (by rw [hdl]; simp only [Nat.min_def]; split <;> omega) (fun j u hj => by rw [Addr.add_lit]; rw [List.getElem?_drop] at hj; exact hxc _ u hj) (by rw [hdl, hcz]; omega) (fun u hu => h1x u (List.mem_of_mem_drop hu)) ?_)
        intro w2 k2 g2 z2
        refine And.intro rfl ?_
        replace g2 := grown_trans grown_drew g2
        refine hK.out _ _ (trivial) (fun hHeld => ?_)
        clear hK K
        try simp (maxSteps := 2000000) only [List.getElem_toArray, List.getElem_cons_succ, List.getElem_cons_zero, Act.put, List.setIfInBounds_toArray, List.set_cons_zero, List.set_cons_succ]
        refine wpAnyH_done (by kernel_rfl) ?_ _
        go_wp2_with (refine wpList_copy_row rfl _ _ 178 178 189 rfl 2 (sl_ent).und hsi rfl rfl ys k2 (by rw [hys]; simp only [Nat.min_def]; split <;> omega) (fun j u hj => by rw [Addr.add_lit]; exact (World.cell?_of_block (g2.block vb hvb (by simpa using hgv))).trans (by simpa using hysc j u hj)) (by simp only [List.size_toArray, List.length_append, List.length_take, List.length_drop, Array.length_toList, hcz, hxl, hys]; omega) h1 ?_; intro w3 k3 g3 z3)
        refine bodyPost_ret (v := .slice (some ⟨g, 0, none⟩) (n + 1) c) (by simp [results, Try.results137, go_sem, *]) rfl ?_
        simp only [Nat.zero_add] at hP
        exact hP.out _ _ k2 g2 k3 g3
      · -- there is none: a new row
        have hpre := fun w' => piece_pre sl_ent (A := some ⟨g, 0, none⟩) (N := n) (c := c) (k := i) (by omega) w'
        have hsi : (Try.prog.info? 189).map (·.size) = some 2 := by obtain ⟨ti, e1, _, e2, _⟩ := info_parts (sl_ent).info; rw [e1]; simp [e2]
        obtain ⟨ti, hti, htz, hts, htb⟩ := info_parts (sl_ent).info
        have hkk : (n : Int) + 1 - (i : Int) = ((n + 1 - i : Nat) : Int) := by omega
        have hik : i + (n + 1 - i) = n + 1 := by omega
        have hold : (Builtin.firstCells ti.size i (.slice (some ⟨g, 0, none⟩) i c)).run Try.prog w.drew = .ok (xs.take (i * 2)).toArray w.drew := by
          rw [hts]
          exact run_firstCells_some w.drew 2 i ⟨g, 0, none⟩ i c (xs.take (i * 2)) (by rw [List.length_take, hxl]; omega) (fun j u hj => by
            rw [Addr.add_lit, Nat.zero_add]
            rw [List.getElem?_take] at hj
            split at hj
            · exact hxc j u hj
            · cases hj)
        have hHold := Lib.hid hold
        have hfit : Builtin.nextslicecap (i + (n + 1 - i)) c * ti.bytes ≤ 281474976710656 := by rw [htb]; exact growslice_fits (by omega) (by omega)
        have hlt1 : (c : Int) < (n : Int) + 1 := by omega
        have hcn : decide ((c : Int) < (n : Int) + 1) = true := decide_eq_true (by omega)
        have hw1 : IntKind.i64.wrap ((i : Int) + 1) = (i : Int) + 1 := by rw [IntKind.wrap_i64]; omega
        have hb1 : (0 : Int) ≤ (i : Int) + 1 := by omega
        have hb4 : (i : Int) ≤ (n : Int) + 1 := by omega
        have hcz : cur.size = c * 2 := hsz
        clear ht hne own hold hnc hnc2 hcn
        go_enter Try.func137, Try.ntmps137
        go_wp2_with (first | (at_builtin; go_must (refine wpList_grow_zeros rfl _ _ 178 3 189 rfl ti _ .i64 (sl_ent).und Try.underlying3 hti htz (m := n + 1 - i) _ rfl rfl hHold.out (by omega) (by omega) (by omega) (by omega) (by rw [htb]; omega) hfit (by unfold maxLen; omega) (by rw [hts, List.length_take, hxl]; omega) (by rw [hts]; rfl) ?_); intro w1 G row hG hGm k1 hrl hrt g1 z1; have hGi : ¬ (G = i) := by omega) | (refine wpList_copy_row rfl _ _ 178 178 189 rfl 2 (sl_ent).und hsi rfl rfl ys k1 (by rw [hys]; simp only [Nat.min_def]; split <;> omega) (fun j u hj => by rw [Addr.add_lit]; exact (World.cell?_of_block (g1.block vb hvb (by simp))).trans (by simpa using hysc j u hj)) (by rw [Array.length_toList, hts] at hrl; omega) h1 ?_; intro w2 k2 g2 z2))
        have hb2 : ¬ (G = i + 1) := by omega
        have hblk' : w2.drew.heap[w.heap.size]? = some (.cells _ 189 (0, 0)) := k2
        refine wp_region_held_drew (S := fun _ => True) (by kernel_rfl) (trivial) (fun hHeld => ?_)
        refine wpAnyH_take (i := 0) (v := ?_) rfl (by kernel_rfl) (by kernel_rfl) (by kernel_rfl) (fun _ _ _ h => h) (Or.inl ⟨by first | kernel_rfl | rfl, ?_⟩) (by assumption) ?_
        rotate_left
        · (intro wq hSw; (try dsimp only at hSw); (try simp (maxSteps := 2000000) only [List.getElem_toArray, List.getElem_cons_succ, List.getElem_cons_zero]); go_simp); try with_reducible rfl
        try simp (maxSteps := 2000000) only [List.getElem_toArray, List.getElem_cons_succ, List.getElem_cons_zero, Act.put, List.setIfInBounds_toArray, List.set_cons_zero, List.set_cons_succ]
        refine wpAnyH_take (i := 1) (v := ?_) rfl (by kernel_rfl) (by kernel_rfl) (by kernel_rfl) (fun _ _ _ h => h) (Or.inl ⟨by first | kernel_rfl | rfl, ?_⟩) (by assumption) ?_
        rotate_left
        · (intro wq hSw; (try dsimp only at hSw); (try simp (maxSteps := 2000000) only [List.getElem_toArray, List.getElem_cons_succ, List.getElem_cons_zero]); go_simp); try with_reducible rfl
        try simp (maxSteps := 2000000) only [List.getElem_toArray, List.getElem_cons_succ, List.getElem_cons_zero, Act.put, List.setIfInBounds_toArray, List.set_cons_zero, List.set_cons_succ]
        refine wpAnyH_take (i := 2) (v := ?_) rfl (by kernel_rfl) (by kernel_rfl) (by kernel_rfl) (fun _ _ _ h => h) (Or.inl ⟨by first | kernel_rfl | rfl, ?_⟩) (by assumption) ?_
        rotate_left
        · (intro wq hSw; (try dsimp only at hSw); (try simp (maxSteps := 2000000) only [List.getElem_toArray, List.getElem_cons_succ, List.getElem_cons_zero]); go_simp); try with_reducible rfl
        try simp (maxSteps := 2000000) only [List.getElem_toArray, List.getElem_cons_succ, List.getElem_cons_zero, Act.put, List.setIfInBounds_toArray, List.set_cons_zero, List.set_cons_succ]
        refine wpAnyH_take (i := 3) (v := ?_) rfl (by kernel_rfl) (by kernel_rfl) (by kernel_rfl) (fun _ _ _ h => h) (Or.inl ⟨by first | kernel_rfl | rfl, ?_⟩) (by assumption) ?_
        rotate_left
        · (intro wq hSw; (try dsimp only at hSw); (try simp (maxSteps := 2000000) only [List.getElem_toArray, List.getElem_cons_succ, List.getElem_cons_zero]); go_simp); try with_reducible rfl
        try simp (maxSteps := 2000000) only [List.getElem_toArray, List.getElem_cons_succ, List.getElem_cons_zero, Act.put, List.setIfInBounds_toArray, List.set_cons_zero, List.set_cons_succ]
        refine wpAnyH_take (i := 4) (v := ?_) rfl (by kernel_rfl) (by kernel_rfl) (by kernel_rfl) (fun _ _ _ h => h) (Or.inl ⟨by first | kernel_rfl | rfl, ?_⟩) (by assumption) ?_
        rotate_left
        · (intro wq hSw; (try dsimp only at hSw); (try simp (maxSteps := 2000000) only [List.getElem_toArray, List.getElem_cons_succ, List.getElem_cons_zero]); go_simp); try with_reducible rfl
        try simp (maxSteps := 2000000) only [List.getElem_toArray, List.getElem_cons_succ, List.getElem_cons_zero, Act.put, List.setIfInBounds_toArray, List.set_cons_zero, List.set_cons_succ]
        refine wpAnyH_take (i := 5) (v := ?_) rfl (by kernel_rfl) (by kernel_rfl) (by kernel_rfl) (fun _ _ _ h => h) (Or.inl ⟨by first | kernel_rfl | rfl, ?_⟩) (by assumption) ?_
        rotate_left
        · (intro wq hSw; (try dsimp only at hSw); (try simp (maxSteps := 2000000) only [List.getElem_toArray, List.getElem_cons_succ, List.getElem_cons_zero]); go_simp); try with_reducible rfl
        try simp (maxSteps := 2000000) only [List.getElem_toArray, List.getElem_cons_succ, List.getElem_cons_zero, Act.put, List.setIfInBounds_toArray, List.set_cons_zero, List.set_cons_succ]
        refine wpAnyH_take (i := 6) (v := ?_) rfl (by kernel_rfl) (by kernel_rfl) (by kernel_rfl) (fun _ _ _ h => h) (Or.inl ⟨by first | kernel_rfl | rfl, ?_⟩) (by assumption) ?_
        rotate_left
        · (intro wq hSw; (try dsimp only at hSw); (try simp (maxSteps := 2000000) only [List.getElem_toArray, List.getElem_cons_succ, List.getElem_cons_zero]); go_simp); try with_reducible rfl
        try simp (maxSteps := 2000000) only [List.getElem_toArray, List.getElem_cons_succ, List.getElem_cons_zero, Act.put, List.setIfInBounds_toArray, List.set_cons_zero, List.set_cons_succ]
        refine wpAnyH_take (i := 7) (v := ?_) rfl (by kernel_rfl) (by kernel_rfl) (by kernel_rfl) (fun _ _ _ h => h) (Or.inl ⟨by first | kernel_rfl | rfl, ?_⟩) (by assumption) ?_
        rotate_left
        · (intro wq hSw; (try dsimp only at hSw); (try simp (maxSteps := 2000000) only [List.getElem_toArray, List.getElem_cons_succ, List.getElem_cons_zero]); go_simp); try with_reducible rfl
        try simp (maxSteps := 2000000) only [List.getElem_toArray, List.getElem_cons_succ, List.getElem_cons_zero, Act.put, List.setIfInBounds_toArray, List.set_cons_zero, List.set_cons_succ]
        refine wpAnyH_ready (rs := [8]) (by kernel_rfl) (by simp) ?_
        refine AllReadyH.cons rfl (fun K hK => ?_) AllReadyH.nil
        refine step_law (by rfl) (wpList_copy_row (by rfl) _ _ 178 178 189 (by rfl) 2 (sl_ent).und hsi (by rfl) (by rfl) (xs.drop (i * 2)) hblk' (by rw [hdl]; simp only [Nat.min_def]; split <;> omega) (fun j u hj => by rw [Addr.add_lit]; rw [List.getElem?_drop] at hj; exact (World.cell?_of_block ((g2.block g (by omega) (fun e => by injection e with e; omega)).trans (g1.block g hgl (by simp)))).trans (hxc _ u hj)) (by simp only [List.size_toArray, List.length_append, List.length_take, List.length_drop, hdl, hxl, hys, hrl, hts]; omega) (fun u hu => h1x u (List.mem_of_mem_drop hu)) ?_)
        intro w3 k3 g3 z3
        refine And.intro rfl ?_
        replace g3 := grown_trans grown_drew g3
        refine hK.out _ _ (trivial) (fun hHeld => ?_)
        clear hK K
        try simp (maxSteps := 2000000) only [List.getElem_toArray, List.getElem_cons_succ, List.getElem_cons_zero, Act.put, List.setIfInBounds_toArray, List.set_cons_zero, List.set_cons_succ]
        refine wpAnyH_done (by kernel_rfl) ?_ _
        go_wp2_with fail
        refine bodyPost_ret (v := .slice (some ⟨w.heap.size, 0, none⟩) (n + 1) G) (by simp [results, Try.results137, go_sem, *]) rfl ?_
        have gg := fresh_grown (fresh_grown g1 g2 (Nat.le_refl _)) g3 (Nat.le_refl _)
        rw [hts] at hrl
        have hfin := grow_owns (a := i * 2) (b := i * 2 + 2) (i := i) (n := n) (s := 2) (base := base) (g := w.heap.size) (G := G) (row := row.toList) (xs := xs) (ys := ys) (by omega) rfl hbase (by
          have : (i + 1) * 2 = i * 2 + 2 := by omega
          simpa only [Nat.zero_add, this] using k3) (by omega) hGm hrl hxl hys hi (by
          have : (xs.take (i * 2)).length = i * 2 := by rw [List.length_take, hxl]; omega
          rwa [this] at hrt)
        exact ⟨_, rfl, hfin, none_grown gg, .inr ⟨_, rfl, Nat.le_refl _⟩⟩
theorem overP {w : World} {vb g la ca lb cb ob : Nat} {tA tB : TypeId} {kA kB : Nat} (hsa : w.shape? vb = some (tA, kA)) (hsb : w.shape? g = some (tB, kB)) (hne : vb ≠ g) (hkB : kB ≠ 0) (hfa : w.frozen? ⟨vb, 0, none⟩ = false) (hfe : w.frozen? ⟨vb, kA, none⟩ = false) :
    (callFunc 159 #[.slice (some ⟨vb, 0, none⟩) la ca, .slice (some ⟨g, ob, none⟩) lb cb]).run Try.prog w = .ok (.value (.bool false)) w := by
  have hz : ∀ w, (Go.sizeOf 177).run Try.prog w = .ok 1 w := fun w => by
    obtain ⟨i, hi, hz, hsz, hby⟩ := info_parts (sl_ptr).info
    simp [sizeOf, typeInfo, hi, hsz]
  rw [run_callFunc_extern Try.func159 (by kernel_rfl) (by kernel_rfl) (by kernel_rfl) (e := Extern.SlicesOverlaps.overlaps #[179, 179] #[4]) (by kernel_rfl),
    run_overlaps_apart w 179 4 177 (sl_ptr).und 1 hz ⟨vb, 0, none⟩ ⟨g, ob, none⟩ la ca lb cb hne tA tB kA kB hsa hsb hkB hfa hfe]
  rfl

set_option maxRecDepth 100000 in
set_option maxHeartbeats 4000000 in
theorem insP_any {w : World} {base n i vb : Nat} {v : Value} {xs ys : List Value} (own : Hid (w.ownsRow base 177 1 v n xs)) (hbase : base ≤ w.heap.size) (hb : BoxAt w vb ys.toArray) (hys : ys.length = 1) (h1 : ∀ u ∈ ys, u.oneCell' = true) (h1x : ∀ u ∈ xs, u.oneCell' = true)
    (hne : v.ownBlock ≠ some vb) (hi : i ≤ n) (hn : n ≤ 1000) :
    Calls Try.prog 138 #[v, .int .i64 (i : Int), .slice (some ⟨vb, 0, none⟩) 1 1] w (InsP w base 177 1 v (n + 1) (xs.take i ++ (ys ++ xs.drop i))) := by
  obtain ⟨hxl, hcase⟩ := own.out
  have hysc : ∀ j u, ys[j]? = some u → w.cell? ⟨vb, j, none⟩ = some u := fun j u hj => by rw [hb.cell]; simpa using hj
  have hmixed : Try.prog.follows .mixedOrders = true := by kernel_rfl
  have hvb := hb.lt
  have q0 : (0 : Int) ≤ (i : Int) := Int.natCast_nonneg _
  have q1 : (i : Int) ≤ (n : Int) := by omega
  obtain ⟨A, c, rfl, hnc⟩ : ∃ A c, v = .slice A n c ∧ n ≤ c := by
    rcases hcase with ⟨rfl, rfl⟩ | ⟨g, cap, cur, rfl, _, _, hnc, _⟩
    · exact ⟨none, 0, rfl, Nat.le_refl _⟩
    · exact ⟨_, cap, rfl, hnc⟩
  by_cases hin : i = n
  · subst hin
    have hsuf := fun w' => piece_suf sl_ptr (A := A) (N := i) (c := c) (k := i) (Nat.le_refl _) w'
    obtain ⟨AS, hAS⟩ : ∃ AS, (if c = i then A else A.map (fun x : Addr => x.add (i*1))) = AS := ⟨_, rfl⟩
    rw [hAS] at hsuf
    clear hAS hcase
    have e1 : xs.take i = xs := List.take_of_length_le (by omega)
    have e2 : xs.drop i = [] := List.drop_of_length_le (by omega)
    rw [e1, e2, List.append_nil]
    have hP := Lib.hid fun v' w' (h1 : w'.ownsRow base 177 1 v' (i + 1) (xs ++ ys)) (h2 : w.grownBy w' (Value.ownBlock (.slice A i c))) (h3 : v'.ownBlock = Value.ownBlock (.slice A i c) ∨ v'.ownBlock = some w.heap.size) =>
      (⟨v', rfl, h1, h2, h3.imp id fun e => ⟨_, e, Nat.le_refl _⟩⟩ : InsP w base 177 1 (.slice A i c) (i + 1) (xs ++ ys) (.returned v') w')
    obtain ⟨ti, hti, htz, hts, htb⟩ := info_parts (sl_ptr).info
    clear e1 e2 hne
    go_enter Try.func138, Try.ntmps138
    go_wp2_with (at_builtin; refine wpList_append_own_at w rfl _ _ 179 rfl base 177 ti _ 1 8 Try.underlying179 hti htz hts htb rfl (by decide) (.slice A i c) i xs rfl own.out ⟨vb, 0, none⟩ 1 1 ys rfl (by omega) (fun j u hj => by rw [Addr.add_lit]; simpa using hysc j u hj) h1 (by unfold maxLen; omega) (by omega) hbase ?_; intro v2 w2 hown2 hg2 hnil2 hat2; obtain ⟨A2, c2, rfl, hc2⟩ := row_form hown2)
    refine bodyPost_ret (v := .slice A2 (i + 1) c2) (by simp [results, Try.results138, go_sem, *]) rfl ?_
    exact hP.out _ _ hown2 hg2 hat2
  · rcases hcase with ⟨e, rfl⟩ | ⟨g, cap, cur, e, hg, hblk, hnc2, hcm, hsz, ht⟩
    · omega
    · injection e with e1 e2 e3
      subst e1; subst e3
      have hgl : g < w.heap.size := (Array.getElem?_eq_some_iff.1 hblk).1
      have hgv : vb ≠ g := fun e => hne (by rw [e]; rfl)
      have hsuf := fun w' => slice_suf sl_ptr (g := g) (o := 0) (N := n) (c := c) (k := i) hi (by omega) w'
      have q2 : ¬ ((i : Int) = (n : Int)) := by omega
      have q3 : ((i : Int) == (n : Int)) = false := by simpa using q2
      have hdl : (xs.drop i).length = n * 1 - i := by rw [List.length_drop, hxl]
      have hxc : ∀ j u, xs[j]? = some u → w.cell? ⟨g, j, none⟩ = some u := fun j u hj => by
        rw [cell_of_row w g j cur _ (0, 0) hblk]
        rw [← ht, List.getElem?_take] at hj
        split at hj
        · simpa using hj
        · cases hj
      have hmo : maxLen = 9223372036854775807 := rfl
      by_cases hroom : n + 1 ≤ c
      · -- there is room
        have hpre := fun w' => piece_pre sl_ptr (A := some ⟨g, 0, none⟩) (N := n) (c := c) (k := n + 1) hroom w'
        have hsuf1 := fun w' => slice_suf sl_ptr (g := g) (o := 0) (N := n + 1) (c := c) (k := i + 1) (by omega) (by have := hi; omega) w'
        have hsuf0 := fun w' => slice_suf sl_ptr (g := g) (o := 0) (N := n + 1) (c := c) (k := i) (by omega) (by omega) w'
        have hov : ∀ ob lb cb, (callFunc 159 #[.slice (some ⟨vb, 0, none⟩) 1 1, .slice (some ⟨g, ob, none⟩) lb cb]).run Try.prog w = .ok (.value (.bool false)) w := fun ob lb cb => by
          obtain ⟨tb, htb⟩ := hb
          exact overP (tA := tb) (kA := ys.length) (tB := 177) (kB := cur.size) (by simp [World.shape?, htb]) (by simp [World.shape?, hblk]) hgv (by rw [show cur.size = _ from hsz]; omega) (by simp [World.frozen?, htb]) (by simp [World.frozen?, htb])
        have hw1 : IntKind.i64.wrap ((i : Int) + 1) = (i : Int) + 1 := by rw [IntKind.wrap_i64]; omega
        have hb1 : (0 : Int) ≤ (i : Int) + 1 := by omega
        have hb2 : ¬ (c = i + 1) := by omega
        have hb3 : ¬ (c = i) := by omega
        have hb4 : (i : Int) ≤ (n : Int) + 1 := by omega
        have hno : ((c : Int) < (n : Int) + 1) ↔ False := ⟨fun h => by omega, False.elim⟩
        have hcn : decide ((c : Int) < (n : Int) + 1) = false := decide_eq_false (by omega)
        have hP := Lib.hid fun w2 w3 (k2 : w2.heap[g]? = some (.cells (cur.toList.take (0 + (i + 1)) ++ xs.drop i ++ cur.toList.drop (0 + (i + 1) + (xs.drop i).length)).toArray 177 (0, 0))) (g2 : w.grownBy w2 (some g))
            (k3 : w3.heap[g]? = some (.cells ((cur.toList.take (0 + (i + 1)) ++ xs.drop i ++ cur.toList.drop (0 + (i + 1) + (xs.drop i).length)).take (0 + i) ++ ys ++ (cur.toList.take (0 + (i + 1)) ++ xs.drop i ++ cur.toList.drop (0 + (i + 1) + (xs.drop i).length)).drop (0 + i + ys.length)).toArray 177 (0, 0))) (g3 : w2.grownBy w3 (some g)) =>
          (⟨_, rfl, ins_owns (a := i) (b := (i + 1)) (i := i) (s := 1) (by omega) (by omega) hg k3 hroom hcm (by rw [Array.length_toList, hsz]) hxl hys (by omega) (by simpa only [Nat.mul_one] using ht), grown_trans g2 g3, .inl rfl⟩ : InsP w base 177 1 (.slice (some ⟨g, 0, none⟩) n c) (n + 1) (xs.take i ++ (ys ++ xs.drop i)) (.returned (.slice (some ⟨g, 0, none⟩) (n + 1) c)) w3)
        have hcz : cur.size = c * 1 := hsz
        clear ht hne own
        have hblk' : w.drew.heap[g]? = some (.cells cur 177 (0, 0)) := hblk
        have hsi : (Try.prog.info? 177).map (·.size) = some 1 := by obtain ⟨ti, e1, _, e2, _⟩ := info_parts (sl_ptr).info; rw [e1]; simp [e2]
        go_enter Try.func138, Try.ntmps138
        go_wp2_with (first | fail)
        refine wp_region_held_drew (S := fun _ => True) (by kernel_rfl) (trivial) (fun hHeld => ?_)
        refine wpAnyH_take (i := 0) (v := ?_) rfl (by kernel_rfl) (by kernel_rfl) (by kernel_rfl) (fun _ _ _ h => h) (Or.inl ⟨by first | kernel_rfl | rfl, ?_⟩) (by assumption) ?_
        rotate_left
        · (intro wq hSw; (try dsimp only at hSw); (try simp (maxSteps := 2000000) only [List.getElem_toArray, List.getElem_cons_succ, List.getElem_cons_zero]); go_simp); try with_reducible rfl
        try simp (maxSteps := 2000000) only [List.getElem_toArray, List.getElem_cons_succ, List.getElem_cons_zero, Act.put, List.setIfInBounds_toArray, List.set_cons_zero, List.set_cons_succ]
        refine wpAnyH_take (i := 1) (v := ?_) rfl (by kernel_rfl) (by kernel_rfl) (by kernel_rfl) (fun _ _ _ h => h) (Or.inl ⟨by first | kernel_rfl | rfl, ?_⟩) (by assumption) ?_
        rotate_left
        · (intro wq hSw; (try dsimp only at hSw); (try simp (maxSteps := 2000000) only [List.getElem_toArray, List.getElem_cons_succ, List.getElem_cons_zero]); go_simp); try with_reducible rfl
        try simp (maxSteps := 2000000) only [List.getElem_toArray, List.getElem_cons_succ, List.getElem_cons_zero, Act.put, List.setIfInBounds_toArray, List.set_cons_zero, List.set_cons_succ]
        refine wpAnyH_take (i := 2) (v := ?_) rfl (by kernel_rfl) (by kernel_rfl) (by kernel_rfl) (fun _ _ _ h => h) (Or.inl ⟨by first | kernel_rfl | rfl, ?_⟩) (by assumption) ?_
        rotate_left
        · (intro wq hSw; (try dsimp only at hSw); (try simp (maxSteps := 2000000) only [List.getElem_toArray, List.getElem_cons_succ, List.getElem_cons_zero]); go_simp); try with_reducible rfl
        try simp (maxSteps := 2000000) only [List.getElem_toArray, List.getElem_cons_succ, List.getElem_cons_zero, Act.put, List.setIfInBounds_toArray, List.set_cons_zero, List.set_cons_succ]
        refine wpAnyH_take (i := 3) (v := ?_) rfl (by kernel_rfl) (by kernel_rfl) (by kernel_rfl) (fun _ _ _ h => h) (Or.inl ⟨by first | kernel_rfl | rfl, ?_⟩) (by assumption) ?_
        rotate_left
        · (intro wq hSw; (try dsimp only at hSw); (try simp (maxSteps := 2000000) only [List.getElem_toArray, List.getElem_cons_succ, List.getElem_cons_zero]); go_simp); try with_reducible rfl
        try simp (maxSteps := 2000000) only [List.getElem_toArray, List.getElem_cons_succ, List.getElem_cons_zero, Act.put, List.setIfInBounds_toArray, List.set_cons_zero, List.set_cons_succ]
        refine wpAnyH_take (i := 4) (v := ?_) rfl (by kernel_rfl) (by kernel_rfl) (by kernel_rfl) (fun _ _ _ h => h) (Or.inl ⟨by first | kernel_rfl | rfl, ?_⟩) (by assumption) ?_
        rotate_left
        · (intro wq hSw; (try dsimp only at hSw); (try simp (maxSteps := 2000000) only [List.getElem_toArray, List.getElem_cons_succ, List.getElem_cons_zero]); go_simp); try with_reducible rfl
        try simp (maxSteps := 2000000) only [List.getElem_toArray, List.getElem_cons_succ, List.getElem_cons_zero, Act.put, List.setIfInBounds_toArray, List.set_cons_zero, List.set_cons_succ]
        refine wpAnyH_take (i := 5) (v := ?_) rfl (by kernel_rfl) (by kernel_rfl) (by kernel_rfl) (fun _ _ _ h => h) (Or.inl ⟨by first | kernel_rfl | rfl, ?_⟩) (by assumption) ?_
        rotate_left
        · (intro wq hSw; (try dsimp only at hSw); (try simp (maxSteps := 2000000) only [List.getElem_toArray, List.getElem_cons_succ, List.getElem_cons_zero]); go_simp); try with_reducible rfl
        try simp (maxSteps := 2000000) only [List.getElem_toArray, List.getElem_cons_succ, List.getElem_cons_zero, Act.put, List.setIfInBounds_toArray, List.set_cons_zero, List.set_cons_succ]
        refine wpAnyH_take (i := 6) (v := ?_) rfl (by kernel_rfl) (by kernel_rfl) (by kernel_rfl) (fun _ _ _ h => h) (Or.inl ⟨by first | kernel_rfl | rfl, ?_⟩) (by assumption) ?_
        rotate_left
        · (intro wq hSw; (try dsimp only at hSw); (try simp (maxSteps := 2000000) only [List.getElem_toArray, List.getElem_cons_succ, List.getElem_cons_zero]); go_simp); try with_reducible rfl
        try simp (maxSteps := 2000000) only [List.getElem_toArray, List.getElem_cons_succ, List.getElem_cons_zero, Act.put, List.setIfInBounds_toArray, List.set_cons_zero, List.set_cons_succ]
        refine wpAnyH_take (i := 7) (v := ?_) rfl (by kernel_rfl) (by kernel_rfl) (by kernel_rfl) (fun _ _ _ h => h) (Or.inl ⟨by first | kernel_rfl | rfl, ?_⟩) (by assumption) ?_
        rotate_left
        · (intro wq hSw; (try dsimp only at hSw); (try simp (maxSteps := 2000000) only [List.getElem_toArray, List.getElem_cons_succ, List.getElem_cons_zero]); go_simp); try with_reducible rfl
        try simp (maxSteps := 2000000) only [List.getElem_toArray, List.getElem_cons_succ, List.getElem_cons_zero, Act.put, List.setIfInBounds_toArray, List.set_cons_zero, List.set_cons_succ]
        refine wpAnyH_ready (rs := [8]) (by kernel_rfl) (by simp) ?_
        refine AllReadyH.cons rfl (fun K hK => ?_) AllReadyH.nil
        refine step_law (by rfl) (wpList_copy_row (by rfl) _ _ 179 179 177 (by rfl) 1 (sl_ptr).und hsi (by rfl) (by rfl) (xs.drop i) hblk' (by rw [hdl]; simp only [Nat.min_def]; split <;> omega) (fun j u hj => by rw [Addr.add_lit]; rw [List.getElem?_drop] at hj; exact hxc _ u hj) (by rw [hdl, hcz]; omega) (fun u hu => h1x u (List.mem_of_mem_drop hu)) ?_)
        intro w2 k2 g2 z2
        refine And.intro rfl ?_
        replace g2 := grown_trans grown_drew g2
        refine hK.out _ _ (trivial) (fun hHeld => ?_)
        clear hK K
        try simp (maxSteps := 2000000) only [List.getElem_toArray, List.getElem_cons_succ, List.getElem_cons_zero, Act.put, List.setIfInBounds_toArray, List.set_cons_zero, List.set_cons_succ]
        refine wpAnyH_done (by kernel_rfl) ?_ _
        go_wp2_with (refine wpList_copy_row rfl _ _ 179 179 177 rfl 1 (sl_ptr).und hsi rfl rfl ys k2 (by rw [hys]; simp only [Nat.min_def]; split <;> omega) (fun j u hj => by rw [Addr.add_lit]; exact (World.cell?_of_block (g2.block vb hvb (by simpa using hgv))).trans (by simpa using hysc j u hj)) (by simp only [List.size_toArray, List.length_append, List.length_take, List.length_drop, Array.length_toList, hcz, hxl, hys]; omega) h1 ?_; intro w3 k3 g3 z3)
        refine bodyPost_ret (v := .slice (some ⟨g, 0, none⟩) (n + 1) c) (by simp [results, Try.results138, go_sem, *]) rfl ?_
        simp only [Nat.zero_add] at hP
        exact hP.out _ _ k2 g2 k3 g3
      · -- there is none: a new row
        have hpre := fun w' => piece_pre sl_ptr (A := some ⟨g, 0, none⟩) (N := n) (c := c) (k := i) (by omega) w'
        have hsi : (Try.prog.info? 177).map (·.size) = some 1 := by obtain ⟨ti, e1, _, e2, _⟩ := info_parts (sl_ptr).info; rw [e1]; simp [e2]
        obtain ⟨ti, hti, htz, hts, htb⟩ := info_parts (sl_ptr).info
        have hkk : (n : Int) + 1 - (i : Int) = ((n + 1 - i : Nat) : Int) := by omega
        have hik : i + (n + 1 - i) = n + 1 := by omega
        have hold : (Builtin.firstCells ti.size i (.slice (some ⟨g, 0, none⟩) i c)).run Try.prog w.drew = .ok (xs.take i).toArray w.drew := by
          rw [hts]
          exact run_firstCells_some w.drew 1 i ⟨g, 0, none⟩ i c (xs.take i) (by rw [List.length_take, hxl]; omega) (fun j u hj => by
            rw [Addr.add_lit, Nat.zero_add]
            rw [List.getElem?_take] at hj
            split at hj
            · exact hxc j u hj
            · cases hj)
        have hHold := Lib.hid hold
        have hfit : Builtin.nextslicecap (i + (n + 1 - i)) c * ti.bytes ≤ 281474976710656 := by rw [htb]; exact growslice_fits (by omega) (by omega)
        have hlt1 : (c : Int) < (n : Int) + 1 := by omega
        have hcn : decide ((c : Int) < (n : Int) + 1) = true := decide_eq_true (by omega)
        have hw1 : IntKind.i64.wrap ((i : Int) + 1) = (i : Int) + 1 := by rw [IntKind.wrap_i64]; omega
        have hb1 : (0 : Int) ≤ (i : Int) + 1 := by omega
        have hb4 : (i : Int) ≤ (n : Int) + 1 := by omega
        have hcz : cur.size = c * 1 := hsz
        clear ht hne own hold hnc hnc2 hcn
        go_enter Try.func138, Try.ntmps138
        go_wp2_with (first | (at_builtin; go_must (refine wpList_grow_zeros rfl _ _ 179 3 177 rfl ti _ .i64 (sl_ptr).und Try.underlying3 hti htz (m := n + 1 - i) _ rfl rfl hHold.out (by omega) (by omega) (by omega) (by omega) (by rw [htb]; omega) hfit (by unfold maxLen; omega) (by rw [hts, List.length_take, hxl]; omega) (by rw [hts]; rfl) ?_); intro w1 G row hG hGm k1 hrl hrt g1 z1; have hGi : ¬ (G = i) := by omega) | (refine wpList_copy_row rfl _ _ 179 179 177 rfl 1 (sl_ptr).und hsi rfl rfl ys k1 (by rw [hys]; simp only [Nat.min_def]; split <;> omega) (fun j u hj => by rw [Addr.add_lit]; exact (World.cell?_of_block (g1.block vb hvb (by simp))).trans (by simpa using hysc j u hj)) (by rw [Array.length_toList, hts] at hrl; omega) h1 ?_; intro w2 k2 g2 z2))
        have hb2 : ¬ (G = i + 1) := by omega
        have hblk' : w2.drew.heap[w.heap.size]? = some (.cells _ 177 (0, 0)) := k2
        refine wp_region_held_drew (S := fun _ => True) (by kernel_rfl) (trivial) (fun hHeld => ?_)
        refine wpAnyH_take (i := 0) (v := ?_) rfl (by kernel_rfl) (by kernel_rfl) (by kernel_rfl) (fun _ _ _ h => h) (Or.inl ⟨by first | kernel_rfl | rfl, ?_⟩) (by assumption) ?_
        rotate_left
        · (intro wq hSw; (try dsimp only at hSw); (try simp (maxSteps := 2000000) only [List.getElem_toArray, List.getElem_cons_succ, List.getElem_cons_zero]); go_simp); try with_reducible rfl
        try simp (maxSteps := 2000000) only [List.getElem_toArray, List.getElem_cons_succ, List.getElem_cons_zero, Act.put, List.setIfInBounds_toArray, List.set_cons_zero, List.set_cons_succ]
        refine wpAnyH_take (i := 1) (v := ?_) rfl (by kernel_rfl) (by kernel_rfl) (by kernel_rfl) (fun _ _ _ h => h) (Or.inl ⟨by first | kernel_rfl | rfl, ?_⟩) (by assumption) ?_
        rotate_left
        · (intro wq hSw; (try dsimp only at hSw); (try simp (maxSteps := 2000000) only [List.getElem_toArray, List.getElem_cons_succ, List.getElem_cons_zero]); go_simp); try with_reducible rfl
        try simp (maxSteps := 2000000) only [List.getElem_toArray, List.getElem_cons_succ, List.getElem_cons_zero, Act.put, List.setIfInBounds_toArray, List.set_cons_zero, List.set_cons_succ]
        refine wpAnyH_take (i := 2) (v := ?_) rfl (by kernel_rfl) (by kernel_rfl) (by kernel_rfl) (fun _ _ _ h => h) (Or.inl ⟨by first | kernel_rfl | rfl, ?_⟩) (by assumption) ?_
        rotate_left
        · (intro wq hSw; (try dsimp only at hSw); (try simp (maxSteps := 2000000) only [List.getElem_toArray, List.getElem_cons_succ, List.getElem_cons_zero]); go_simp); try with_reducible rfl
        try simp (maxSteps := 2000000) only [List.getElem_toArray, List.getElem_cons_succ, List.getElem_cons_zero, Act.put, List.setIfInBounds_toArray, List.set_cons_zero, List.set_cons_succ]
        refine wpAnyH_take (i := 3) (v := ?_) rfl (by kernel_rfl) (by kernel_rfl) (by kernel_rfl) (fun _ _ _ h => h) (Or.inl ⟨by first | kernel_rfl | rfl, ?_⟩) (by assumption) ?_
        rotate_left
        · (intro wq hSw; (try dsimp only at hSw); (try simp (maxSteps := 2000000) only [List.getElem_toArray, List.getElem_cons_succ, List.getElem_cons_zero]); go_simp); try with_reducible rfl
        try simp (maxSteps := 2000000) only [List.getElem_toArray, List.getElem_cons_succ, List.getElem_cons_zero, Act.put, List.setIfInBounds_toArray, List.set_cons_zero, List.set_cons_succ]
        refine wpAnyH_take (i := 4) (v := ?_) rfl (by kernel_rfl) (by kernel_rfl) (by kernel_rfl) (fun _ _ _ h => h) (Or.inl ⟨by first | kernel_rfl | rfl, ?_⟩) (by assumption) ?_
        rotate_left
        · (intro wq hSw; (try dsimp only at hSw); (try simp (maxSteps := 2000000) only [List.getElem_toArray, List.getElem_cons_succ, List.getElem_cons_zero]); go_simp); try with_reducible rfl
        try simp (maxSteps := 2000000) only [List.getElem_toArray, List.getElem_cons_succ, List.getElem_cons_zero, Act.put, List.setIfInBounds_toArray, List.set_cons_zero, List.set_cons_succ]
        refine wpAnyH_take (i := 5) (v := ?_) rfl (by kernel_rfl) (by kernel_rfl) (by kernel_rfl) (fun _ _ _ h => h) (Or.inl ⟨by first | kernel_rfl | rfl, ?_⟩) (by assumption) ?_
        rotate_left
        · (intro wq hSw; (try dsimp only at hSw); (try simp (maxSteps := 2000000) only [List.getElem_toArray, List.getElem_cons_succ, List.getElem_cons_zero]); go_simp); try with_reducible rfl
        try simp (maxSteps := 2000000) only [List.getElem_toArray, List.getElem_cons_succ, List.getElem_cons_zero, Act.put, List.setIfInBounds_toArray, List.set_cons_zero, List.set_cons_succ]
        refine wpAnyH_take (i := 6) (v := ?_) rfl (by kernel_rfl) (by kernel_rfl) (by kernel_rfl) (fun _ _ _ h => h) (Or.inl ⟨by first | kernel_rfl | rfl, ?_⟩) (by assumption) ?_
        rotate_left
        · (intro wq hSw; (try dsimp only at hSw); (try simp (maxSteps := 2000000) only [List.getElem_toArray, List.getElem_cons_succ, List.getElem_cons_zero]); go_simp); try with_reducible rfl
        try simp (maxSteps := 2000000) only [List.getElem_toArray, List.getElem_cons_succ, List.getElem_cons_zero, Act.put, List.setIfInBounds_toArray, List.set_cons_zero, List.set_cons_succ]
        refine wpAnyH_take (i := 7) (v := ?_) rfl (by kernel_rfl) (by kernel_rfl) (by kernel_rfl) (fun _ _ _ h => h) (Or.inl ⟨by first | kernel_rfl | rfl, ?_⟩) (by assumption) ?_
        rotate_left
        · (intro wq hSw; (try dsimp only at hSw); (try simp (maxSteps := 2000000) only [List.getElem_toArray, List.getElem_cons_succ, List.getElem_cons_zero]); go_simp); try with_reducible rfl
        try simp (maxSteps := 2000000) only [List.getElem_toArray, List.getElem_cons_succ, List.getElem_cons_zero, Act.put, List.setIfInBounds_toArray, List.set_cons_zero, List.set_cons_succ]
        refine wpAnyH_ready (rs := [8]) (by kernel_rfl) (by simp) ?_
        refine AllReadyH.cons rfl (fun K hK => ?_) AllReadyH.nil
        refine step_law (by rfl) (wpList_copy_row (by rfl) _ _ 179 179 177 (by rfl) 1 (sl_ptr).und hsi (by rfl) (by rfl) (xs.drop i) hblk' (by rw [hdl]; simp only [Nat.min_def]; split <;> omega) (fun j u hj => by rw [Addr.add_lit]; rw [List.getElem?_drop] at hj; exact (World.cell?_of_block ((g2.block g (by omega) (fun e => by injection e with e; omega)).trans (g1.block g hgl (by simp)))).trans (hxc _ u hj)) (by simp only [List.size_toArray, List.length_append, List.length_take, List.length_drop, hdl, hxl, hys, hrl, hts]; omega) (fun u hu => h1x u (List.mem_of_mem_drop hu)) ?_)
        intro w3 k3 g3 z3
        refine And.intro rfl ?_
        replace g3 := grown_trans grown_drew g3
        refine hK.out _ _ (trivial) (fun hHeld => ?_)
        clear hK K
        try simp (maxSteps := 2000000) only [List.getElem_toArray, List.getElem_cons_succ, List.getElem_cons_zero, Act.put, List.setIfInBounds_toArray, List.set_cons_zero, List.set_cons_succ]
        refine wpAnyH_done (by kernel_rfl) ?_ _
        go_wp2_with fail
        refine bodyPost_ret (v := .slice (some ⟨w.heap.size, 0, none⟩) (n + 1) G) (by simp [results, Try.results138, go_sem, *]) rfl ?_
        have gg := fresh_grown (fresh_grown g1 g2 (Nat.le_refl _)) g3 (Nat.le_refl _)
        rw [hts] at hrl
        have hfin := grow_owns (a := i) (b := i + 1) (i := i) (n := n) (s := 1) (base := base) (g := w.heap.size) (G := G) (row := row.toList) (xs := xs) (ys := ys) (by omega) rfl hbase (by
          have : (i + 1) = i + 1 := by omega
          simpa only [Nat.zero_add, this] using k3) (by omega) hGm hrl hxl hys hi (by
          have : (xs.take i).length = i := by rw [List.length_take, hxl]; omega
          rwa [this] at hrt)
        exact ⟨_, rfl, hfin, none_grown gg, .inr ⟨_, rfl, Nat.le_refl _⟩⟩
end Go.Proofs.Ytpibaahiboajhaa
