/-
  A tree: the entries of a span.
-/
import Derived.Test.YtpibaahiboajhaaTre12
import Derived.Test.YtpibaahiboajhaaSpn
import Derived.Maps.OwnIn
import Derived.Deep.DeepMust
set_option linter.unusedSimpArgs false
set_option linter.unusedVariables false
namespace Go.Proofs.Ytpibaahiboajhaa
open Go.RowKit Go.Cib
attribute [local go_sem] cell_set Later.cell Later.frozen Grw.cell Grw.frozen
attribute [local go_sem] Oper.semAt_some
open Go.Shelf

set_option maxRecDepth 100000 in
theorem from_any (w : World) (t : Nat) (k : ByteArray) :
    Calls Try.prog 139 #[.pointer (some ⟨t, 0, none⟩), .string k] w fun e w' => e = .returned (.func (.func 161) #[] #[.pointer (some ⟨w.heap.size, 0, none⟩), .pointer (some ⟨w.heap.size + 1, 0, none⟩)]) ∧
      w' = (w.alloc (.cells #[.pointer (some ⟨t, 0, none⟩)] 130)).alloc (.cells #[.string k] 9) := by
  go_enter Try.func139, Try.ntmps139
  go_wp2_with fail
  go_ret
  exact ⟨by simp, rfl⟩

set_option maxRecDepth 100000 in
set_option maxHeartbeats 4000000 in
theorem from1_in {w : World} {base D root t : Nat} {S : Nat → Prop} {N : NMap} {f : List Ent} {ns : List Nat} {nv : Value} (X : BoxAt w t #[.pointer (some ⟨root, 0, none⟩), nv]) (M : Hid (TMem w base S N)) (T : Hid (TreeOf N D root f ns)) (hr : Hid (Rises f)) (k : ByteArray) (n l Bt Bk : Nat) (J Jx : List (EntV S w) → World → Prop)
    (hY : ∀ m pre (x : EntV S w) W, J pre W → pre.length < (fromE k f).length → YieldAt Fence.wide m Try.prog l #[encE x] W fun e W' => (e = .returned (.bool true) ∧ J (pre ++ [x]) W' ∧ Below w.heap.size W W') ∨ (e = .returned (.bool false) ∧ Jx (pre ++ [x]) W'))
    (hA : ∀ pre W W', J pre W → Below W.heap.size W W' → J pre W') (W : World) (hW : Below w.heap.size w W) (cB : W.cell? ⟨Bt, 0, none⟩ = some (.pointer (some ⟨t, 0, none⟩))) (cK : W.cell? ⟨Bk, 0, none⟩ = some (.string k)) (h0 : J [] W) :
    CallsIn Fence.wide n Try.prog 161 #[.func (.yield l) #[] #[], .pointer (some ⟨Bt, 0, none⟩), .pointer (some ⟨Bk, 0, none⟩)] W fun e W' => (∃ v, e = .returned v) ∧
      ((∃ q, q.map (·.1.1) = fromE k f ∧ J q W') ∨ (∃ q, q.map (·.1.1) <+: fromE k f ∧ Jx q W')) := by
  have hmixed : Try.prog.follows .mixedOrders = true := by kernel_rfl
  have hnone := tnone_is W (X.keep (hW.block t X.lt))
  have p0 := (hW.cell (p := ⟨t, 0, none⟩) X.lt).trans (X.cell 0)
  have hd : Below W.heap.size W W.drew := (Below.refl _ _).drew
  have hw := iter_in M k l (fromE k f).length J Jx hY hA D (n - 1) root f ns [] W.drew T.out hr.out (hW.trans (hd.mono hW.size)) (hA _ _ _ h0 hd) (by simp)
  refine callsIn_of_wp Try.func161 rfl trivial ?_ rfl
  simp only [Try.ntmps161, List.size_toArray, List.length_cons, List.length_nil, Nat.reduceAdd, Nat.reduceSub, Array.replicate_succ, Array.replicate_zero, List.push_toArray, List.append_toArray, List.nil_append, List.cons_append]
  clear M T hr hY h0 hA X
  gi_wp2
  refine ⟨trivial, fun h => (by cases h), ?_⟩
  refine (callsIn_wide.2 hnone).mono ?_
  rintro e W2 ⟨rfl, rfl⟩
  gi_wp2
  have hw2 := hw.mono (R' := fun e W' => ∃ b, e = .returned (.bool b) ∧ Hid ((∃ q, q.map (·.1.1) = fromE k f ∧ J q W') ∨ (∃ q, q.map (·.1.1) <+: fromE k f ∧ Jx q W'))) (fun e W' h => by
    rcases h with ⟨rfl, q, hq, hJ, _⟩ | ⟨rfl, q, hq, hx⟩
    · exact ⟨true, rfl, Lib.hid (.inl ⟨q, hq, by simpa using hJ⟩)⟩
    · exact ⟨false, rfl, Lib.hid (.inr ⟨q, hq, by simpa using hx⟩)⟩)
  clear hw
  gi_region_with_o (refine ⟨trivial, fun h => (by cases h), ?_⟩; refine hw2.mono ?_; clear hw2; rintro e W3 ⟨bb, rfl, hpost⟩)
  all_goals gi_wp2
  all_goals go_end0
  all_goals exact ⟨⟨_, rfl⟩, hpost.out⟩

/-- What a walk answers. -/
def walkE (f t : ByteArray) (most : Int) (l : List Ent) : List Ent := ((fromE f l).takeWhile fun y => inB f t y.key).take most.toNat
/-- Between two rounds: what has come lies in a row of the call's own. -/
structure WalkI (S : Nat → Prop) (w : World) (f t : ByteArray) (most : Int) (pre : List (EntV S w)) (W : World) : Prop where
  low : Below w.heap.size w W
  span : BoxAt W w.heap.size #[.string f, .string t]
  most_ : BoxAt W (w.heap.size + 1) #[.int .i64 most]
  row : ∃ v, BoxAt W (w.heap.size + 2) #[v] ∧ OwnL EntR 189 2 (w.heap.size + 3) S W v pre.length (pre.map (·.1.1))
  len : (pre.length : Int) ≤ most ∨ pre = []
  in_ : ∀ x ∈ pre, inB f t x.1.1.key = true
theorem OwnL.notcells {X : Type} {R : (Nat → Prop) → World → List Value → X → Prop} {E : TypeId} {s base n : Nat} {S : Nat → Prop} {w : World} {v : Value} {xs : List X} (h : OwnL R E s base S w v n xs) {r : Nat} {o : Obj} (ho : w.heap[r]? = some o) (hn : o.isCells = false) : v.ownBlock ≠ some r := by
  obtain ⟨css, h1, _⟩ := h
  rcases h1.2 with ⟨rfl, _⟩ | ⟨g, cap, cur, rfl, _, hblk, _⟩
  · intro e; cases e
  · intro e
    have e2 : g = r := Option.some.inj e
    subst e2
    rw [hblk] at ho
    cases ho
    cases hn
theorem BoxAt.notcells {w : World} {b : Nat} {cs : Array Value} (h : BoxAt w b cs) {r : Nat} {o : Obj} (ho : w.heap[r]? = some o) (hn : o.isCells = false) : b ≠ r := fun e => by
  subst e
  obtain ⟨t, h⟩ := h
  rw [h] at ho
  cases ho
  cases hn
theorem OwnL_cells {w : World} {base : Nat} {e : TypeId} {s n : Nat} {v : Value} {xs : List Value} (h : w.ownsRow base e s v n xs) {r : Nat} (hr : v.ownBlock = some r) : ∃ o : Obj, w.heap[r]? = some o ∧ o.isCells = true := by
  rcases h.2 with ⟨rfl, _⟩ | ⟨g, cap, cur, rfl, _, hblk, _⟩
  · cases hr
  · cases hr
    exact ⟨_, hblk, rfl⟩
theorem WalkI.grown {S : Nat → Prop} {w W W' : World} {f t : ByteArray} {most : Int} {pre : List (EntV S w)} {row : Option Nat} (hS : ∀ b, S b → b < w.heap.size) (h : WalkI S w f t most pre W) (hg : W.grownBy W' row) (hr : ∀ r, row = some r → w.heap.size ≤ r ∧ ∃ o : Obj, W.heap[r]? = some o ∧ o.isCells = false) : WalkI S w f t most pre W' := by
  have hk : Keep (fun k => some k = row) W W' := Keep.of_grown hg
  have hb : ∀ {b : Nat} {cs : Array Value}, BoxAt W b cs → BoxAt W' b cs := fun hB => hB.keeps hk (fun e => by obtain ⟨_, o, h1, h2⟩ := hr _ e.symm; exact BoxAt.notcells hB h1 h2 rfl)
  obtain ⟨v, hv, ho⟩ := h.row
  refine ⟨h.low.grown hg h.low.size (fun k e => (hr k e).1), hb h.span, hb h.most_, ⟨v, hb hv, ?_⟩, h.len, h.in_⟩
  exact OwnL.keepF EntR.stable ho hk (fun g hg' e => by obtain ⟨_, o, h1, h2⟩ := hr _ e.symm; exact OwnL.notcells ho h1 h2 hg') (fun b hb' _ => ⟨hb', fun e => by have := (hr b e.symm).1; have := hS b hb'; omega⟩)
theorem WalkI.below {S : Nat → Prop} {w W W' : World} {f t : ByteArray} {most : Int} {pre : List (EntV S w)} (hS : ∀ b, S b → b < w.heap.size) (h : WalkI S w f t most pre W) (hb : Below W.heap.size W W') : WalkI S w f t most pre W' :=
  h.grown hS (row := none) ⟨hb.os, hb.tape, hb.output, hb.size, fun k hk _ => hb.block k hk⟩ (fun r e => by cases e)

theorem walk_all {S : Nat → Prop} {w : World} {f t : ByteArray} {most : Int} {q : List (EntV S w)} {l : List Ent} (hlen : (q.length : Int) ≤ most ∨ q = []) (hin : ∀ x ∈ q, inB f t x.1.1.key = true) (hq : q.map (·.1.1) = fromE f l) : q.map (·.1.1) = walkE f t most l := by
  unfold walkE
  have h1 : (fromE f l).takeWhile (fun y => inB f t y.key) = fromE f l := by
    rw [← hq]
    have := List.takeWhile_append_of_pos (p := fun y : Ent => inB f t y.key) (l₁ := q.map (·.1.1)) (l₂ := []) (fun y hy => by
      obtain ⟨x, hx, rfl⟩ := List.mem_map.1 hy
      exact hin x hx)
    simpa using this
  rw [h1, ← hq, List.take_of_length_le]
  rw [List.length_map]
  rcases hlen with h | h
  · omega
  · rw [h]; exact Nat.zero_le _
theorem walk_cut {S : Nat → Prop} {w : World} {f t : ByteArray} {most : Int} {pre : List (EntV S w)} {x : EntV S w} {l : List Ent} (hlen : (pre.length : Int) ≤ most ∨ pre = []) (hin : ∀ x ∈ pre, inB f t x.1.1.key = true) (hq : (pre ++ [x]).map (·.1.1) <+: fromE f l) (hno : most ≤ (pre.length : Int) ∨ inB f t x.1.1.key = false) :
    pre.map (·.1.1) = walkE f t most l := by
  obtain ⟨r, hr⟩ := hq
  unfold walkE
  rw [← hr, List.map_append, List.append_assoc]
  have hall : ∀ y ∈ pre.map (·.1.1), inB f t y.key = true := fun y hy => by
    obtain ⟨x, hx, rfl⟩ := List.mem_map.1 hy
    exact hin x hx
  rw [List.takeWhile_append_of_pos hall]
  have hpl : pre.length ≤ most.toNat := by
    rcases hlen with h | h
    · omega
    · rw [h]; exact Nat.zero_le _
  rcases hno with h | h
  · have e : most.toNat = (pre.map (·.1.1)).length := by rw [List.length_map]; omega
    rw [e, List.take_left]
  · have e : ([x].map (·.1.1) ++ r).takeWhile (fun y => inB f t y.key) = [] := by
      show ((x.1.1 :: r).takeWhile _) = []
      rw [List.takeWhile_cons, h]; rfl
    rw [e, List.append_nil, List.take_of_length_le (by rw [List.length_map]; exact hpl)]
theorem walk_out {S : Nat → Prop} {w W : World} {v : Value} {q : List (EntV S w)} {D : Nat} {o o' : Obj} (hS : ∀ b, S b → b < w.heap.size) (ho : OwnL EntR 189 2 (w.heap.size + 3) S W v q.length (q.map (·.1.1))) (hK : W.heap[D]? = some o) (hoc : o.isCells = false) (hD : w.heap.size ≤ D) :
    OwnL EntR 189 2 w.heap.size S (W.putObj D o') v (q.map (·.1.1)).length (q.map (·.1.1)) := by
  have hk : Keep (fun k => k = D) W (W.putObj D o') := ⟨rfl, rfl, rfl, by simp [World.putObj], fun k hk hne => World.putObj_heap_other hne⟩
  rw [List.length_map]
  exact OwnL.basem (OwnL.keepF EntR.stable ho hk (fun g hg e => OwnL.notcells ho hK hoc (e ▸ hg)) (fun b hb _ => ⟨hb, fun e => by have := hS b hb; omega⟩)) (by omega)
set_option maxRecDepth 100000 in
set_option maxHeartbeats 8000000 in
theorem walk_any {w : World} {base t : Nat} {S F : Nat → Prop} {l : List Ent} (h : Hid (TreeM w base S t l F)) (f to : ByteArray) (most : Int) (hlen : l.length ≤ 1000000) :
    Calls Try.prog 116 #[.pointer (some ⟨t, 0, none⟩), .agg #[.string f, .string to], .int .i64 most] w fun e w' => ∃ v, e = .returned v ∧ OwnL EntR 189 2 w.heap.size S w' v (walkE f to most l).length (walkE f to most l) ∧ Below w.heap.size w w' := by
  obtain ⟨N, D, root, ns, I, rfl⟩ := h.out
  have HI := Lib.hid I
  have hS := I.mem.bnd
  clear h I
  refine (callsIn_wide (n := 8)).1 ?_
  refine callsIn_of_wp_marks Try.func116 rfl trivial ?_ rfl
  simp only [Try.ntmps116, List.size_toArray, List.length_cons, List.length_nil, Nat.reduceAdd, Nat.reduceSub, Array.replicate_succ, Array.replicate_zero, List.push_toArray, List.append_toArray, List.nil_append, List.cons_append]
  have B1 : BoxAt (w.alloc (.cells #[.string f, .string to] 56)) w.heap.size #[.string f, .string to] := BoxAt.new w _ _
  obtain ⟨bs, hbs⟩ : ∃ bs, w.heap.size = bs := ⟨_, rfl⟩
  have hb3 : Below w.heap.size w (((w.alloc (.cells #[.string f, .string to] 56)).alloc (.cells #[.int .i64 most] 3)).alloc (.cells #[.slice none 0 0] 178)) := (by repeat (first | (with_reducible exact Below.refl _ _) | (with_reducible assumption) | (with_reducible refine Below.drew ?_) | (with_reducible refine Below.setCell ?_ ?_ _) | (with_reducible refine Below.alloc ?_ ?_ _) | (with_reducible refine Below.later ?_ ?_ _) | (first | (with_reducible exact Nat.le_refl _) | omega | (simp only [World.size_alloc, World.size_setCell, World.size_drew] <;> omega))))
  have B2 := BoxAt.new (w.alloc (.cells #[.string f, .string to] 56)) #[.int .i64 most] 3
  have B3 := BoxAt.new ((w.alloc (.cells #[.string f, .string to] 56)).alloc (.cells #[.int .i64 most] 3)) #[.slice none 0 0] 178
  have B1' := (B1.alloc (.cells #[.int .i64 most] 3)).alloc (.cells #[.slice none 0 0] 178)
  have B2' := B2.alloc (.cells #[.slice none 0 0] 178)
  rw [World.size_alloc] at B2'
  rw [World.size_alloc, World.size_alloc] at B3
  obtain ⟨w3, hw3⟩ : ∃ w3, ((w.alloc (.cells #[.string f, .string to] 56)).alloc (.cells #[.int .i64 most] 3)).alloc (.cells #[.slice none 0 0] 178) = w3 := ⟨_, rfl⟩
  have hs3 : w3.heap.size = bs + 1 + 1 + 1 := by rw [← hw3, World.size_alloc, World.size_alloc, World.size_alloc, hbs]
  rw [hw3] at hb3 B1' B2' B3
  rw [hbs] at B1' B2' B3
  have hfrom := from_any w3 t f
  rw [hs3] at hfrom
  have HB3 := Lib.hid hb3
  have HB1' := Lib.hid B1'
  have HB2' := Lib.hid B2'
  have HB3' := Lib.hid B3
  have HS3 := Lib.hid hs3
  have HBS := Lib.hid hbs
  have k30 := HB1'.out.cell 0
  clear B1 B2 B3 B1' B2' hb3 hs3
  gi_wp2
  refine ⟨trivial, ?_⟩
  refine (callsIn_wide.2 hfrom).mono ?_
  rintro e w4 ⟨rfl, hw4⟩
  have BT := BoxAt.new w3 #[.pointer (some ⟨t, 0, none⟩)] 130
  have BK := BoxAt.new (w3.alloc (.cells #[.pointer (some ⟨t, 0, none⟩)] 130)) #[.string f] 9
  replace BT := BT.alloc (.cells #[.string f] 9)
  have hb34 : Below w3.heap.size w3 w4 := by rw [hw4]; exact ((Below.refl _ _).alloc (Nat.le_refl _) _).alloc (by rw [World.size_alloc]; omega) _
  have hs4 : w4.heap.size = bs + 5 := by rw [hw4, World.size_alloc, World.size_alloc, HS3.out]
  rw [World.size_alloc] at BK
  rw [← hw4, HS3.out] at BT BK
  have hb4 : Below w.heap.size w w4 := HB3.out.trans (hb34.mono HB3.out.size)
  have hI0 : WalkI S w f to most [] w4 := ⟨hb4, by rw [hbs]; exact HB1'.out.below hb34, by rw [hbs]; exact HB2'.out.below hb34, ⟨.slice none 0 0, by rw [hbs]; exact HB3'.out.below hb34, OwnL.nil_⟩, .inr rfl, by simp⟩
  have HBT := Lib.hid BT
  have HBK := Lib.hid BK
  have HI0 := Lib.hid hI0
  have HB4 := Lib.hid hb4
  have HS4 := Lib.hid hs4
  clear BT BK hI0 hb4 hs4 hb34 hw4 hfrom k30 hw3
  gi_wp2
  have hsz : w.heap.size ≤ w4.heap.size := HB4.out.size
  refine wpIn_rangeFunc_ownH (α := EntV S w) rfl (by omega) (gf := 161) (lb := #[.pointer (some ⟨bs + 1 + 1 + 1, 0, none⟩), .pointer (some ⟨bs + 1 + 1 + 1 + 1, 0, none⟩)]) rfl trivial (enters_of Try.func161 (by kernel_rfl) rfl)
    (encs := fun x => #[encE x]) (Kp := Below w.heap.size) (S := fun q => q.map (·.1.1) = fromE f l) (Sp := fun q => q.map (·.1.1) <+: fromE f l) (N := (fromE f l).length) (w0 := w4)
    (fun lp J Jx W hW hJ hJx hY h0 => from1_in HI.out.box (Lib.hid HI.out.mem) (Lib.hid HI.out.tree) (Lib.hid HI.out.rises) f _ lp (bs + 1 + 1 + 1) (bs + 1 + 1 + 1 + 1) J Jx (fun m pre x W1 h1 h2 => YieldAt.anyDepth2 rfl m (hY pre x W1 h1 h2))
      (fun pre W1 W2 h1 h2 => hJ pre W1 W2 none h1 ⟨h2.os, h2.tape, h2.output, h2.size, fun k hk _ => h2.block k hk⟩ (fun r e => by cases e)) W (HB4.out.trans (hW.mono hsz))
      ((hW.cell (p := ⟨bs + 1 + 1 + 1, 0, none⟩) HBT.out.lt).trans (HBT.out.cell 0)) ((hW.cell (p := ⟨bs + 1 + 1 + 1 + 1, 0, none⟩) HBK.out.lt).trans (HBK.out.cell 0)) h0)
    belowK_t (belowK_b hsz) (Below.refl _ _) (fun _ => rfl)
    (WalkI S w f to most) (fun c q W => c = .exit 0 ∧ ∃ pre x, q = pre ++ [x] ∧ WalkI S w f to most pre W ∧ (most ≤ (pre.length : Int) ∨ inB f to x.1.1.key = false))
    (fun s W W' row hs hg hr => hs.grown hS hg (fun r e => ⟨Nat.le_trans hsz (hr r e).1, (hr r e).2⟩))
    (fun c s W W' row hs hg hr => by
      obtain ⟨h1, pre, x, h2, h3, h4⟩ := hs
      exact ⟨h1, pre, x, h2, h3.grown hS hg (fun r e => ⟨Nat.le_trans hsz (hr r e).1, (hr r e).2⟩), h4⟩)
    HI0.out
    (fun x a' W => ∃ Bx, bs + 3 ≤ Bx ∧ BoxAt W Bx x.1.2.toArray ∧ a' = { tmps := #[.pointer (some ⟨t, 0, none⟩), .agg #[.string f, .string to], .int .i64 most, undef, .pointer (some ⟨bs, 0, none⟩), .pointer (some ⟨bs + 1, 0, none⟩), .slice none 0 0, .pointer (some ⟨bs + 1 + 1, 0, none⟩), .pointer (some ⟨Bx, 0, none⟩), .pointer (some ⟨t, 0, none⟩), .pointer (some ⟨bs, 0, none⟩), .string f, .func (.func 161) #[] #[.pointer (some ⟨bs + 1 + 1 + 1, 0, none⟩), .pointer (some ⟨bs + 1 + 1 + 1 + 1, 0, none⟩)], encE x, undef, undef, undef, undef, undef, undef, undef, undef, undef, undef, undef, undef, undef, undef, undef, undef], defers := [] })
    (fun x a' s W W' row ⟨Bx, h1, h2, h3⟩ hg hr => ⟨Bx, h1, h2.keep (hg.block Bx h2.lt (fun e => by obtain ⟨_, o, h4, h5⟩ := hr Bx e.symm; exact BoxAt.notcells h2 h4 h5 rfl)), h3⟩)
    ?assign ?body ?done ?stop
  case assign =>
    rintro lp pre x W K hI hK
    obtain ⟨VA, vm, vc, hcs, hvm, hvR⟩ := x.2
    have henc : encE x = .agg #[.string x.1.1.key, .slice VA vm vc] := by unfold encE; rw [hcs]
    have hal := (BoxAt.new W #[.string ⟨#[]⟩, .slice none 0 0] 189)
    have hal1 : Below W.heap.size W (W.alloc (.cells #[.string ⟨#[]⟩, .slice none 0 0] 189)) := (Below.refl _ _).alloc (Nat.le_refl _) _
    have h2 := (hal.set 0 (.string x.1.1.key)).set 1 (.slice VA vm vc)
    have hlow := hI.low.size
    have c0 := hal.cell 0
    have c1 := hal.cell 1
    have f0 := hal.frozen 0
    have f1 := hal.frozen 1
    obtain ⟨Bx, hBx⟩ : ∃ Bx, W.heap.size = Bx := ⟨_, rfl⟩
    rw [hBx] at h2 c0 c1 f0 f1
    obtain ⟨W1, hW1⟩ : ∃ W1, W.alloc (.cells #[.string ⟨#[]⟩, .slice none 0 0] 189) = W1 := ⟨_, rfl⟩
    rw [hW1] at h2 c0 c1 f0 f1 hal1
    have HI1 := Lib.hid hI
    have H2 := Lib.hid h2
    have HAL := Lib.hid hal1
    have HCS := Lib.hid hcs
    have HW1 := Lib.hid hW1
    have hbW : bs + 2 < W.heap.size := by obtain ⟨v, hv, _⟩ := hI.row; rw [← hbs]; exact hv.lt
    clear hal hI hal1 h2 hcs
    gi_wp2
    have hb9 : Below W.heap.size W ((W1.setCell ⟨Bx, 0, none⟩ (.string x.1.1.key)).setCell ⟨Bx, 1, none⟩ (.slice VA vm vc)) := (HAL.out.setCell (p := ⟨Bx, 0, none⟩) (by show _ ≤ Bx; omega) _).setCell (p := ⟨Bx, 1, none⟩) (by show _ ≤ Bx; omega) _
    refine hK _ _ ?_ (hb9.mono hlow) (HI1.out.below hS hb9) ⟨Bx, by omega, ?_, ?_⟩
    · rw [← HW1.out]
      exact (((KeepsOthers.alloc _ _).trans (KeepsOthers.setCell _ _ _)).trans (KeepsOthers.setCell _ _ _)).from _
    · rw [HCS.out]; simpa using H2.out
    · rw [henc]
  case body =>
    rintro lp pre x a' W hl hr hI ⟨Bx, hBx, bX, rfl⟩ hlt
    obtain ⟨VA, vm, vc, hcs, hvm, hvR⟩ := x.2
    have henc : encE x = .agg #[.string x.1.1.key, .slice VA vm vc] := by unfold encE; rw [hcs]
    have hEx := x.2
    rw [hcs] at bX hEx
    obtain ⟨v, hv, ho⟩ := hI.row
    obtain ⟨RA, RC, rfl, hRC⟩ := OwnL.form ho
    have s0 := hI.span.cell 0
    have s1 := hI.span.cell 1
    have m0 := hI.most_.cell 0
    have o0 := hv.cell 0
    have of0 := hv.frozen 0
    have x0 := bX.cell 0
    have x1 := bX.cell 1
    rw [hbs] at s0 s1 m0 o0 of0 hv ho
    have hn1 : pre.length ≤ 1000000 := by
      have h1 : (fromE f l).length ≤ l.length := List.length_filter_le _ _
      omega
    obtain ⟨n, hn⟩ : ∃ n, pre.length = n := ⟨_, rfl⟩
    rw [hn] at o0 ho hRC hn1
    have HO := Lib.hid ho
    have HV := Lib.hid hv
    have HII := Lib.hid hI
    have HBX := Lib.hid bX
    have HN := Lib.hid hn
    have HX := Lib.hid hEx
    clear ho hv hI bX hlt hn hEx hcs
    by_cases hmo : most ≤ (n : Int)
    · have q1 : decide (most ≤ (n : Int)) = true := decide_eq_true hmo
      gi_wp2
      refine ⟨trivial, ?_⟩
      gi_wp2
      exact ⟨KeepsFrom.refl _ _, rfl, pre, x, rfl, HII.out, .inl (by rw [HN.out]; exact hmo)⟩
    · have q1 : decide (most ≤ (n : Int)) = false := decide_eq_false hmo
      have hin := in_any f to x.1.1.key W
      cases hi : inB f to x.1.1.key with
      | false =>
        rw [hi] at hin
        have HI9 := Lib.hid hi
        clear hi
        gi_wp2
        refine ⟨trivial, ?_⟩
        refine (CallsIn.inRound lp (callsIn_wide.2 hin)).mono ?_
        rintro e W2 ⟨rfl, hb2⟩
        have HB2 := Lib.hid hb2
        clear hb2 hin
        gi_wp2
        refine ⟨KeepsFrom.of_grownBy (row := none) ⟨HB2.out.os, HB2.out.tape, HB2.out.output, HB2.out.size, fun k hk _ => HB2.out.block k hk⟩ (fun r e => by cases e), rfl, pre, x, rfl, HII.out.below hS HB2.out, .inr HI9.out⟩
      | true =>
        rw [hi] at hin
        have HI9 := Lib.hid hi
        have u0 := fun W' (hb : Below W.heap.size W W') => (hb.cell (p := ⟨bs + 1 + 1, 0, none⟩) HV.out.lt).trans o0
        have uf := fun W' (hb : Below W.heap.size W W') => (hb.frozen (p := ⟨bs + 1 + 1, 0, none⟩) HV.out.lt).trans of0
        have ux0 := fun W' (hb : Below W.heap.size W W') => (hb.cell (p := ⟨Bx, 0, none⟩) HBX.out.lt).trans x0
        have ux1 := fun W' (hb : Below W.heap.size W W') => (hb.cell (p := ⟨Bx, 1, none⟩) HBX.out.lt).trans x1
        clear hi
        gi_wp2
        refine ⟨trivial, ?_⟩
        refine (CallsIn.inRound lp (callsIn_wide.2 hin)).mono ?_
        rintro e W2 ⟨rfl, hb2⟩
        have HB2 := Lib.hid hb2
        have y0 := u0 W2 hb2
        have yf := uf W2 hb2
        have z0 := ux0 W2 hb2
        have z1 := ux1 W2 hb2
        have HO2 := Lib.hid (HO.out.keep EntR.stable hb2)
        have hI2 := HII.out.below hS hb2
        obtain ⟨css, g1, g2, g3, g4, g5⟩ := HO2.out
        have hlow := hI2.low.size
        have hbsW : bs + 1 + 1 < W2.heap.size := Nat.lt_of_lt_of_le HV.out.lt hb2.size
        obtain ⟨ti, hti, htz, hts, htb⟩ := info_parts sl_ent.info
        have hal := BoxAt.new W2 #[.string x.1.1.key, .slice VA vm vc] 189
        have hal1 : Below W2.heap.size W2 (W2.alloc (.cells #[.string x.1.1.key, .slice VA vm vc] 189)) := (Below.refl _ _).alloc (Nat.le_refl _) _
        have hgw : (W2.alloc (.cells #[.string x.1.1.key, .slice VA vm vc] 189)).ownsRow (bs + 3) 189 2 (.slice RA n RC) n css.flatten := by
          obtain ⟨css', e1, _⟩ := HO2.out.keep EntR.stable hal1
          exact g1.kept (row := none) ⟨hal1.os, hal1.tape, hal1.output, hal1.size, fun k hk _ => hal1.block k hk⟩ (by cases hv : (Value.slice RA n RC).ownBlock <;> simp)
        obtain ⟨W3, hW3⟩ : ∃ W3, W2.alloc (.cells #[.string x.1.1.key, .slice VA vm vc] 189) = W3 := ⟨_, rfl⟩
        obtain ⟨vb, hvb⟩ : ∃ vb, W2.heap.size = vb := ⟨_, rfl⟩
        rw [hW3] at hal hal1 hgw
        rw [hvb] at hal
        have y30 := (hal1.cell (p := ⟨bs + 1 + 1, 0, none⟩) hbsW).trans y0
        have yf30 := (hal1.frozen (p := ⟨bs + 1 + 1, 0, none⟩) hbsW).trans yf
        have hsz3 := hal1.size
        have HG := Lib.hid hgw
        have HI2 := Lib.hid hI2
        have HAL := Lib.hid hal
        have HAL1 := Lib.hid hal1
        have HW3 := Lib.hid hW3
        have hownO : (Value.slice RA n RC).ownBlock ≠ some (bs + 1 + 1) := fun e => by have := (OwnL.lt HO2.out _ e).1; omega
        clear hb2 hin hI2 hal hal1 hgw g1 u0 uf ux0 ux1
        gi_wp2_with (
          gi_at_builtin
          go_must (refine Go.wpListIn_append_own_at _ rfl _ _ 178 rfl (bs + 3) 189 ti _ 2 40 sl_ent.und hti htz hts htb rfl (by decide) (.slice RA n RC) n css.flatten rfl HG.out ⟨vb, 0, none⟩ 1 1 [.string x.1.1.key, .slice VA vm vc] rfl rfl (fun j u hj => by rw [Addr.add_lit, HAL.out.cell]; simpa using hj) (EntR.one _ _ _ _ HX.out) (by unfold maxLen; omega) (by omega) (by omega) ?_)
          intro v' w4' hown4 hg4 hnil4 hat4
          go_must (obtain ⟨A4, C4, rfl, hC4⟩ := row_form hown4)
          go_must (have y40 := (World.cell?_of_block (a := ⟨bs + 1 + 1, 0, none⟩) (hg4.block (bs + 1 + 1) (by omega) (fun e => hownO e.symm))).trans y30)
          go_must (have yf40 := (World.frozen?_of_block (a := ⟨bs + 1 + 1, 0, none⟩) (hg4.block (bs + 1 + 1) (by omega) (fun e => hownO e.symm))).trans yf30)
          go_must (have HO4 := Lib.hid hown4)
          go_must (have HG4 := Lib.hid hg4)
          go_must (have HAT := Lib.hid hat4)
          clear hown4 hg4 hnil4 hat4)
        have hI3 := HI2.out.below hS HAL1.out
        have hpl : (pre.map (·.1.1)).length = n := by rw [List.length_map, HN.out]
        have hg14 : ((Value.slice RA n RC).ownBlock = none ∨ ∃ r, (Value.slice RA n RC).ownBlock = some r ∧ bs + 3 ≤ r) := by
          cases hro : (Value.slice RA n RC).ownBlock with
          | none => exact .inl rfl
          | some r => exact .inr ⟨r, rfl, (OwnL.lt HO2.out r hro).1⟩
        have hrow : ∀ r, (Value.slice RA n RC).ownBlock = some r → bs + 3 ≤ r := fun r e => (OwnL.lt HO2.out r e).1
        have hk4 : Keep (fun k => some k = (Value.slice RA n RC).ownBlock) W3 w4' := Keep.of_grown HG4.out
        have hbx : ∀ {b : Nat} {cs : Array Value}, BoxAt W3 b cs → b < bs + 3 → BoxAt w4' b cs := fun hB hlt => hB.keeps hk4 (fun e => by have := hrow _ e.symm; omega)
        have hS3 : w.heap.size ≤ W3.heap.size := hI3.low.size
        have ho4 : OwnL EntR 189 2 (bs + 3) S w4' (.slice A4 (n + 1) C4) (n + 1) (pre.map (·.1.1) ++ [x.1.1]) := by
          have hst : ∀ b, Go.Cib.Rest S (.slice RA n RC) b → b < W2.heap.size → Go.Cib.Rest S (.slice RA n RC) b ∧ W3.heap[b]? = W2.heap[b]? := fun b hb hl => ⟨hb, HAL1.out.block b hl⟩
          have := OwnL.ins EntR.stable (i := n) (E := 189) (s := 2) (base := bs + 3) (w := W3) (w' := w4') (v := .slice RA n RC) (v' := .slice A4 (n + 1) C4) (l := pre.map (·.1.1)) (css := css) (ys := [.string x.1.1.key, .slice VA vm vc]) (x := x.1.1) hpl g3 g4
            (fun i cs y hc hy => EntR.stable _ _ _ _ _ _ (g5 i cs y hc hy) hst) (Nat.le_refl _) rfl
            (EntR.stable _ _ _ _ _ _ HX.out (fun b hb hl => ⟨⟨hb, fun e => by have := hrow _ e.symm; have := hS b hb; omega⟩, hI3.low.block b hl⟩))
            (by
              have hfl : css.flatten.length = n * 2 := by have := HO4.out.1; simp only [List.length_append, List.length_cons, List.length_nil] at this; omega
              rw [List.take_of_length_le (by omega), List.drop_of_length_le (by omega), List.append_nil]; exact HO4.out) HG4.out (HAT.out.imp id fun e => ⟨_, e, Nat.le_refl _⟩)
          rwa [List.take_of_length_le (by omega), List.drop_of_length_le (by omega)] at this
        have hkt : Keep (fun k => k = bs + 1 + 1) w4' (w4'.setCell ⟨bs + 1 + 1, 0, none⟩ (.slice A4 (n + 1) C4)) := setCell_keep w4' (bs + 1 + 1) 0 _ rfl
        have hb4 : Below w.heap.size W3 w4' := (Below.refl _ _).grown HG4.out hS3 (fun k e => by have := hrow k e; omega)
        have hb5 : Below w.heap.size w4' (w4'.setCell ⟨bs + 1 + 1, 0, none⟩ (.slice A4 (n + 1) C4)) := (Below.refl _ _).setCell (p := ⟨bs + 1 + 1, 0, none⟩) (by show _ ≤ bs + 1 + 1; omega) _
        have hWlow := HII.out.low.size
        have hW2low := HI2.out.low.size
        refine ⟨?_, (((HB2.out.mono hWlow).trans (HAL1.out.mono hW2low)).trans hb4).trans hb5, ⟨(hI3.low.trans hb4).trans hb5, ?_, ?_, ⟨.slice A4 (n + 1) C4, ?_, ?_⟩, .inl ?_, ?_⟩⟩
        · refine KeepsFrom.trans (KeepsFrom.of_grownBy (row := none) ⟨HB2.out.os, HB2.out.tape, HB2.out.output, HB2.out.size, fun k hk _ => HB2.out.block k hk⟩ (fun r e => by cases e)) ?_
          refine KeepsFrom.trans (KeepsFrom.of_grownBy (row := none) ⟨HAL1.out.os, HAL1.out.tape, HAL1.out.output, HAL1.out.size, fun k hk _ => HAL1.out.block k hk⟩ (fun r e => by cases e)) ?_
          refine KeepsFrom.trans (KeepsOthers.from (KeepsOthers.of_grownBy HG4.out ?_) _) ((KeepsOthers.setCell _ _ _).from _)
          intro r o e ho
          obtain ⟨o2, h1, h2⟩ := OwnL_cells HG.out e
          rw [h1] at ho
          cases ho
          exact h2
        · rw [hbs]; exact (hbx (hbs ▸ hI3.span) (by omega)).keeps hkt (by show ¬ (bs = bs + 1 + 1); omega)
        · rw [hbs]; exact (hbx (hbs ▸ hI3.most_) (by omega)).keeps hkt (by show ¬ (bs + 1 = bs + 1 + 1); omega)
        · rw [hbs]
          have := (hbx (HAL1.out |> fun h => (HV.out.below HB2.out).below h) (by omega)).set 0 (.slice A4 (n + 1) C4)
          simpa using this
        · rw [hbs, List.map_append, List.length_append, HN.out]
          exact OwnL.keepF EntR.stable ho4 hkt (fun g hg e => by have := (OwnL.lt ho4 g hg).1; omega) (fun b hb _ => ⟨hb, fun e => by have := hS b hb; omega⟩)
        · rw [List.length_append, HN.out]; simp only [List.length_singleton]; omega
        · intro y hy
          rcases List.mem_append.1 hy with hy | hy
          · exact HII.out.in_ y hy
          · rw [List.mem_singleton.1 hy]; exact HI9.out
  case done =>
    rintro D q W hD hq hI hK
    obtain ⟨v, hv, ho⟩ := hI.row
    have o0 := hv.cell 0
    rw [hbs] at o0
    have hres := walk_all hI.len hI.in_ hq
    have HII := Lib.hid hI
    have HO := Lib.hid ho
    have HK := Lib.hid hK
    have hDw : w.heap.size ≤ D := Nat.le_trans hsz hD
    have HRES := Lib.hid hres
    clear hI ho hv hq hK hres
    gi_wp2
    refine ⟨by simp, .inl ⟨_, _, rfl, run_takeDeferred HK.out, ?_⟩⟩
    refine ⟨_, results_tmp rfl _ _ _, v, rfl, ?_, HII.out.low.trans (belowK_b (w := w) (Nat.le_refl _) W D _ _ hDw HK.out rfl rfl)⟩
    rw [← HRES.out]
    exact walk_out hS HO.out HK.out rfl hDw
  case stop =>
    rintro D c q W hD hq ⟨rfl, pre, x, rfl, hI, hno⟩ hK
    obtain ⟨v, hv, ho⟩ := hI.row
    have o0 := hv.cell 0
    rw [hbs] at o0
    have hres := walk_cut hI.len hI.in_ hq hno
    have HII := Lib.hid hI
    have HO := Lib.hid ho
    have HK := Lib.hid hK
    have hDw : w.heap.size ≤ D := Nat.le_trans hsz hD
    have HRES := Lib.hid hres
    clear hI ho hv hq hK hres hno
    gi_wp2
    refine ⟨by simp, .inl ⟨_, _, rfl, run_takeDeferred HK.out, ?_⟩⟩
    refine ⟨_, results_tmp rfl _ _ _, v, rfl, ?_, HII.out.low.trans (belowK_b (w := w) (Nat.le_refl _) W D _ _ hDw HK.out rfl rfl)⟩
    rw [← HRES.out]
    exact walk_out hS HO.out HK.out rfl hDw
end Go.Proofs.Ytpibaahiboajhaa
