/-
  Drives and a coder in the midst of a law, beside the law's own blocks, which it writes.
  A map's int keys, sorted; the drives, in a map.
  A scrubber: which stripe is next.
  The drives in a map; on which drives a stripe's shards are missing.
  On which drives a stripe's shards are missing; how many.
  As Ord: an operation is taken first for which those of lst wait by way of another one.
  What is missing of each stripe, handed to a function; all told, the most, what is lost.
  What is missing of all stripes, the most of one, whether all is within, how many drives more may die.
  Which stripes are lost.
  A scrubber: the first least one; which stripe is next.
  A scrubber comes to a stripe; a step.
  A scrubber's step.
  Drives that die and are replaced, stripes that are made anew; which is next; sums: plain.
-/
import Derived.Test.YtihnlhfngmbglaaGreatTn12
import Derived.Test.YtihnlhfngmbglaaGreatTn1
import Derived.Test.YtihnlhfngmbglaaGreatRows
import Derived.Test.YtihnlhfngmbglaaGreatTn3
set_option linter.unusedSimpArgs false
set_option linter.unusedVariables false
namespace Go.Proofs.YtihnlhfngmbglaaGreat
open Go.RowKit Go.Cib
attribute [local go_sem] cell_set Later.cell Later.frozen Grw.cell Grw.frozen
section
def NoB (_ : Nat) : Prop := False
/-- Drives and a coder, beside blocks X. -/
def MX (X : Nat → Prop) (w0 w : World) (a cb bf k m n : Nat) (sts : List DSt) : Prop := MidP NoB X w0 w a cb bf k m n sts
section
variable {P X Y C : Nat → Prop} {w0 w1 w w' : World} {a cb bf k m n : Nat} {sts : List DSt} {r : Ref}
theorem mx_of (h : SMidX (fun j => X j ∨ C j) w0 w a cb bf k m n sts) (hC : CodF C w cb bf k m) (hd : ∀ j, X j → ¬ C j) : MX X w0 w a cb bf k m n sts := by
  obtain ⟨h0, ⟨U, _, hA, _, hU, _, hx⟩, hl, h1, h2⟩ := h
  exact ⟨h0, ⟨U, C, hA, hC, hU, fun j hj => hx j (.inr hj), fun j hj => ⟨(hx j (.inl hj)).1, hd j hj, (hx j (.inl hj)).2⟩, fun j hj => hj.elim⟩, fun j hj => hj.elim, hl, h1, h2⟩
theorem MX.x (h : MX X w0 w a cb bf k m n sts) : SMidX X w0 w a cb bf k m n sts := MidP.x h
theorem MX.mid (h : MX X w0 w a cb bf k m n sts) : SMid w0 w a cb bf k m n sts := MidP.mid h
theorem MX.bel (h : MX X w0 w a cb bf k m n sts) : Below w0.heap.size w0 w := h.1
theorem MX.len (h : MX X w0 w a cb bf k m n sts) : sts.length = k + m := MidP.len h
theorem MX.pos (h : MX X w0 w a cb bf k m n sts) : 1 ≤ k ∧ 1 ≤ m ∧ k + m ≤ 255 ∧ 1 ≤ n ∧ n ≤ 600 := MidP.pos h
theorem MX.cod (h : MX X w0 w a cb bf k m n sts) : CodAt w cb bf k m := MidP.cod h
theorem MX.lt (h : MX X w0 w a cb bf k m n sts) {j : Nat} (hj : X j) : j < w.heap.size := MidP.lt h hj
theorem MX.sub (h : MX X w0 w a cb bf k m n sts) (hy : ∀ j, Y j → X j) : MX Y w0 w a cb bf k m n sts := MidP.sub h hy
theorem MX.below (h : MX X w0 w a cb bf k m n sts) (hb : Below w.heap.size w w') : MX (fun j => X j ∨ (w.heap.size ≤ j ∧ j < w'.heap.size)) w0 w' a cb bf k m n sts := MidP.below h hb
theorem MX.below' (h : MX X w0 w a cb bf k m n sts) (hb : Below w.heap.size w w') : MX X w0 w' a cb bf k m n sts := MidP.below' h hb
/-- A block of X's is written. -/
theorem MX.own {F : Nat → Prop} (h : MX X w0 w a cb bf k m n sts) (hK : Keep F w w') (hF : ∀ j, F j → X j ∧ w0.heap.size ≤ j) : MX X w0 w' a cb bf k m n sts := MidP.own h hK hF
theorem MX.ownN {F : Nat → Prop} (h : MX X w0 w a cb bf k m n sts) (hK : Keep F w w') (hF : ∀ j, F j → X j ∧ w0.heap.size ≤ j) : MX (fun j => X j ∨ (w.heap.size ≤ j ∧ j < w'.heap.size)) w0 w' a cb bf k m n sts := MidP.ownN h hK hF
theorem MX.rebase (h : MX X w1 w a cb bf k m n sts) (hb : Below w0.heap.size w0 w1) : MX X w0 w a cb bf k m n sts := by
  obtain ⟨h0, ⟨U, C, hA, hC, hU, hd, hx, hp⟩, hpx, hl, h1, h2⟩ := h
  exact ⟨hb.trans (h0.mono hb.size), ⟨U, C, hA, hC, fun j hj => Nat.le_trans hb.size (hU j hj), hd, hx, fun j hj => hj.elim⟩, hpx, hl, h1, h2⟩
theorem MX.step {sts' : List DSt} {f : FuncId} {args : Array Value} {Q : Ending → World → Prop} (h : MX X w0 w a cb bf k m n sts) (hl : sts'.length = sts.length)
    (hc : ∀ U, ArrAt U w a n sts → (∀ j, U j → w0.heap.size ≤ j) → (∀ j, X j → ¬ U j ∧ j < w.heap.size) → Calls Tryz.prog f args w fun e w' => Q e w' ∧ AUpd U w w' a n sts') :
    Calls Tryz.prog f args w fun e w' => Q e w' ∧ MX X w0 w' a cb bf k m n sts' ∧ KpX X w w' :=
  (MidP.step h hl hc).mono fun _ _ ⟨h1, h2, h3⟩ => ⟨h1, h2, h3.mono fun _ hj => .inl hj⟩
theorem kx_or {w w' : World} (h : KpX (fun j => X j ∨ NoB j) w w') : KpX X w w' := h.mono fun _ hj => .inl hj
theorem put_m (h : MX X w0 w a cb bf k m n sts) (hr : r.ok n) (hg : Hid (r.gen < 2 ^ 64)) (hcl : ∀ st ∈ sts, st.cache.length < 900000)
    {A : Option Addr} {c len : Nat} {S : Nat → Prop} {xs : List Nat} (R : RdL ByR 1 S w A len xs) (hc : len ≤ c) (hlx : len ≤ k * 44) :
    Calls Tryz.prog 43 #[.pointer (some ⟨a, 0, none⟩), .pointer (some ⟨cb, 0, none⟩), .agg (refC r), .slice A len c] w fun e w' =>
      e = .returned (.tuple #[.int .i64 (liveC sts : Int), .int .i64 0]) ∧ MX X w0 w' a cb bf k m n (sts.mapIdx (putQ n k (k + m) r xs)) ∧ KpX X w w' :=
  (put_p h hr hg hcl R hc hlx).mono fun _ _ ⟨h1, h2, h3⟩ => ⟨h1, h2, kx_or h3⟩
theorem fail_m (h : MX X w0 w a cb bf k m n sts) (d : Int) :
    Calls Tryz.prog 18 #[.pointer (some ⟨a, 0, none⟩), .int .i64 d] w fun e w' => e = .returned (.int .i64 (if 0 ≤ d ∧ d < sts.length then 0 else 2)) ∧ MX X w0 w' a cb bf k m n (failA n sts d) ∧ KpX X w w' :=
  (fail_p h d).mono fun _ _ ⟨h1, h2, h3⟩ => ⟨h1, h2, kx_or h3⟩
theorem flush_m (h : MX X w0 w a cb bf k m n sts) (hcl : ∀ st ∈ sts, st.cache.length < 1000000) :
    Calls Tryz.prog 30 #[.pointer (some ⟨a, 0, none⟩)] w fun e w' => e = .returned (.int .i64 (cnt (aliveL sts))) ∧ MX X w0 w' a cb bf k m n (sts.map flushG) ∧ KpX X w w' :=
  (flush_p h hcl).mono fun _ _ ⟨h1, h2, h3⟩ => ⟨h1, h2, kx_or h3⟩
theorem repl_m (h : MX X w0 w a cb bf k m n sts) (d : Int) :
    Calls Tryz.prog 49 #[.pointer (some ⟨a, 0, none⟩), .int .i64 d] w fun e w' => e = .returned (.int .i64 (if 0 ≤ d ∧ d < sts.length then 0 else 2)) ∧ MX X w0 w' a cb bf k m n (replA n sts d) ∧ KpX X w w' :=
  h.step (Q := fun e _ => e = .returned (.int .i64 (if 0 ≤ d ∧ d < sts.length then 0 else 2))) (by unfold replA; split <;> simp) fun U hA _ _ => arepl_any (Lib.hid hA) (by have := h.len; have := h.pos; omega) d
theorem mend_m {g : Nat → Bool} {xs : List Nat} (h : MX X w0 w a cb bf k m n sts) (hr : r.ok n) (hg : Hid (r.gen < 2 ^ 64)) (hx : Byt xs) (hl : xs.length ≤ k * 44)
    (hcl : ∀ st ∈ sts, st.cache.length < 900000) (hen : k ≤ cntP g (k + m)) (hc : Hds g k (k + m) r xs sts) :
    Calls Tryz.prog 85 #[.pointer (some ⟨a, 0, none⟩), .pointer (some ⟨cb, 0, none⟩), .agg (refC r)] w fun e w' => e = .returned (.tuple #[.int .i64 (cntP (fun d => !g d && !deadL sts d) (k + m) : Nat), .int .i64 0]) ∧ MX X w0 w' a cb bf k m n (sts.mapIdx (mendQ g n k (k + m) r xs)) ∧ KpX X w w' :=
  h.step (Q := fun e _ => e = .returned (.tuple #[.int .i64 (cntP (fun d => !g d && !deadL sts d) (k + m) : Nat), .int .i64 0])) (by simp) fun U hA _ _ => amend_std hA h.cod h.len h.pos.2.2.2.2 hr hg hx hl hcl hen hc
theorem an_m (h : MX X w0 w a cb bf k m n sts) : Calls Tryz.prog 83 #[.pointer (some ⟨a, 0, none⟩)] w fun e w' => e = .returned (.int .i64 ((k + m : Nat) : Int)) ∧ Below w.heap.size w w' := an_p h
/-- What a law's Made gives. -/
theorem made_m {w0 w : World} {k m n : Nat} (hbel : Below w0.heap.size w0 w) (k1 : 1 ≤ k) (m1 : 1 ≤ m) (km : k + m ≤ 255) (n1 : 1 ≤ n) (n2 : n ≤ 600) :
    Calls Tryz.prog 35 #[.agg (geoC k m n)] w fun e w' => ∃ a cb bf, e = .returned (.tuple #[.pointer (some ⟨a, 0, none⟩), .pointer (some ⟨cb, 0, none⟩)]) ∧ MX (fun j => j < w.heap.size) w0 w' a cb bf k m n (newS n (k + m)) ∧ Below w.heap.size w w' :=
  (made_lawC k1 m1 km n1 n2).mono fun _ _ ⟨a, cb, bf, C, he, hM, hC, hc, hb⟩ => ⟨a, cb, bf, he, (mx_of hM hC (fun j h1 h2 => by have := hc j h2; omega)).rebase hbel, hb⟩
end
end
section
open Go.Maps Go.Sort Go.Shelf Go.Proofs Go.WideElems Go.MapKept Go.WideShapes Go.ChangeMaps

/-- A reader that asks nothing. -/
def anyRI (_ : Value) : Option (DataW Unit × List MemPlace) := some (.nil, [])
def kOk (x : Int) : Prop := (Lit.int IntKind.i64 x).wf = true
theorem MapAt.ownsI {P : Program} {K : TypeId} (hK : P.underlying K = some (.int .i64)) {w : World} {b : Nat} {es : List (Int × Value)} (h : MapAt (Value.int .i64) w b es) (hk : ∀ p ∈ es, kOk p.1) (hl : es.length ≤ maxLen) :
    ∃ D0 : DataW Unit, w.ownsMap P K anyRI b es.length D0 ∧ Maps.size D0 = es.length ∧ (intKeys D0).Perm (es.map fun p => p.1) := by
  obtain ⟨h0, arr, clock, h1, h2, h3, h4⟩ := h
  have hsz : arr.size = es.length := by have := congrArg List.length h2; simpa using this
  have hkey : ∀ s : Int, kOk s → keyOf P K (.int .i64 s) = some (.int .i64 s) := fun s hs => by
    unfold kOk at hs
    simp [keyOf, hK, mapKey, hs]
  have hkeys : arr.toList.map (·.key) = es.map (fun p => Value.int .i64 p.1) := by
    have := congrArg (List.map Prod.fst) h2
    simpa [List.map_map, Function.comp_def] using this
  have hent : ∀ x ∈ arr.toList, ∃ s, x.key = .int .i64 s ∧ kOk s := fun x hx => by
    have : x.key ∈ es.map (fun p => Value.int .i64 p.1) := by rw [← hkeys]; exact List.mem_map_of_mem hx
    obtain ⟨p, hp, e⟩ := List.mem_map.1 this
    exact ⟨p.1, e.symm, hk p hp⟩
  have hrg : arr.toList.map (rg P K anyRI) = es.map (fun p => (Lit.int .i64 p.1, (DataW.nil : DataW Unit))) := by
    have e1 : arr.toList.map (rg P K anyRI) = (arr.toList.map (·.key)).map (fun v => match v with | .int .i64 s => (Lit.int .i64 s, (DataW.nil : DataW Unit)) | _ => (.bool false, .nil)) := by
      rw [List.map_map]
      refine List.map_congr_left fun x hx => ?_
      obtain ⟨s, hs, hs2⟩ := hent x hx
      simp [WideElems.rg, WideElems.rd, hs, hkey s hs2, anyRI]
    rw [e1, hkeys, List.map_map]
    rfl
  refine ⟨.map ((arr.toList.map (rg P K anyRI)).foldr DataW.insert []), ⟨arr, clock, h1, ⟨by omega, ⟨h4, h3, ?_⟩, fun x hx => ?_⟩, by omega, rfl⟩, ?_, ?_⟩
  · rw [hkeys]
    rw [show (fun p : Int × Value => Value.int .i64 p.1) = Value.int .i64 ∘ (·.1) from rfl, ← List.map_map]
    exact List.Pairwise.map _ (fun a b hab e => hab (by injection e)) h0
  · obtain ⟨s, hs, hs2⟩ := hent x hx
    exact ⟨(.int .i64 s, .nil), by simp [WideElems.rd, hs, hkey s hs2, anyRI]⟩
  · show List.length _ = _
    rw [length_sorted]
    simpa using hsz
  · show List.Perm (List.map _ _) _
    refine ((sorted_perm _).map _).trans ?_
    rw [hrg, List.map_map]
    exact List.Perm.refl _
theorem sort_risesI {ss : List Int} {xs : List Int} (hp : ss.Perm xs) (hr : xs.Pairwise fun x y => x < y) : ss.mergeSort (fun x y => decide (x ≤ y)) = xs := by
  have tr : ∀ a b c : Int, decide (a ≤ b) = true → decide (b ≤ c) = true → decide (a ≤ c) = true := fun a b c h1 h2 => by simp only [decide_eq_true_eq] at *; omega
  have to : ∀ a b : Int, (decide (a ≤ b) || decide (b ≤ a)) = true := fun a b => by simp only [Bool.or_eq_true, decide_eq_true_eq]; omega
  refine List.Perm.eq_of_pairwise (le := fun a b => decide (a ≤ b) = true) (fun a b _ _ h1 h2 => ?_) (List.pairwise_mergeSort tr to ss) ?_ ((List.mergeSort_perm ss _).trans hp)
  · simp only [decide_eq_true_eq] at h1 h2
    omega
  · exact hr.imp fun h => by simp only [decide_eq_true_eq]; omega
theorem ints_ownK {w : World} {base n : Nat} {v : Value} {l : List Int} (h : w.ownsRow base 3 1 v n (l.map (Value.int .i64))) : ∃ A c, v = .slice A n c ∧ n ≤ c ∧ RdL IntR 1 (fun j => base ≤ j) w A n l := by
  have hl : l.length = n := by have := h.1; simpa using this
  rcases h.2 with ⟨rfl, h0⟩ | ⟨g, cap, cur, rfl, hg, hblk, hnc, hcm, hsz, ht⟩
  · subst h0
    exact ⟨none, 0, rfl, Nat.le_refl _, by rw [List.length_eq_zero_iff.1 hl]; exact RdL.nil⟩
  · refine ⟨_, cap, rfl, hnc, hl, fun _ => ⟨g, 0, rfl, hg, (Array.getElem?_eq_some_iff.1 hblk).1, fun i x hx => ⟨[.int .i64 x], rfl, rfl, fun j u hj => ?_⟩⟩⟩
    rcases j with _ | j
    · simp at hj; subst hj
      have hc := h.cells (g := g) rfl i (.int .i64 x) (by rw [List.getElem?_map, hx]; rfl)
      rw [Addr.add_lit, Nat.zero_add] at hc
      rw [show 0 + i * 1 + 0 = i by omega]
      exact hc
    · simp at hj
theorem sortsI (m : Nat) : AnyZI.SortsIn Tryz.prog Tryz.sortedI_ren Fence.wide m :=
  ⟨fun blk off cap ss W hH hblk hsz => callsIn_wide.2 (AnyM.slices_Sort_int Tryz.sortI blk off cap ss W hH hblk hsz),
   fun p cap W => callsIn_wide.2 (AnyM.slices_Sort_int_none Tryz.sortI p cap W)⟩
theorem keysI_it (mb : Option Nat) (W : World) : Calls Tryz.prog 67 #[.map mb] W fun e w' => e = .returned (.func (.func 127) #[] #[.pointer (some ⟨W.heap.size, 0, none⟩)]) ∧ w' = W.alloc (.cells #[.map mb] 116) :=
  (callsIn_wide (n := 5)).1 (AnyZI.keys_in Tryz.keysI Fence.wide 5 trivial rfl mb W)
theorem sortedK_any {w : World} {b p : Nat} {es : List (Int × Value)} {xs : List Int} (hm : MapAt (Value.int .i64) w b es) (hp : w.cell? ⟨p, 0, none⟩ = some (.map (some b))) (hpl : p < w.heap.size) (hk : ∀ q ∈ es, kOk q.1) (hl : es.length ≤ 1000000)
    (hx : (es.map (·.1)).Perm xs) (hr : xs.Pairwise fun x y => x < y) :
    Calls Tryz.prog 66 #[.func (.func 127) #[] #[.pointer (some ⟨p, 0, none⟩)]] w fun e w' => ∃ A c, e = .returned (.slice A xs.length c) ∧ xs.length ≤ c ∧ RdL IntR 1 (fun j => w.heap.size ≤ j) w' A xs.length xs ∧ Below w.heap.size w w' := by
  refine (callsIn_wide (n := 5)).1 ?_
  obtain ⟨D0, hown, hsz, hperm⟩ := MapAt.ownsI (P := Tryz.prog) (K := 3) (by kernel_rfl) hm hk (by unfold maxLen; omega)
  have hseq : SeqGives Fence.wide 2 Tryz.prog 127 #[.pointer (some ⟨p, 0, none⟩)] encZ (fun ss => ss.Perm (intKeys D0)) (Maps.size D0) w :=
    AnyZI.keys_gives (ρ := Tryz.keysI_ren) { Tryz.keysI with } Fence.wide _ trivial rfl (by omega) p b es.length D0 _ hpl hp hown
  have cS := AnyZI.sorted_in Tryz.sortedI Fence.wide 5 trivial trivial trivial trivial rfl (by omega) (sortsI _) (enters_of Tryz.func126 (by kernel_rfl) rfl) 127 #[.pointer (some ⟨p, 0, none⟩)] trivial (enters_of Tryz.func127 (by kernel_rfl) rfl) _ _ (by rw [hsz]; unfold maxLen; omega) (by rw [hsz]; omega) _ hseq
  change CallsIn _ _ Tryz.prog 66 _ _ _ at cS
  refine cS.mono ?_
  rintro e w' ⟨v, ss, rfl, hS, hrow, hnil, hb⟩
  have hperm2 : ss.Perm xs := (hS.trans hperm).trans hx
  have hlen : ss.length = xs.length := hperm2.length_eq
  rw [sort_risesI hperm2 hr, hlen] at hrow
  obtain ⟨A, c, rfl, hc, hrd⟩ := ints_ownK hrow
  exact ⟨A, c, rfl, hc, hrd, hb⟩
end
section
/-- A stripe's name, at any place. -/
structure RfI where
  kind : Int
  place : Int
  gen : Int
def RfI.C (r : RfI) : Array Value := #[.int .u8 r.kind, .int .i64 r.place, .int .u64 r.gen]
def RfI.none_ : RfI := ⟨0, 0, 0⟩
def RfIR (_ : Nat → Prop) (_ : World) (cs : List Value) (x : RfI) : Prop := cs = [.int .u8 x.kind, .int .i64 x.place, .int .u64 x.gen]
theorem RfIR.stable : Stable RfIR := fun _ _ _ _ _ _ h _ => h
theorem RfIR.one : ∀ S w cs x, RfIR S w cs x → ∀ u ∈ cs, u.oneCell' = true := by
  rintro S w cs x rfl u hu
  simp only [List.mem_cons, List.not_mem_nil, or_false] at hu
  rcases hu with rfl | rfl | rfl <;> rfl
theorem sl_rfi : SlTy Tryz.prog 34 38 (.agg #[.int .u8 0, .int .i64 0, .int .u64 0]) 3 24 := ⟨by kernel_rfl, by kernel_rfl, by kernel_rfl, by omega⟩
theorem rfi_at {S : Nat → Prop} {w : World} {A : Option Addr} {n : Nat} {xs : List RfI} (h : RdL RfIR 3 S w A n xs) {i : Nat} (hi : i < n) : ∃ b o x, A = some ⟨b, o, none⟩ ∧ xs[i]? = some x ∧ b < w.heap.size ∧ S b ∧ w.cell? ⟨b, o + i * 3, none⟩ = some (.int .u8 x.kind) ∧ w.cell? ⟨b, o + i * 3 + 1, none⟩ = some (.int .i64 x.place) ∧ w.cell? ⟨b, o + i * 3 + 2, none⟩ = some (.int .u64 x.gen) := by
  obtain ⟨b, o, rfl, hS, hlt⟩ := h.addr hi
  obtain ⟨hl, cs, h1, h2, h3⟩ := h.at hi
  have h4 : cs = [.int .u8 (xs[i]).kind, .int .i64 (xs[i]).place, .int .u64 (xs[i]).gen] := h2
  subst h4
  refine ⟨b, o, xs[i], rfl, by simp [hl], hlt, hS, ?_, ?_, ?_⟩
  · simpa using h3 0 _ rfl
  · simpa using h3 1 _ rfl
  · simpa using h3 2 _ rfl
def plF (xs : List RfI) (i : Nat) : Int := (xs.getD i RfI.none_).place
theorem plF_at {xs : List RfI} {i : Nat} {x : RfI} (h : xs[i]? = some x) : plF xs i = x.place := by unfold plF; rw [List.getD_eq_getElem?_getD, h]; rfl
/-- The first least one of those of which it is said so. -/
def lstF (is : Nat → Bool) (pl : Nat → Int) : Nat → Nat × Bool
  | 0 => (0, false)
  | i + 1 => if is i = true ∧ ((lstF is pl i).2 = false ∨ pl i < pl (lstF is pl i).1) then (i, true) else lstF is pl i
theorem lstF_lt (is : Nat → Bool) (pl : Nat → Int) : ∀ i, (lstF is pl i).2 = true → (lstF is pl i).1 < i
  | 0, h => by simp [lstF] at h
  | i + 1, h => by
    rw [lstF] at h ⊢
    split
    · omega
    · rename_i h2
      rw [if_neg h2] at h
      have := lstF_lt is pl i h
      omega
theorem lstF_le (is : Nat → Bool) (pl : Nat → Int) : ∀ i, (lstF is pl i).1 ≤ i
  | 0 => Nat.le_refl _
  | i + 1 => by
    have := lstF_le is pl i
    rw [lstF]
    split
    · exact Nat.le_succ i
    · omega
set_option maxHeartbeats 800000 in
theorem sless_any {w : World} {S : Nat → Prop} {A : Option Addr} {n c i k : Nat} {xs : List RfI} (R : RdL RfIR 3 S w A n xs) (hn : n ≤ 1000000) (hi : i < n) (hk : k < n) :
    Calls Tryz.prog 113 #[.slice A n c, .int .i64 (i : Int), .int .i64 (k : Int)] w fun e w' => e = .returned (.bool (decide (plF xs i < plF xs k))) ∧ Below w.heap.size w w' := by
  obtain ⟨b, o, x, rfl, hx, hb, _, x0, x1, x2⟩ := rfi_at R hi
  obtain ⟨b2, o2, y, e, hy, _, _, y0, y1, y2⟩ := rfi_at R hk
  injection e with e
  injection e with e1 e2 _
  subst e1; subst e2
  rw [plF_at hx, plF_at hy]
  clear hx hy R
  go_enter Tryz.func113, Tryz.ntmps113
  go_wp2_with fail
  refine wp_region_later (by kernel_rfl) (by kernel_rfl) ?_
  repeat (go_big_quiet_step (fail))
  refine wpQuiet_nil ?_
  rintro _ ⟨z, rfl⟩
  go_wp2_with fail
  go_ret
  exact ⟨rfl, (by repeat (first | (with_reducible exact Below.refl _ _) | (with_reducible assumption) | (with_reducible refine Below.drew ?_) | (with_reducible refine Below.setCell ?_ ?_ _) | (with_reducible refine Below.alloc ?_ ?_ _) | (with_reducible refine Below.later ?_ ?_ _) | (first | (with_reducible exact Nat.le_refl _) | omega | (simp only [World.size_alloc, World.size_setCell, World.size_drew] <;> omega))))⟩
/-! ### the scrubber -/
def scrC (began : Bool) (place turns : Int) : Array Value := #[.bool true, .bool began, .int .i64 place, .int .i64 turns]
set_option maxHeartbeats 800000 in
theorem sn1_any {w : World} {p s : Nat} {began : Bool} {place turns : Int} {r : RfI} (hp : BoxAt w p #[.pointer (some ⟨s, 0, none⟩)]) (hs : BoxAt w s (scrC began place turns)) :
    Calls Tryz.prog 115 #[.agg r.C, .pointer (some ⟨p, 0, none⟩)] w fun e w' => e = .returned (.bool (!began || decide (r.place > place))) ∧ Below w.heap.size w w' := by
  have k0 := hp.cell 0
  have s1 : w.cell? ⟨s, 1, none⟩ = some (.bool began) := hs.cell 1
  have s2 : w.cell? ⟨s, 2, none⟩ = some (.int .i64 place) := hs.cell 2
  have hpl := hp.lt
  have hsl := hs.lt
  obtain ⟨rk, rp, rg⟩ := r
  unfold RfI.C
  clear hp hs
  cases began with
  | false =>
    go_enter Tryz.func115, Tryz.ntmps115
    go_wp2_with fail
    refine wp_region_later (by kernel_rfl) (by kernel_rfl) ?_
    repeat (go_big_quiet_step (fail))
    refine wpQuiet_nil ?_
    rintro _ ⟨z, rfl⟩
    go_wp2_with fail
    go_ret
    exact ⟨rfl, (by repeat (first | (with_reducible exact Below.refl _ _) | (with_reducible assumption) | (with_reducible refine Below.drew ?_) | (with_reducible refine Below.setCell ?_ ?_ _) | (with_reducible refine Below.alloc ?_ ?_ _) | (with_reducible refine Below.later ?_ ?_ _) | (first | (with_reducible exact Nat.le_refl _) | omega | (simp only [World.size_alloc, World.size_setCell, World.size_drew] <;> omega))))⟩
  | true =>
    go_enter Tryz.func115, Tryz.ntmps115
    go_wp2_with fail
    refine wp_region_later (by kernel_rfl) (by kernel_rfl) ?_
    repeat (go_big_quiet_step (fail))
    refine wpQuiet_nil ?_
    rintro _ ⟨z, rfl⟩
    go_wp2_with fail
    go_ret
    exact ⟨by simp, (by repeat (first | (with_reducible exact Below.refl _ _) | (with_reducible assumption) | (with_reducible refine Below.drew ?_) | (with_reducible refine Below.setCell ?_ ?_ _) | (with_reducible refine Below.alloc ?_ ?_ _) | (with_reducible refine Below.later ?_ ?_ _) | (first | (with_reducible exact Nat.le_refl _) | omega | (simp only [World.size_alloc, World.size_setCell, World.size_drew] <;> omega))))⟩
theorem sn2_any {w : World} {r : RfI} : Calls Tryz.prog 116 #[.agg r.C] w fun e w' => e = .returned (.bool true) ∧ Below w.heap.size w w' := by
  unfold RfI.C
  go_enter Tryz.func116, Tryz.ntmps116
  go_wp2_with fail
  go_ret
  exact ⟨rfl, (by repeat (first | (with_reducible exact Below.refl _ _) | (with_reducible assumption) | (with_reducible refine Below.drew ?_) | (with_reducible refine Below.setCell ?_ ?_ _) | (with_reducible refine Below.alloc ?_ ?_ _) | (with_reducible refine Below.later ?_ ?_ _) | (first | (with_reducible exact Nat.le_refl _) | omega | (simp only [World.size_alloc, World.size_setCell, World.size_drew] <;> omega))))⟩
theorem call_sl (args : Array Value) (w : World) : (callFunc 113 args).run Tryz.prog w = .ok (.enter 113 args) w := by go_simp
theorem call_sn1 (args : Array Value) (w : World) : (callFunc 115 args).run Tryz.prog w = .ok (.enter 115 args) w := by go_simp
theorem call_sn2 (args : Array Value) (w : World) : (callFunc 116 args).run Tryz.prog w = .ok (.enter 116 args) w := by go_simp
end
section
theorem un_ibmap : Tryz.prog.underlying 116 = some (.map 3 4) := by kernel_rfl
theorem kt_intL : KeyTy Tryz.prog 3 (Value.int .i64) := keyTy_int (by kernel_rfl)
/-- A contract of a call that tells how many rows there are. -/
def CNt (w : World) (vc : Value) (N : Nat) : Prop := ∀ W, Below w.heap.size w W → Calls Tryz.prog 57 #[vc] W fun e w' => e = .returned (.int .i64 (N : Int)) ∧ Below W.heap.size W w'
theorem CNt.below {w w' : World} {vc : Value} {N : Nat} (h : CNt w vc N) (hb : Below w.heap.size w w') : CNt w' vc N := fun W hW => h W (hb.trans (hW.mono hb.size))
def drvE (l : List Nat) : List (Int × Value) := l.map fun d : Nat => ((d : Int), Value.bool true)
theorem drvE_new (i : Nat) : mput (drvE (List.range i)) (i : Int) (.bool true) = drvE (List.range (i + 1)) := by
  rw [mput_new _ _ _ (fun p hp => by
    obtain ⟨d, hd, rfl⟩ := List.mem_map.1 hp
    have := List.mem_range.1 hd
    show (d : Int) ≠ i
    omega)]
  unfold drvE
  rw [List.range_succ, List.map_append]
  rfl
theorem mdel_drv {d0 : Nat} : ∀ (l : List Nat), l.Nodup → mdel (drvE l) (d0 : Int) = drvE (l.filter fun d => decide (d ≠ d0))
  | [], _ => rfl
  | x :: l, h => by
    have h2 := List.nodup_cons.1 h
    have ih := mdel_drv (d0 := d0) l h2.2
    show (if ((x : Int) = (d0 : Int)) then drvE l else ((x : Int), Value.bool true) :: mdel (drvE l) d0) = _
    by_cases e : x = d0
    · subst e
      rw [if_pos rfl, List.filter_cons_of_neg (by simp), List.filter_eq_self.2 (fun a ha => by
        have : a ≠ x := fun e => h2.1 (e ▸ ha)
        simpa using this)]
    · rw [if_neg (by omega), List.filter_cons_of_pos (by simpa using e), ih]
      rfl
set_option maxHeartbeats 4000000 in
theorem ldrives_any {w : World} {vc : Value} {N : Nat} (hN : CNt w vc N) (hN2 : N ≤ 255) :
    Calls Tryz.prog 63 #[vc] w fun e w' => ∃ mb, e = .returned (.map (some mb)) ∧ MapAt (Value.int .i64) w' mb (drvE (List.range N)) ∧ Below w.heap.size w w' ∧ w.heap.size ≤ mb := by
  have hmm := @run_makeMap Tryz.prog
  have hb0 : Below w.heap.size w (w.alloc (.map #[] 0)) := (Below.refl _ _).alloc (Nat.le_refl _) _
  have hm0 : MapAt (Value.int .i64) (w.alloc (.map #[] 0)) w.heap.size (drvE (List.range 0)) := MapAt.new _ w
  have hn := hN _ hb0
  obtain ⟨wA, hwA⟩ : ∃ wA, w.alloc (.map #[] 0) = wA := ⟨_, rfl⟩
  rw [hwA] at hb0 hm0 hn
  obtain ⟨mb, hmb⟩ : ∃ mb, w.heap.size = mb := ⟨_, rfl⟩
  have HMB := Lib.hid hmb
  rw [hmb] at hm0
  have hN3 : (N : Int) ≤ 255 := by omega
  clear hN
  go_enter Tryz.func63, Tryz.ntmps63
  go_wp2_with fail
  refine hn.mono ?_
  clear hn
  rintro e w1 ⟨rfl, hb1⟩
  have HM := Lib.hid (hm0.below hb1)
  have HB := Lib.hid (hb0.trans (hb1.mono hb0.size))
  clear hm0 hb1 hb0 hmm hwA
  go_wp2_with fail
  go_loopw [8] (fun vi wr => ∃ i : Nat, i ≤ N ∧ vi = .int .i64 i ∧ Hid (MapAt (Value.int .i64) wr mb (drvE (List.range i))) ∧ Hid (Below w.heap.size w wr)) (fun vi _ => N - (intOf vi).toNat)
  case atStart => exact ⟨0, Nat.zero_le _, rfl, HM, HB⟩
  case round =>
    clear HM HB
    obtain ⟨i, hi, rfl, HM, HB⟩ := hrel
    have p0 : (0 : Int) ≤ (i : Int) := Int.natCast_nonneg _
    by_cases hlt : i < N
    · have p1 : (i : Int) < (N : Int) := by omega
      obtain ⟨w5, hu, hm5, hg5, hs5⟩ := run_mapUpdate kt_intL un_ibmap HM.out (i : Int) (.bool true)
      rw [drvE_new] at hm5
      have HM5 := Lib.hid hm5
      have HB5 := Lib.hid (HB.out.grown hg5 HB.out.size (fun j hj => by injection hj with hj; have := HMB.out; omega))
      clear hm5 hg5 hs5
      go_wp2_with fail
      exact ⟨⟨i + 1, by omega, by go_num, HM5, HB5⟩, by simp [intOf]; omega⟩
    · have p1 : ¬ (i : Int) < (N : Int) := by omega
      obtain rfl : i = N := by omega
      go_wp2_with fail
      go_ret
      exact ⟨mb, rfl, HM.out, (by rw [← HMB.out]; exact HB.out), (by rw [← HMB.out]; exact Nat.le_refl _)⟩
/-! ### Spots -/
def missL (g : Nat → Bool) (N : Nat) : List Nat := (List.range N).filter fun d => !g d
def missZ (g : Nat → Bool) (N : Nat) : List Int := (missL g N).map fun d : Nat => (d : Int)
theorem missZ_len (g : Nat → Bool) (N : Nat) : (missZ g N).length = (missL g N).length := by unfold missZ; rw [List.length_map]
theorem missZ_up (g : Nat → Bool) (N : Nat) : (missZ g N).Pairwise fun x y => x < y := by
  unfold missZ missL
  refine List.pairwise_map.2 ((List.Pairwise.filter _ List.pairwise_lt_range).imp fun h => by omega)
/-- What Whole tells of a stripe: by drives. -/
def WhOk (g : Nat → Bool) (N : Nat) (place : Int) (ws : List Bool) : Prop := (ws = [] ∧ ∀ d, d < N → g d = false) ∨ ∃ p : Nat, place = p ∧ ws = (List.range N).map fun i => g (homeN N p i)
/-- A contract of Whole. -/
def WhC (w : World) (va vc : Value) (r : RfI) (g : Nat → Bool) (N : Nat) : Prop := ∀ W, Below w.heap.size w W → Calls Tryz.prog 64 #[va, vc, .agg r.C] W fun e w' => ∃ A L c ws, e = .returned (.slice A L c) ∧ L ≤ c ∧ RdL BoolR 1 (fun j => W.heap.size ≤ j) w' A L ws ∧ WhOk g N r.place ws ∧ Below W.heap.size W w'
theorem WhC.below {w w' : World} {va vc : Value} {r : RfI} {g : Nat → Bool} {N : Nat} (h : WhC w va vc r g N) (hb : Below w.heap.size w w') : WhC w' va vc r g N := fun W hW => h W (hb.trans (hW.mono hb.size))
/-- Which drives stand yet behind i of the shards. -/
def leftD (g : Nat → Bool) (N p i : Nat) : List Nat := (List.range N).filter fun d => !(g d && decide (ixN N p d < i))
theorem leftD_zero (g : Nat → Bool) (N p : Nat) : leftD g N p 0 = List.range N := List.filter_eq_self.2 fun d _ => by simp
theorem leftD_none {g : Nat → Bool} {N : Nat} (h : ∀ d, d < N → g d = false) : missL g N = List.range N := List.filter_eq_self.2 fun d hd => by rw [h d (List.mem_range.1 hd)]; rfl
theorem leftD_all (g : Nat → Bool) {N p : Nat} (hN : 1 ≤ N) : leftD g N p N = missL g N := by
  refine List.filter_congr fun d hd => ?_
  rw [decide_eq_true (ixN_lt hN), Bool.and_true]
theorem leftD_nodup (g : Nat → Bool) (N p i : Nat) : (leftD g N p i).Nodup := List.Pairwise.filter _ List.nodup_range
theorem leftD_del {g : Nat → Bool} {N p i : Nat} (hi : i < N) (hg : g (homeN N p i) = true) : (leftD g N p i).filter (fun d => decide (d ≠ homeN N p i)) = leftD g N p (i + 1) := by
  unfold leftD
  rw [List.filter_filter]
  refine List.filter_congr fun d hd => ?_
  have hd := List.mem_range.1 hd
  by_cases e : d = homeN N p i
  · subst e
    rw [ix_home (by omega) hi, hg]
    simp
  · have h1 : ixN N p d ≠ i := fun h => e (by rw [← h, home_ix (by omega) hd])
    rw [decide_eq_true (show d ≠ homeN N p i from e), Bool.true_and]
    congr 2
    exact decide_eq_decide.2 (by omega)
theorem leftD_keep {g : Nat → Bool} {N p i : Nat} (hi : i < N) (hg : g (homeN N p i) = false) : leftD g N p i = leftD g N p (i + 1) := by
  unfold leftD
  refine List.filter_congr fun d hd => ?_
  have hd := List.mem_range.1 hd
  by_cases e : d = homeN N p i
  · subst e
    rw [hg]
    simp
  · have h1 : ixN N p d ≠ i := fun h => e (by rw [← h, home_ix (by omega) hd])
    congr 2
    exact decide_eq_decide.2 (by omega)
theorem drvE_del {g : Nat → Bool} {N p i : Nat} (hi : i < N) (hg : g (homeN N p i) = true) : mdel (drvE (leftD g N p i)) (homeN N p i : Int) = drvE (leftD g N p (i + 1)) := by
  rw [mdel_drv _ (leftD_nodup g N p i), leftD_del hi hg]
end
section
theorem run_del {w : World} {mb : Nat} {es : List (Int × Value)} (hm : MapAt (Value.int .i64) w mb es) (k : Int) (K2 ty : TypeId) : ∃ w', (Builtin.delete_ #[116, K2] ty #[.map (some mb), .int .i64 k]).run Tryz.prog w = .ok (.tuple #[]) w' ∧ MapAt (Value.int .i64) w' mb (mdel es k) ∧ w.grownBy w' (some mb) ∧ w'.heap.size = w.heap.size := run_delete kt_intL un_ibmap hm k K2 ty
structure Plan (g : Nat → Bool) (N : Nat) (place : Int) (ws : List Bool) (D : Nat → List Nat) : Prop where
  z : D 0 = List.range N
  l : D ws.length = missL g N
  s : ∀ i x, ws[i]? = some x → 1 ≤ N ∧ ∃ p : Nat, place = p ∧ (x = true → mdel (drvE (D i)) (homeN N p i : Int) = drvE (D (i + 1))) ∧ (x = false → D i = D (i + 1))
  sub : ∀ i, ∀ d ∈ D i, d < N
theorem WhOk.plan {g : Nat → Bool} {N : Nat} {place : Int} {ws : List Bool} (h : WhOk g N place ws) : ∃ D, Plan g N place ws D := by
  rcases h with ⟨rfl, h⟩ | ⟨p, rfl, rfl⟩
  · exact ⟨fun _ => List.range N, rfl, (leftD_none h).symm, fun i x hx => by simp at hx, fun i d hd => List.mem_range.1 hd⟩
  · refine ⟨leftD g N p, leftD_zero g N p, ?_, fun i x hx => ?_, fun i d hd => List.mem_range.1 (List.mem_filter.1 hd).1⟩
    · rw [List.length_map, List.length_range]
      by_cases h1 : 1 ≤ N
      · exact leftD_all g h1
      · obtain rfl : N = 0 := by omega
        rfl
    · rw [List.getElem?_map] at hx
      by_cases hi : i < N
      · rw [List.getElem?_range hi] at hx
        obtain rfl := Option.some.inj hx
        exact ⟨by omega, p, rfl, fun h => drvE_del hi h, fun h => leftD_keep hi h⟩
      · rw [List.getElem?_eq_none (by rw [List.length_range]; omega)] at hx
        cases hx
set_option maxRecDepth 100000 in
set_option maxHeartbeats 16000000 in
theorem spots_any {w : World} {va vc : Value} {r : RfI} {g : Nat → Bool} {N : Nat} (hN : CNt w vc N) (hW : WhC w va vc r g N) (hN2 : N ≤ 255) :
    Calls Tryz.prog 21 #[va, vc, .agg r.C] w fun e w' => ∃ A c, e = .returned (.slice A (missL g N).length c) ∧ (missL g N).length ≤ c ∧ RdL IntR 1 (fun j => w.heap.size ≤ j) w' A (missL g N).length (missZ g N) ∧ Below w.heap.size w w' := by
  obtain ⟨rk, rp, rg⟩ := r
  have hb0 : Below w.heap.size w (w.alloc (.cells #[.int .u8 rk, .int .i64 rp, .int .u64 rg] 38)) := (Below.refl _ _).alloc (Nat.le_refl _) _
  have bR := BoxAt.new w #[.int .u8 rk, .int .i64 rp, .int .u64 rg] 38
  obtain ⟨wA, hwA⟩ : ∃ wA, w.alloc (.cells #[.int .u8 rk, .int .i64 rp, .int .u64 rg] 38) = wA := ⟨_, rfl⟩
  obtain ⟨q, hq⟩ : ∃ q, w.heap.size = q := ⟨_, rfl⟩
  rw [hwA] at hb0 bR
  have hd := ldrives_any (hN.below hb0) hN2
  have HQ := Lib.hid hq
  rw [hq] at bR
  have HN := Lib.hid hN
  have HW := Lib.hid hW
  have HB0 := Lib.hid hb0
  have BR := Lib.hid bR
  unfold RfI.C
  dsimp only
  clear hN hW hb0 bR
  go_enter Tryz.func21, Tryz.ntmps21
  go_wp2_with fail
  refine hd.mono ?_
  clear hd hwA
  rintro e w1 ⟨mb, rfl, hm1, hb1, hmb⟩
  have HB1 := Lib.hid (HB0.out.trans (hb1.mono HB0.out.size))
  have hw := HW.out w1 HB1.out
  have bR1 := BR.out.below hb1
  have k0 := bR1.cell 0
  have k1 := bR1.cell 1
  have k2 := bR1.cell 2
  have HM1 := Lib.hid hm1
  have BR1 := Lib.hid bR1
  have HM2lt := Lib.hid (show mb < w1.heap.size from hm1.lt)
  have hqm : q < mb := by have := BR.out.lt; omega
  have HQM := Lib.hid hqm
  unfold RfI.C at hw
  dsimp only at hw
  clear hb1 hmb hm1 bR1 HB0 BR
  go_wp2_with fail
  refine hw.mono ?_
  clear hw k0 k1 k2
  rintro e w2 ⟨A, L, c, ws, rfl, hLc, hRW, hWO, hb2⟩
  have HB2 := Lib.hid (HB1.out.trans (hb2.mono HB1.out.size))
  have HM2 := Lib.hid (HM1.out.below hb2)
  have BR2 := Lib.hid (BR1.out.below hb2)
  have HRW := Lib.hid hRW
  have hwl := hRW.1
  have HWO := Lib.hid hWO
  have hL2 : L ≤ N := by
    rcases hWO with ⟨e, _⟩ | ⟨p, _, e⟩
    · rw [e] at hwl; simp at hwl; omega
    · rw [e] at hwl; simp at hwl; omega
  have hN3 : (N : Int) ≤ 255 := by omega
  have hL3 : (L : Int) ≤ 255 := by omega
  have HWL := Lib.hid hwl
  obtain ⟨D, hD⟩ := HWO.out.plan
  have HD := Lib.hid hD
  have HM2' := Lib.hid (show MapAt (Value.int .i64) w2 mb (drvE (D 0)) by rw [hD.z]; exact HM2.out)
  clear hb2 HB1 HM1 BR1 hRW hWO hwl HWO hD HM2
  go_wp2_with fail
  go_loopw [17] (fun vi wr => ∃ i : Nat, i ≤ L ∧ vi = .int .i64 i ∧ Hid (MapAt (Value.int .i64) wr mb (drvE (D i))) ∧ Hid (Below w.heap.size w wr) ∧ Hid (Keep (fun j => j = mb) w2 wr)) (fun vi _ => L - (intOf vi).toNat)
  case atStart => exact ⟨0, Nat.zero_le _, rfl, HM2', HB2, Lib.hid (Keep.refl _ _)⟩
  case round =>
    clear HM2'
    obtain ⟨i, hi, rfl, HM, HB, HK⟩ := hrel
    have p0 : (0 : Int) ≤ (i : Int) := Int.natCast_nonneg _
    by_cases hlt : i < L
    · have p1 : (i : Int) < (L : Int) := by omega
      obtain ⟨b, o, x, eA, hx, v0⟩ := bool_at (HRW.out.keep BoolR.stable HK.out (fun j hj e => by have := HM2lt.out; omega)) hlt
      subst eA
      obtain ⟨hN1, p, erp, ht, hf⟩ := HD.out.s i x hx
      subst erp
      cases x with
      | false =>
        rw [hf rfl] at HM
        clear hx ht hf
        go_wp2_with fail
        exact ⟨⟨i + 1, by omega, by go_num, HM, HB, HK⟩, by simp [intOf]; omega⟩
      | true =>
        have HT := Lib.hid (ht rfl)
        have hdr : Below wr.heap.size wr wr.drew := (Below.refl _ _).drew
        have hn := HN.out wr.drew HB.out.drew
        have hho := fun W => home_any (w := W) (n := N) (place := p) (i := i) hN1 (by omega)
        have bRr := (BR2.out.keeps HK.out (by have := HQM.out; omega)).below hdr
        have s0 : wr.drew.cell? ⟨q, 1, none⟩ = some (.int .i64 (p : Int)) := bRr.cell 1
        have BRr := Lib.hid bRr
        have HMr := Lib.hid (HM.out.below hdr)
        have HKr := Lib.hid (HK.out.trans (Keep.of_below (F := fun j => j = mb) hdr) (fun _ h _ => h))
        have HBr := Lib.hid HB.out.drew
        clear hx ht hf bRr hdr HM HK HB
        go_wp2_with fail
        refine wp_region_held_drew (S := fun w' => w'.cell? ⟨q, 1, none⟩ = some (.int .i64 (p : Int))) (by kernel_rfl) (by first | exact s0 | exact s5 | exact s6 | exact s7) (fun hHeld => ?_)
        refine wpAnyH_take (i := 0) (v := ?_) rfl (by kernel_rfl) (by kernel_rfl) (by kernel_rfl) (fun _ _ _ h => h) (Or.inl ⟨by first | kernel_rfl | rfl, ?_⟩) (by assumption) ?_
        rotate_left
        · (intro wq hSw; (try dsimp only at hSw); (try simp (maxSteps := 2000000) only [zz1, zz2, zz3]); go_simp); try with_reducible rfl
        try simp (maxSteps := 2000000) only [zz1, zz2, zz3, Act.put, zz4, zz5, zz6]
        refine wpAnyH_take (i := 1) (v := ?_) rfl (by kernel_rfl) (by kernel_rfl) (by kernel_rfl) (fun _ _ _ h => h) (Or.inl ⟨by first | kernel_rfl | rfl, ?_⟩) (by assumption) ?_
        rotate_left
        · (intro wq hSw; (try dsimp only at hSw); (try simp (maxSteps := 2000000) only [zz1, zz2, zz3]); go_simp); try with_reducible rfl
        try simp (maxSteps := 2000000) only [zz1, zz2, zz3, Act.put, zz4, zz5, zz6]
        refine wpAnyH_take (i := 3) (v := ?_) rfl (by kernel_rfl) (by kernel_rfl) (by kernel_rfl) (fun _ _ _ h => h) (Or.inl ⟨by first | kernel_rfl | rfl, ?_⟩) (by assumption) ?_
        rotate_left
        · (intro wq hSw; (try dsimp only at hSw); (try simp (maxSteps := 2000000) only [zz1, zz2, zz3]); go_simp); try with_reducible rfl
        try simp (maxSteps := 2000000) only [zz1, zz2, zz3, Act.put, zz4, zz5, zz6]
        refine wpAnyH_take (i := 4) (v := ?_) rfl (by kernel_rfl) (by kernel_rfl) (by kernel_rfl) (fun _ _ _ h => h) (Or.inl ⟨by first | kernel_rfl | rfl, ?_⟩) (by assumption) ?_
        rotate_left
        · (intro wq hSw; (try dsimp only at hSw); (try simp (maxSteps := 2000000) only [zz1, zz2, zz3]); go_simp); try with_reducible rfl
        try simp (maxSteps := 2000000) only [zz1, zz2, zz3, Act.put, zz4, zz5, zz6]
        refine wpAnyH_take (i := 5) (v := ?_) rfl (by kernel_rfl) (by kernel_rfl) (by kernel_rfl) (fun _ _ _ h => h) (Or.inl ⟨by first | kernel_rfl | rfl, ?_⟩) (by assumption) ?_
        rotate_left
        · (intro wq hSw; (try dsimp only at hSw); (try simp (maxSteps := 2000000) only [zz1, zz2, zz3]); go_simp); try with_reducible rfl
        try simp (maxSteps := 2000000) only [zz1, zz2, zz3, Act.put, zz4, zz5, zz6]
        refine wpAnyH_ready (rs := [2]) (by kernel_rfl) (by simp) ?_
        refine AllReadyH.cons rfl (fun K hK => ?_) AllReadyH.nil
        try simp (maxSteps := 2000000) only [zz1, zz2, zz3]
        go_simp
        go_at_call 57
        refine hn.mono ?_
        clear hn
        rintro e w5 ⟨rfl, hb5⟩
        have s5 : w5.cell? ⟨q, 1, none⟩ = some (.int .i64 (p : Int)) := (BRr.out.below hb5).cell 1
        have HM5 := Lib.hid (HMr.out.below hb5)
        have HB5 := Lib.hid (HBr.out.trans (hb5.mono HBr.out.size))
        have HK5 := Lib.hid (HKr.out.trans (Keep.of_below (F := fun j => j = mb) hb5) (fun _ h _ => h))
        have BR5 := Lib.hid (BRr.out.below hb5)
        clear hb5
        try (go_wp2_with fail)
        refine hK.out _ _ (by first | exact s0 | exact s5 | exact s6 | exact s7) (fun hHeld => ?_)
        clear hK K
        try simp (maxSteps := 2000000) only [zz1, zz2, zz3, Act.put, zz4, zz5, zz6]
        refine wpAnyH_ready (rs := [6]) (by kernel_rfl) (by simp) ?_
        refine AllReadyH.cons rfl (fun K hK => ?_) AllReadyH.nil
        try simp (maxSteps := 2000000) only [zz1, zz2, zz3]
        go_simp
        go_at_call 65
        refine (hho _).mono ?_
        clear hho
        rintro e w6 ⟨rfl, hb6⟩
        have s6 : w6.cell? ⟨q, 1, none⟩ = some (.int .i64 (p : Int)) := (BR5.out.below hb6).cell 1
        have hm6 := HM5.out.below hb6
        have HM6 := Lib.hid hm6
        have HB6 := Lib.hid (HB5.out.trans (hb6.mono HB5.out.size))
        have HK6 := Lib.hid (HK5.out.trans (Keep.of_below (F := fun j => j = mb) hb6) (fun _ h _ => h))
        have BR6 := Lib.hid (BR5.out.below hb6)
        obtain ⟨w7, hdl, hm7, hg7, hs7⟩ := run_del hm6 (homeN N p i : Int) 3 0
        rw [HT.out] at hm7
        have HM7 := Lib.hid hm7
        have s7 : w7.cell? ⟨q, 1, none⟩ = some (.int .i64 (p : Int)) := (BR6.out.grw hg7 (by intro e; injection e with e; have := HQM.out; omega)).cell 1
        have HB7 := Lib.hid (HB6.out.grown hg7 HB6.out.size (fun j hj => by injection hj with hj; have := HQM.out; have := HQ.out; omega))
        have HK7 := Lib.hid (HK6.out.trans (Keep.of_grown hg7) (fun j hj _ => by injection hj))
        clear hb6 hm6 hm7 hg7 hs7
        try (go_wp2_with fail)
        refine hK.out _ _ (by first | exact s0 | exact s5 | exact s6 | exact s7) (fun hHeld => ?_)
        clear hK K
        try simp (maxSteps := 2000000) only [zz1, zz2, zz3, Act.put, zz4, zz5, zz6]
        refine wpAnyH_ready (rs := [7]) (by kernel_rfl) (by simp) ?_
        refine AllReadyH.cons rfl (fun K hK => ?_) AllReadyH.nil
        try simp (maxSteps := 2000000) only [zz1, zz2, zz3]
        go_simp
        refine hK.out _ _ (by first | exact s0 | exact s5 | exact s6 | exact s7) (fun hHeld => ?_)
        clear hK K
        try simp (maxSteps := 2000000) only [zz1, zz2, zz3, Act.put, zz4, zz5, zz6]
        refine wpAnyH_done (by kernel_rfl) ?_ _
        go_wp2_with fail
        exact ⟨⟨i + 1, by omega, by go_num, HM7, HB7, HK7⟩, by simp [intOf]; omega⟩
    · have p1 : ¬ (i : Int) < (L : Int) := by omega
      obtain rfl : i = L := by omega
      have hm := HM.out
      have hDl := HD.out.l
      rw [HWL.out] at hDl
      rw [hDl] at hm
      have hkw := keysI_it (some mb) wr
      have wA : Below wr.heap.size wr (wr.alloc (.cells #[.map (some mb)] 116)) := (Below.refl _ _).alloc (Nat.le_refl _) _
      have hml : (missL g N).length ≤ 255 := by
        have := List.length_filter_le (fun d => !g d) (List.range N)
        rw [List.length_range] at this
        unfold missL
        omega
      have hmap : (drvE (missL g N)).map (·.1) = missZ g N := by unfold drvE missZ; rw [List.map_map]; rfl
      have hel : (drvE (missL g N)).length ≤ 1000000 := by unfold drvE; simp only [List.length_map]; omega
      have cS := sortedK_any (xs := missZ g N) (hm.below wA) (p := wr.heap.size) ((BoxAt.new wr #[.map (some mb)] 116).cell 0) (by rw [World.size_alloc]; omega) (fun x hx => by
        obtain ⟨d, hd, rfl⟩ := List.mem_map.1 hx
        have h1 : d < N := List.mem_range.1 (List.mem_filter.1 hd).1
        show (Lit.int IntKind.i64 (d : Int)).wf = true
        have h2 : IntKind.i64.min = -9223372036854775808 := by decide
        have h3 : IntKind.i64.max = 9223372036854775807 := by decide
        show (decide (IntKind.i64.min ≤ (d : Int)) && decide ((d : Int) ≤ IntKind.i64.max)) = true
        rw [h2, h3, Bool.and_eq_true, decide_eq_true_eq, decide_eq_true_eq]
        omega) hel (by rw [hmap]) (missZ_up g N)
      rw [missZ_len] at cS
      obtain ⟨M, hMl⟩ : ∃ M, (missL g N).length = M := ⟨_, rfl⟩
      rw [hMl] at cS hml
      have HML := Lib.hid hMl
      have HBA := Lib.hid (HB.out.trans (wA.mono HB.out.size))
      have hs1 : w.heap.size ≤ (wr.alloc (.cells #[.map (some mb)] 116)).heap.size := HBA.out.size
      have HS1 := Lib.hid hs1
      clear hm hDl wA hmap hMl hs1
      go_wp2_with fail
      refine hkw.mono ?_
      clear hkw
      rintro e w8 ⟨rfl, h8⟩
      subst h8
      go_wp2_with fail
      refine cS.mono ?_
      clear cS
      rintro e w9 ⟨A, c9, rfl, hc9, hr9, hb9⟩
      have HR9 := Lib.hid (hr9.weaken (S' := fun j => w.heap.size ≤ j) IntR.stable (fun j hj => Nat.le_trans HS1.out hj))
      have HB9 := Lib.hid (HBA.out.trans (hb9.mono HBA.out.size))
      clear hr9 hb9
      go_wp2_with fail
      go_ret
      have hM := HML.out
      subst hM
      exact ⟨A, c9, rfl, hc9, HR9.out, HB9.out⟩
set_option maxHeartbeats 4000000 in
theorem missing_any {w : World} {va vc : Value} {r : RfI} {g : Nat → Bool} {N : Nat} (hN : CNt w vc N) (hW : WhC w va vc r g N) (hN2 : N ≤ 255) :
    Calls Tryz.prog 23 #[va, vc, .agg r.C] w fun e w' => e = .returned (.int .i64 ((missL g N).length : Nat)) ∧ Below w.heap.size w w' := by
  have hb0 : Below w.heap.size w (w.alloc (.cells r.C 38)) := (Below.refl _ _).alloc (Nat.le_refl _) _
  have hs := spots_any (hN.below hb0) (hW.below hb0) hN2
  obtain ⟨rk, rp, rg⟩ := r
  unfold RfI.C at hb0 hs ⊢
  dsimp only at hb0 hs ⊢
  have HB0 := Lib.hid hb0
  obtain ⟨M, hMl⟩ : ∃ M, (missL g N).length = M := ⟨_, rfl⟩
  rw [hMl] at hs ⊢
  clear hN hW hb0 hMl
  go_enter Tryz.func23, Tryz.ntmps23
  go_wp2_with fail
  refine hs.mono ?_
  clear hs
  rintro e w1 ⟨A, c, rfl, _, _, hb⟩
  have HB := Lib.hid (HB0.out.trans (hb.mono HB0.out.size))
  clear hb
  go_wp2_with fail
  go_ret
  exact ⟨rfl, HB.out⟩
end
end Go.Proofs.YtihnlhfngmbglaaGreat
namespace Go
section
variable {P : Program} {ops : Array Oper} {Q : Exit → Act → World → Prop} {md : Region.Mode} {S : World → Prop} {lst : List Nat}
end
end Go

set_option linter.unusedSimpArgs false
set_option linter.unusedVariables false
namespace Go.Proofs.YtihnlhfngmbglaaGreat
open Go.RowKit Go.Cib
attribute [local go_sem] cell_set Later.cell Later.frozen Grw.cell Grw.frozen
section
end
section
theorem run_max_l (ts : Array TypeId) (t : TypeId) (x y : Int) (w : World) : (Builtin.max_ ts t #[.int .i64 x, .int .i64 y]).run Tryz.prog w = .ok (.int .i64 (max x y)) w := by
  rw [run_max_int2, show (if x < y then y else x) = max x y by omega]
attribute [local go_sem ↓] run_max_l
section
variable {w : World}
def CMt (w : World) (vc : Value) (m : Nat) : Prop := ∀ W, Below w.heap.size w W → Calls Tryz.prog 58 #[vc] W fun e w' => e = .returned (.int .i64 (m : Int)) ∧ Below W.heap.size W w'
theorem CMt.below {w' : World} {vc : Value} {m : Nat} (h : CMt w vc m) (hb : Below w.heap.size w w') : CMt w' vc m := fun W hW => h W (hb.trans (hW.mono hb.size))
end
end
section
theorem OwnL.kpL {T : Type} {R : (Nat → Prop) → World → List Value → T → Prop} {E : TypeId} {s base n : Nat} {X S S' : Nat → Prop} {w w' : World} {v : Value} {xs : List T} (hR : Stable R) (h : OwnL R E s base S w v n xs) (hk : KpX X w w')
    (hv : ∀ g, v.ownBlock = some g → X g) (hS : ∀ b, S b → b < w.heap.size → X b ∧ S' b) : OwnL R E s base S' w' v n xs := by
  obtain ⟨css, h1, h2, h3, h4, h5⟩ := h
  refine ⟨css, ⟨h1.1, ?_⟩, h2, h3, h4, fun i cs x hc hx => ?_⟩
  · rcases h1.2 with h | ⟨g, cap, cur, rfl, g1, g2, g3⟩
    · exact .inl h
    · exact .inr ⟨g, cap, cur, rfl, g1, (hk.1 g (hv g rfl)).trans g2, g3⟩
  · exact hR _ _ _ _ _ _ (h5 i cs x hc hx) fun b hb hl => ⟨⟨(hS b hb.1 hl).2, hb.2⟩, hk.1 b (hS b hb.1 hl).1⟩
end
section
set_option maxHeartbeats 4000000 in
theorem sleast_any {w : World} {S : Nat → Prop} {A : Option Addr} {n c : Nat} {xs : List RfI} (R : RdL RfIR 3 S w A n xs) (hn : n ≤ 1000000) {g : FuncId} {cap : Array Value} {is : Nat → Bool} (hgg : Hid (∀ args w, (callFunc g args).run Tryz.prog w = .ok (.enter g args) w))
    (hgi : Hid (∀ i x W, xs[i]? = some x → Below w.heap.size w W → Calls Tryz.prog g (#[.agg x.C] ++ cap) W fun e W' => e = .returned (.bool (is i)) ∧ Below W.heap.size W W')) :
    Calls Tryz.prog 114 #[.slice A n c, .func (.func g) #[] cap, .func (.func 113) #[.slice A n c] #[]] w fun e w' => e = .returned (.tuple #[.int .i64 ((lstF is (plF xs) n).1 : Nat), .bool (lstF is (plF xs) n).2]) ∧ Below w.heap.size w w' := by
  have g1 := hgg.out
  have g2 := call_sl
  have q0 : (n : Int) ≤ 1000000 := by omega
  have HR := Lib.hid R
  clear R
  go_enter Tryz.func114, Tryz.ntmps114
  go_wp2_with fail
  go_loopw [8, 9, 14] (fun vb vf vi wr => ∃ (i : Nat), i ≤ n ∧ vi = .int .i64 i ∧ vb = .int .i64 ((lstF is (plF xs) i).1 : Nat) ∧ vf = .bool (lstF is (plF xs) i).2 ∧ Hid (Below w.heap.size w wr)) (fun _ _ vi _ => n - (intOf vi).toNat)
  case atStart => exact ⟨0, Nat.zero_le _, rfl, rfl, rfl, Lib.hid (Below.refl _ _)⟩
  case round =>
    obtain ⟨i, hi, rfl, rfl, rfl, HB⟩ := hrel
    have p0 : (0 : Int) ≤ (i : Int) := Int.natCast_nonneg _
    by_cases hlt : i < n
    · have p1 : (i : Int) < (n : Int) := by omega
      have hle := lstF_le is (plF xs) i
      have HNX := Lib.hid (show lstF is (plF xs) (i + 1) = if is i = true ∧ ((lstF is (plF xs) i).2 = false ∨ plF xs i < plF xs (lstF is (plF xs) i).1) then (i, true) else lstF is (plF xs) i from rfl)
      have HLT := Lib.hid (lstF_lt is (plF xs) i)
      obtain ⟨⟨bi, bf⟩, hbi⟩ : ∃ y, lstF is (plF xs) i = y := ⟨_, rfl⟩
      rw [hbi] at HNX HLT hle ⊢
      dsimp only at HNX HLT hle ⊢
      have p2 : (bi : Int) ≤ (n : Int) := by omega
      have p3 : (0 : Int) ≤ (bi : Int) := Int.natCast_nonneg _
      obtain ⟨b, o, x, eA, hx, hbl, _, x0, x1, x2⟩ := rfi_at (HR.out.below RfIR.stable HB.out) hlt
      have hgi1 := fun W hW => hgi.out i x W hx hW
      have HR1 := Lib.hid (HR.out.below RfIR.stable HB.out)
      have hls := fun W (hW : Below w.heap.size w W) (hh : bi < n) => sless_any (c := c) (HR.out.below RfIR.stable hW) hn hlt hh
      subst eA
      have HBI := Lib.hid hbi
      obtain ⟨rk, rp, rg⟩ := x
      unfold RfI.C at hgi1
      dsimp only at hgi1 x0 x1 x2
      have hb1 : Below w.heap.size w (wr.alloc (.cells #[.int .u8 rk, .int .i64 rp, .int .u64 rg] 38)) := HB.out.alloc HB.out.size _
      clear hbi hx
      cases hii : is i with
      | false =>
        rw [hii] at hgi1
        rw [hii, if_neg (by simp)] at HNX
        clear hii
        go_wp2_with fail
        refine (hgi1 _ hb1).mono ?_
        clear hgi1
        rintro e w3 ⟨rfl, hb3⟩
        have HB3 := Lib.hid (hb1.trans (hb3.mono hb1.size))
        clear hb3 hb1 x0 x1 x2
        go_wp2_with fail
        exact ⟨⟨i + 1, by omega, by go_num, by rw [HNX.out], by rw [HNX.out], HB3⟩, by simp [intOf]; omega⟩
      | true =>
        rw [hii] at hgi1
        rw [hii] at HNX
        clear hii
        have h3 : (wr.alloc (.cells #[.int .u8 rk, .int .i64 rp, .int .u64 rg] 38)).cell? ⟨wr.heap.size, 0, none⟩ = some (.int .u8 rk) := by go_simp
        cases bf with
        | false =>
          rw [if_pos ⟨rfl, .inl rfl⟩] at HNX
          go_wp2_with fail
          refine (hgi1 _ hb1).mono ?_
          clear hgi1
          rintro e w3 ⟨rfl, hb3⟩
          have HB3 := Lib.hid (hb1.trans (hb3.mono hb1.size))
          clear hb3 hb1 x0 x1 x2
          go_wp2_with fail
          exact ⟨⟨i + 1, by omega, by go_num, by rw [HNX.out], by rw [HNX.out], HB3⟩, by simp [intOf]; omega⟩
        | true =>
          have hbn : bi < n := by have := HLT.out rfl; omega
          have hl1 := fun W hW => hls W hW hbn
          by_cases hpl : plF xs i < plF xs bi
          · rw [if_pos ⟨rfl, .inr hpl⟩] at HNX
            rw [decide_eq_true hpl] at hl1
            clear hpl hls
            go_wp2_with fail
            refine (hgi1 _ hb1).mono ?_
            clear hgi1
            rintro e w3 ⟨rfl, hb3⟩
            have hb4 := hb1.trans (hb3.mono hb1.size)
            clear hb3 hb1 x0 x1 x2
            go_wp2_with fail
            refine (hl1 _ hb4).mono ?_
            clear hl1
            rintro e w4 ⟨rfl, hb5⟩
            have HB5 := Lib.hid (hb4.trans (hb5.mono hb4.size))
            clear hb4 hb5
            go_wp2_with fail
            exact ⟨⟨i + 1, by omega, by go_num, by rw [HNX.out], by rw [HNX.out], HB5⟩, by simp [intOf]; omega⟩
          · rw [if_neg (by simp [hpl])] at HNX
            rw [decide_eq_false hpl] at hl1
            clear hpl hls
            go_wp2_with fail
            refine (hgi1 _ hb1).mono ?_
            clear hgi1
            rintro e w3 ⟨rfl, hb3⟩
            have hb4 := hb1.trans (hb3.mono hb1.size)
            clear hb3 hb1 x0 x1 x2
            go_wp2_with fail
            refine (hl1 _ hb4).mono ?_
            clear hl1
            rintro e w4 ⟨rfl, hb5⟩
            have HB5 := Lib.hid (hb4.trans (hb5.mono hb4.size))
            clear hb4 hb5
            go_wp2_with fail
            exact ⟨⟨i + 1, by omega, by go_num, by rw [HNX.out], by rw [HNX.out], HB5⟩, by simp [intOf]; omega⟩
    · have p1 : ¬ (i : Int) < (n : Int) := by omega
      obtain rfl : i = n := by omega
      go_wp2_with fail
      go_ret2
      exact ⟨rfl, HB.out⟩
def aboveF (began : Bool) (place : Int) (xs : List RfI) (i : Nat) : Bool := !began || decide (plF xs i > place)
/-- Which is next: its number. -/
def nextN (began : Bool) (place : Int) (xs : List RfI) : Option Nat :=
  if (lstF (aboveF began place xs) (plF xs) xs.length).2 = true then some (lstF (aboveF began place xs) (plF xs) xs.length).1
  else if (lstF (fun _ => true) (plF xs) xs.length).2 = true then some (lstF (fun _ => true) (plF xs) xs.length).1 else none
def nextR (began : Bool) (place : Int) (xs : List RfI) : RfI × Bool :=
  match nextN began place xs with
  | some i => (xs.getD i RfI.none_, true)
  | none => (RfI.none_, false)
theorem snone_any {w : World} {s : Nat} {began : Bool} {place turns : Int} (hs : BoxAt w s (scrC began place turns)) :
    Calls Tryz.prog 82 #[.pointer (some ⟨s, 0, none⟩)] w fun e w' => e = .returned (.bool false) ∧ w' = w := by
  have s0 : w.cell? ⟨s, 0, none⟩ = some (.bool true) := hs.cell 0
  clear hs
  go_enter Tryz.func82, Tryz.ntmps82
  go_wp2_with fail
  go_ret
  exact ⟨rfl, rfl⟩
theorem sturns_any {w : World} {s : Nat} {began : Bool} {place turns : Int} (hs : BoxAt w s (scrC began place turns)) :
    Calls Tryz.prog 39 #[.pointer (some ⟨s, 0, none⟩)] w fun e w' => e = .returned (.int .i64 turns) ∧ w' = w := by
  have s3 : w.cell? ⟨s, 3, none⟩ = some (.int .i64 turns) := hs.cell 3
  have hn := snone_any hs
  clear hs
  go_enter Tryz.func39, Tryz.ntmps39
  go_wp2_with fail
  refine hn.mono ?_
  clear hn
  rintro e w1 ⟨rfl, h1⟩
  subst h1
  go_wp2_with fail
  go_ret
  exact ⟨rfl, rfl⟩
theorem snew_any {w : World} : Calls Tryz.prog 37 #[] w fun e w' => ∃ s, e = .returned (.pointer (some ⟨s, 0, none⟩)) ∧ w.heap.size ≤ s ∧ BoxAt w' s (scrC false 0 0) ∧ Below w.heap.size w w' := by
  go_enter Tryz.func37, Tryz.ntmps37
  go_wp2_with fail
  go_ret
  exact ⟨_, rfl, Nat.le_refl _, BoxAt.new _ _ _, (by repeat (first | (with_reducible exact Below.refl _ _) | (with_reducible assumption) | (with_reducible refine Below.drew ?_) | (with_reducible refine Below.setCell ?_ ?_ _) | (with_reducible refine Below.alloc ?_ ?_ _) | (with_reducible refine Below.later ?_ ?_ _) | (first | (with_reducible exact Nat.le_refl _) | omega | (simp only [World.size_alloc, World.size_setCell, World.size_drew] <;> omega))))⟩
set_option maxHeartbeats 4000000 in
theorem snext_any {w : World} {s : Nat} {began : Bool} {place turns : Int} {S : Nat → Prop} {A : Option Addr} {n c : Nat} {xs : List RfI} (hs : BoxAt w s (scrC began place turns)) (R : RdL RfIR 3 S w A n xs) (hn : n ≤ 1000000) (hnc : n ≤ c) :
    Calls Tryz.prog 52 #[.pointer (some ⟨s, 0, none⟩), .slice A n c] w fun e w' => e = .returned (.tuple #[.agg (nextR began place xs).1.C, .bool (nextR began place xs).2]) ∧ Below w.heap.size w w' := by
  have hno := fun W (hW : Below w.heap.size w W) => snone_any (hs.below hW)
  have hxl := R.1
  obtain ⟨W, hW⟩ : ∃ W, (w.alloc (.cells #[.pointer (some ⟨s, 0, none⟩)] 63)).alloc (.cells #[.int .u8 0, .int .i64 0, .int .u64 0] 38) = W := ⟨_, rfl⟩
  have hb0 : Below w.heap.size w W := by rw [← hW]; exact (by repeat (first | (with_reducible exact Below.refl _ _) | (with_reducible assumption) | (with_reducible refine Below.drew ?_) | (with_reducible refine Below.setCell ?_ ?_ _) | (with_reducible refine Below.alloc ?_ ?_ _) | (with_reducible refine Below.later ?_ ?_ _) | (first | (with_reducible exact Nat.le_refl _) | omega | (simp only [World.size_alloc, World.size_setCell, World.size_drew] <;> omega))))
  have bP : BoxAt W w.heap.size #[.pointer (some ⟨s, 0, none⟩)] := by rw [← hW]; exact (BoxAt.new w _ _).alloc _
  have bN : BoxAt W (w.heap.size + 1) #[.int .u8 0, .int .i64 0, .int .u64 0] := by
    rw [← hW]
    have := BoxAt.new (w.alloc (.cells #[.pointer (some ⟨s, 0, none⟩)] 63)) #[.int .u8 0, .int .i64 0, .int .u64 0] 38
    rwa [World.size_alloc] at this
  obtain ⟨q, hq⟩ : ∃ q, w.heap.size = q := ⟨_, rfl⟩
  have hs1 : w.heap.size ≤ q := by omega
  have HNO := Lib.hid (hno W hb0)
  have g1 := call_sn1
  have g2 := call_sn2
  have HB0 := Lib.hid hb0
  have HS := Lib.hid (hs.below hb0)
  have HR := Lib.hid (R.below RfIR.stable hb0)
  have HXL := Lib.hid hxl
  rw [hq] at bP bN
  have HQ := Lib.hid hq
  have BN := Lib.hid bN
  have BP := Lib.hid bP
  have h1 : (w.alloc (.cells #[.pointer (some ⟨s, 0, none⟩)] 63)).heap.size = q + 1 := by rw [World.size_alloc, hq]
  have HL1 := Lib.hid (sleast_any (c := c) (g := 115) (cap := #[.pointer (some ⟨q, 0, none⟩)]) (is := aboveF began place xs) HR.out hn (Lib.hid call_sn1) (Lib.hid fun i x W2 hx hW2 => by
    have := sn1_any (r := x) (BP.out.below hW2) (HS.out.below hW2)
    unfold aboveF
    rw [plF_at hx]
    exact this))
  have HL2 := Lib.hid (fun W2 (hW2 : Below W.heap.size W W2) => sleast_any (c := c) (g := 116) (cap := #[]) (is := fun _ => true) (HR.out.below RfIR.stable hW2) hn (Lib.hid call_sn2) (Lib.hid fun i x W3 hx hW3 => sn2_any))
  have HN := Lib.hid (show nextN began place xs = if (lstF (aboveF began place xs) (plF xs) n).2 = true then some (lstF (aboveF began place xs) (plF xs) n).1
  else if (lstF (fun _ => true) (plF xs) n).2 = true then some (lstF (fun _ => true) (plF xs) n).1 else none by unfold nextN; rw [hxl])
  have HLT1 := Lib.hid (lstF_lt (aboveF began place xs) (plF xs) n)
  have HLT2 := Lib.hid (lstF_lt (fun _ => true) (plF xs) n)
  clear hno hxl hb0 bP bN hs R hs1
  have k0 : W.cell? ⟨q, 0, none⟩ = some (.pointer (some ⟨s, 0, none⟩)) := BP.out.cell 0
  go_enter Tryz.func52, Tryz.ntmps52
  go_wp2_with fail
  refine HNO.out.mono ?_
  clear HNO
  rintro e w1 ⟨rfl, h1⟩
  subst h1
  obtain ⟨⟨l1, o1⟩, hl1⟩ : ∃ y, lstF (aboveF began place xs) (plF xs) n = y := ⟨_, rfl⟩
  rw [hl1] at HL1 HN HLT1
  obtain ⟨⟨l2, o2⟩, hl2⟩ : ∃ y, lstF (fun _ => true) (plF xs) n = y := ⟨_, rfl⟩
  rw [hl2] at HN HLT2
  clear hl1
  have HL2e := Lib.hid hl2
  clear hl2
  dsimp only at HN HLT1 HLT2
  cases o1 with
  | true =>
    rw [if_pos rfl] at HN
    go_wp2_with fail
    refine HL1.out.mono ?_
    clear HL1
    rintro e w2 ⟨rfl, hb2⟩
    have hl := HLT1.out trivial
    obtain ⟨b, o, x, eA, hx, hbl, _, x0, x1, x2⟩ := rfi_at (HR.out.below RfIR.stable hb2) hl
    subst eA
    have p0 : (0 : Int) ≤ (l1 : Int) := Int.natCast_nonneg _
    have p1 : (l1 : Int) < (n : Int) := by omega
    have bN2 := BN.out.below hb2
    have n0 := bN2.cell 0
    have n1 := bN2.cell 1
    have n2 := bN2.cell 2
    have z0 := bN2.frozen 0
    have z1 := bN2.frozen 1
    have z2 := bN2.frozen 2
    have HE := Lib.hid (show nextR began place xs = (x, true) by unfold nextR; rw [HN.out]; dsimp only; rw [List.getD_eq_getElem?_getD, hx]; rfl)
    have HB2 := Lib.hid (HB0.out.trans (hb2.mono HB0.out.size))
    obtain ⟨rk, rp, rg⟩ := x
    dsimp only at x0 x1 x2
    clear hx hb2 bN2 hl
    go_wp2_with fail
    refine bodyPost_ret (v := .tuple #[.agg #[.int .u8 rk, .int .i64 rp, .int .u64 rg], .bool true]) (by simp [results, Tryz.results52, go_sem, *]) rfl ?_
    rw [HE.out]
    refine ⟨rfl, ?_⟩
    refine Below.setCell (Below.setCell (Below.setCell HB2.out ?_ _) ?_ _) ?_ _ <;> (show _ ≤ q + 1; have := HQ.out; omega)
  | false =>
    rw [if_neg (by simp)] at HN
    go_wp2_with fail
    refine HL1.out.mono ?_
    clear HL1
    rintro e w2 ⟨rfl, hb2⟩
    have hL2 := HL2.out w2 hb2
    rw [HL2e.out] at hL2
    cases o2 with
    | true =>
      rw [if_pos rfl] at HN
      go_wp2_with fail
      refine hL2.mono ?_
      clear hL2
      rintro e w3 ⟨rfl, hb3⟩
      have hb23 := hb2.trans (hb3.mono hb2.size)
      clear hb2 hb3
      have hl := HLT2.out trivial
      obtain ⟨b, o, x, eA, hx, hbl, _, x0, x1, x2⟩ := rfi_at (HR.out.below RfIR.stable hb23) hl
      subst eA
      have p0 : (0 : Int) ≤ (l2 : Int) := Int.natCast_nonneg _
      have p1 : (l2 : Int) < (n : Int) := by omega
      have bN2 := BN.out.below hb23
      have n0 := bN2.cell 0
      have n1 := bN2.cell 1
      have n2 := bN2.cell 2
      have z0 := bN2.frozen 0
      have z1 := bN2.frozen 1
      have z2 := bN2.frozen 2
      have HE := Lib.hid (show nextR began place xs = (x, true) by unfold nextR; rw [HN.out]; dsimp only; rw [List.getD_eq_getElem?_getD, hx]; rfl)
      have HB2 := Lib.hid (HB0.out.trans (hb23.mono HB0.out.size))
      obtain ⟨rk, rp, rg⟩ := x
      dsimp only at x0 x1 x2
      clear hx hb23 bN2 hl
      go_wp2_with fail
      refine bodyPost_ret (v := .tuple #[.agg #[.int .u8 rk, .int .i64 rp, .int .u64 rg], .bool true]) (by simp [results, Tryz.results52, go_sem, *]) rfl ?_
      rw [HE.out]
      refine ⟨rfl, ?_⟩
      refine Below.setCell (Below.setCell (Below.setCell HB2.out ?_ _) ?_ _) ?_ _ <;> (show _ ≤ q + 1; have := HQ.out; omega)
    | false =>
      rw [if_neg (by simp)] at HN
      have HE := Lib.hid (show nextR began place xs = (RfI.none_, false) by unfold nextR; rw [HN.out])
      go_wp2_with fail
      refine hL2.mono ?_
      clear hL2
      rintro e w3 ⟨rfl, hb3⟩
      have hb23 := hb2.trans (hb3.mono hb2.size)
      clear hb2 hb3
      have bN2 := BN.out.below hb23
      have n0 := bN2.cell 0
      have n1 := bN2.cell 1
      have n2 := bN2.cell 2
      have z0 := bN2.frozen 0
      have z1 := bN2.frozen 1
      have z2 := bN2.frozen 2
      have HB2 := Lib.hid (HB0.out.trans (hb23.mono HB0.out.size))
      clear hb23 bN2
      go_wp2_with fail
      refine bodyPost_ret (v := .tuple #[.agg #[.int .u8 0, .int .i64 0, .int .u64 0], .bool false]) (by simp [results, Tryz.results52, go_sem, *]) rfl ?_
      rw [HE.out]
      refine ⟨rfl, ?_⟩
      refine Below.setCell (Below.setCell (Below.setCell HB2.out ?_ _) ?_ _) ?_ _ <;> (show _ ≤ q + 1; have := HQ.out; omega)
end
section
theorem Keep.drw {F : Nat → Prop} {a w : World} (h : Keep F a w) : Keep F a w.drew := h.trans (Keep.of_below (F := F) (Below.refl _ _).drew) (fun _ h _ => h)
def comeT (began : Bool) (place turns : Int) (r : RfI) : Int := if began = true ∧ r.place ≤ place then turns + 1 else turns
set_option maxHeartbeats 4000000 in
theorem scome_any {w : World} {s : Nat} {began : Bool} {place turns : Int} {r : RfI} (hs : BoxAt w s (scrC began place turns)) (ht : 0 ≤ turns ∧ turns < 1000000) :
    Calls Tryz.prog 84 #[.pointer (some ⟨s, 0, none⟩), .agg r.C] w fun e w' => e = .returned (.tuple #[]) ∧ BoxAt w' s (scrC true r.place (comeT began place turns r)) ∧ Keep (fun j => j = s) w w' := by
  obtain ⟨t0, t1⟩ := ht
  obtain ⟨rk, rp, rg⟩ := r
  have hsl := hs.lt
  obtain ⟨W, hW⟩ : ∃ W, w.alloc (.cells #[.int .u8 rk, .int .i64 rp, .int .u64 rg] 38) = W := ⟨_, rfl⟩
  have bR : BoxAt W w.heap.size #[.int .u8 rk, .int .i64 rp, .int .u64 rg] := by rw [← hW]; exact BoxAt.new _ _ _
  have bS : BoxAt W s (scrC began place turns) := by rw [← hW]; exact hs.alloc _
  have hk0 : Keep (fun j => j = s) w W := by rw [← hW]; exact (Keep.refl _ _).alloc _
  obtain ⟨q, hq⟩ : ∃ q, w.heap.size = q := ⟨_, rfl⟩
  have hsq : s < q := by omega
  have hne : q ≠ s := by omega
  rw [hq] at bR
  have HK0 := Lib.hid hk0
  have BS := Lib.hid bS
  have k1 : W.cell? ⟨q, 1, none⟩ = some (.int .i64 rp) := bR.cell 1
  have s1 : W.cell? ⟨s, 1, none⟩ = some (.bool began) := bS.cell 1
  have s2 : W.cell? ⟨s, 2, none⟩ = some (.int .i64 place) := bS.cell 2
  have s3 : W.cell? ⟨s, 3, none⟩ = some (.int .i64 turns) := bS.cell 3
  have z1 := bS.frozen 1
  have z2 := bS.frozen 2
  have z3 := bS.frozen 3
  have hsW := bS.lt
  have hqW := bR.lt
  unfold RfI.C comeT
  dsimp only
  clear bR bS hk0 hs hsl
  cases began with
  | false =>
    rw [if_neg (by simp)]
    go_enter Tryz.func84, Tryz.ntmps84
    go_wp2_with fail
    refine wp_region_later (by kernel_rfl) (by kernel_rfl) ?_
    repeat (go_big_quiet_step (fail))
    refine wpQuiet_nil ?_
    rintro _ ⟨z, rfl⟩
    go_wp2_with fail
    obtain ⟨V, hV⟩ : ∃ V, z.to = V := ⟨_, rfl⟩
    have bV : BoxAt V s (scrC false place turns) := by rw [← hV]; exact BS.out.below z.ok
    have v1 : V.cell? ⟨q, 1, none⟩ = some (.int .i64 rp) := by rw [← hV]; exact (z.cell hqW).trans k1
    have HKV := Lib.hid (show Keep (fun j => j = s) w V by rw [← hV]; exact HK0.out.trans (Keep.of_below (F := fun j => j = s) z.ok) (fun k h _ => h))
    rw [hV]
    have BV := Lib.hid bV
    have c1 : V.cell? ⟨s, 1, none⟩ = some (.bool false) := bV.cell 1
    have c2 : V.cell? ⟨s, 2, none⟩ = some (.int .i64 place) := bV.cell 2
    have f1 := bV.frozen 1
    have f2 := bV.frozen 2
    clear hV k1 s1 s2 s3 z1 z2 z3 bV
    refine wp_region_held_drew (S := fun w' => w'.cell? ⟨q, 1, none⟩ = some (.int .i64 rp)) (by kernel_rfl) (by first | exact v1 | go_simp) (fun hHeld => ?_)
    refine wpAnyH_take (i := 0) (v := ?_) rfl (by kernel_rfl) (by kernel_rfl) (by kernel_rfl) (fun _ _ _ h => h) (Or.inl ⟨by first | kernel_rfl | rfl, ?_⟩) (by assumption) ?_
    rotate_left
    · (intro wq hSw; (try dsimp only at hSw); (try simp (maxSteps := 2000000) only [zz1, zz2, zz3]); go_simp); try with_reducible rfl
    try simp (maxSteps := 2000000) only [zz1, zz2, zz3, Act.put, zz4, zz5, zz6]
    refine wpAnyH_take (i := 1) (v := ?_) rfl (by kernel_rfl) (by kernel_rfl) (by kernel_rfl) (fun _ _ _ h => h) (Or.inl ⟨by first | kernel_rfl | rfl, ?_⟩) (by assumption) ?_
    rotate_left
    · (intro wq hSw; (try dsimp only at hSw); (try simp (maxSteps := 2000000) only [zz1, zz2, zz3]); go_simp); try with_reducible rfl
    try simp (maxSteps := 2000000) only [zz1, zz2, zz3, Act.put, zz4, zz5, zz6]
    refine wpAnyH_take (i := 2) (v := ?_) rfl (by kernel_rfl) (by kernel_rfl) (by kernel_rfl) (fun _ _ _ h => h) (Or.inl ⟨by first | kernel_rfl | rfl, ?_⟩) (by assumption) ?_
    rotate_left
    · (intro wq hSw; (try dsimp only at hSw); (try simp (maxSteps := 2000000) only [zz1, zz2, zz3]); go_simp); try with_reducible rfl
    try simp (maxSteps := 2000000) only [zz1, zz2, zz3, Act.put, zz4, zz5, zz6]
    refine wpAnyH_take (i := 3) (v := ?_) rfl (by kernel_rfl) (by kernel_rfl) (by kernel_rfl) (fun _ _ _ h => h) (Or.inl ⟨by first | kernel_rfl | rfl, ?_⟩) (by assumption) ?_
    rotate_left
    · (intro wq hSw; (try dsimp only at hSw); (try simp (maxSteps := 2000000) only [zz1, zz2, zz3]); go_simp); try with_reducible rfl
    try simp (maxSteps := 2000000) only [zz1, zz2, zz3, Act.put, zz4, zz5, zz6]
    refine wpAnyH_take (i := 4) (v := ?_) rfl (by kernel_rfl) (by kernel_rfl) (by kernel_rfl) (fun _ _ _ h => h) (Or.inl ⟨by first | kernel_rfl | rfl, ?_⟩) (by assumption) ?_
    rotate_left
    · (intro wq hSw; (try dsimp only at hSw); (try simp (maxSteps := 2000000) only [zz1, zz2, zz3]); go_simp); try with_reducible rfl
    try simp (maxSteps := 2000000) only [zz1, zz2, zz3, Act.put, zz4, zz5, zz6]
    refine wpAnyH_take (i := 5) (v := ?_) rfl (by kernel_rfl) (by kernel_rfl) (by kernel_rfl) (fun _ _ _ h => h) (Or.inl ⟨by first | kernel_rfl | rfl, ?_⟩) (by assumption) ?_
    rotate_left
    · (intro wq hSw; (try dsimp only at hSw); (try simp (maxSteps := 2000000) only [zz1, zz2, zz3]); go_simp); try with_reducible rfl
    try simp (maxSteps := 2000000) only [zz1, zz2, zz3, Act.put, zz4, zz5, zz6]
    refine wpAnyH_ready (rs := [6]) (by kernel_rfl) (by simp) ?_
    refine AllReadyH.cons rfl (fun K hK => ?_) AllReadyH.nil
    try simp (maxSteps := 2000000) only [zz1, zz2, zz3]
    go_simp
    refine hK.out _ _ (by first | exact v1 | go_simp) (fun hHeld => ?_)
    clear hK K
    try simp (maxSteps := 2000000) only [zz1, zz2, zz3, Act.put, zz4, zz5, zz6]
    refine wpAnyH_take (i := 7) (v := ?_) rfl (by kernel_rfl) (by kernel_rfl) (by kernel_rfl) (fun _ _ _ h => h) (Or.inl ⟨by first | kernel_rfl | rfl, ?_⟩) (by assumption) ?_
    rotate_left
    · (intro wq hSw; (try dsimp only at hSw); (try simp (maxSteps := 2000000) only [zz1, zz2, zz3]); go_simp); try with_reducible rfl
    try simp (maxSteps := 2000000) only [zz1, zz2, zz3, Act.put, zz4, zz5, zz6]
    refine wpAnyH_take (i := 8) (v := ?_) rfl (by kernel_rfl) (by kernel_rfl) (by kernel_rfl) (fun _ _ _ h => h) (Or.inl ⟨by first | kernel_rfl | rfl, ?_⟩) (by assumption) ?_
    rotate_left
    · (intro wq hSw; (try dsimp only at hSw); (try simp (maxSteps := 2000000) only [zz1, zz2, zz3]); go_simp); try with_reducible rfl
    try simp (maxSteps := 2000000) only [zz1, zz2, zz3, Act.put, zz4, zz5, zz6]
    refine wpAnyH_ready (rs := [9]) (by kernel_rfl) (by simp) ?_
    refine AllReadyH.cons rfl (fun K hK => ?_) AllReadyH.nil
    try simp (maxSteps := 2000000) only [zz1, zz2, zz3]
    go_simp
    refine hK.out _ _ (by first | exact v1 | go_simp) (fun hHeld => ?_)
    clear hK K
    try simp (maxSteps := 2000000) only [zz1, zz2, zz3, Act.put, zz4, zz5, zz6]
    refine wpAnyH_done (by kernel_rfl) ?_ _
    go_wp2_with fail
    go_end0
    refine ⟨rfl, ?_, ?_⟩
    · exact ((BV.out.set 1 (.bool true)).set 2 (.int .i64 rp)).keep rfl
    · exact Keep.drw (Keep.setCell (p := ⟨s, 2, none⟩) (Keep.setCell (p := ⟨s, 1, none⟩) HKV.out (fun _ => rfl) _) (fun _ => rfl) _)
  | true =>
    by_cases hle : rp ≤ place
    · rw [if_pos ⟨rfl, hle⟩]
      go_enter Tryz.func84, Tryz.ntmps84
      go_wp2_with fail
      refine wp_region_later (by kernel_rfl) (by kernel_rfl) ?_
      repeat (go_big_quiet_step (fail))
      refine wpQuiet_nil ?_
      rintro _ ⟨z, rfl⟩
      go_wp2_with fail
      obtain ⟨V, hV⟩ : ∃ V, z.to.setCell ⟨s, 3, none⟩ (.int .i64 (turns + 1)) = V := ⟨_, rfl⟩
      have bV : BoxAt V s (scrC true place (turns + 1)) := by rw [← hV]; exact (BS.out.below z.ok).set 3 _
      have v1 : V.cell? ⟨q, 1, none⟩ = some (.int .i64 rp) := by rw [← hV]; rw [cell_set, if_neg (by omega)]; exact (z.cell hqW).trans k1
      have HKV := Lib.hid (show Keep (fun j => j = s) w V by rw [← hV]; exact Keep.setCell (p := ⟨s, 3, none⟩) (HK0.out.trans (Keep.of_below (F := fun j => j = s) z.ok) (fun k h _ => h)) (fun _ => rfl) _)
      rw [hV]
      have BV := Lib.hid bV
      have c1 : V.cell? ⟨s, 1, none⟩ = some (.bool true) := bV.cell 1
      have c2 : V.cell? ⟨s, 2, none⟩ = some (.int .i64 place) := bV.cell 2
      have f1 := bV.frozen 1
      have f2 := bV.frozen 2
      clear hV k1 s1 s2 s3 z1 z2 z3 bV
      refine wp_region_held_drew (S := fun w' => w'.cell? ⟨q, 1, none⟩ = some (.int .i64 rp)) (by kernel_rfl) (by first | exact v1 | go_simp) (fun hHeld => ?_)
      refine wpAnyH_take (i := 0) (v := ?_) rfl (by kernel_rfl) (by kernel_rfl) (by kernel_rfl) (fun _ _ _ h => h) (Or.inl ⟨by first | kernel_rfl | rfl, ?_⟩) (by assumption) ?_
      rotate_left
      · (intro wq hSw; (try dsimp only at hSw); (try simp (maxSteps := 2000000) only [zz1, zz2, zz3]); go_simp); try with_reducible rfl
      try simp (maxSteps := 2000000) only [zz1, zz2, zz3, Act.put, zz4, zz5, zz6]
      refine wpAnyH_take (i := 1) (v := ?_) rfl (by kernel_rfl) (by kernel_rfl) (by kernel_rfl) (fun _ _ _ h => h) (Or.inl ⟨by first | kernel_rfl | rfl, ?_⟩) (by assumption) ?_
      rotate_left
      · (intro wq hSw; (try dsimp only at hSw); (try simp (maxSteps := 2000000) only [zz1, zz2, zz3]); go_simp); try with_reducible rfl
      try simp (maxSteps := 2000000) only [zz1, zz2, zz3, Act.put, zz4, zz5, zz6]
      refine wpAnyH_take (i := 2) (v := ?_) rfl (by kernel_rfl) (by kernel_rfl) (by kernel_rfl) (fun _ _ _ h => h) (Or.inl ⟨by first | kernel_rfl | rfl, ?_⟩) (by assumption) ?_
      rotate_left
      · (intro wq hSw; (try dsimp only at hSw); (try simp (maxSteps := 2000000) only [zz1, zz2, zz3]); go_simp); try with_reducible rfl
      try simp (maxSteps := 2000000) only [zz1, zz2, zz3, Act.put, zz4, zz5, zz6]
      refine wpAnyH_take (i := 3) (v := ?_) rfl (by kernel_rfl) (by kernel_rfl) (by kernel_rfl) (fun _ _ _ h => h) (Or.inl ⟨by first | kernel_rfl | rfl, ?_⟩) (by assumption) ?_
      rotate_left
      · (intro wq hSw; (try dsimp only at hSw); (try simp (maxSteps := 2000000) only [zz1, zz2, zz3]); go_simp); try with_reducible rfl
      try simp (maxSteps := 2000000) only [zz1, zz2, zz3, Act.put, zz4, zz5, zz6]
      refine wpAnyH_take (i := 4) (v := ?_) rfl (by kernel_rfl) (by kernel_rfl) (by kernel_rfl) (fun _ _ _ h => h) (Or.inl ⟨by first | kernel_rfl | rfl, ?_⟩) (by assumption) ?_
      rotate_left
      · (intro wq hSw; (try dsimp only at hSw); (try simp (maxSteps := 2000000) only [zz1, zz2, zz3]); go_simp); try with_reducible rfl
      try simp (maxSteps := 2000000) only [zz1, zz2, zz3, Act.put, zz4, zz5, zz6]
      refine wpAnyH_take (i := 5) (v := ?_) rfl (by kernel_rfl) (by kernel_rfl) (by kernel_rfl) (fun _ _ _ h => h) (Or.inl ⟨by first | kernel_rfl | rfl, ?_⟩) (by assumption) ?_
      rotate_left
      · (intro wq hSw; (try dsimp only at hSw); (try simp (maxSteps := 2000000) only [zz1, zz2, zz3]); go_simp); try with_reducible rfl
      try simp (maxSteps := 2000000) only [zz1, zz2, zz3, Act.put, zz4, zz5, zz6]
      refine wpAnyH_ready (rs := [6]) (by kernel_rfl) (by simp) ?_
      refine AllReadyH.cons rfl (fun K hK => ?_) AllReadyH.nil
      try simp (maxSteps := 2000000) only [zz1, zz2, zz3]
      go_simp
      refine hK.out _ _ (by first | exact v1 | go_simp) (fun hHeld => ?_)
      clear hK K
      try simp (maxSteps := 2000000) only [zz1, zz2, zz3, Act.put, zz4, zz5, zz6]
      refine wpAnyH_take (i := 7) (v := ?_) rfl (by kernel_rfl) (by kernel_rfl) (by kernel_rfl) (fun _ _ _ h => h) (Or.inl ⟨by first | kernel_rfl | rfl, ?_⟩) (by assumption) ?_
      rotate_left
      · (intro wq hSw; (try dsimp only at hSw); (try simp (maxSteps := 2000000) only [zz1, zz2, zz3]); go_simp); try with_reducible rfl
      try simp (maxSteps := 2000000) only [zz1, zz2, zz3, Act.put, zz4, zz5, zz6]
      refine wpAnyH_take (i := 8) (v := ?_) rfl (by kernel_rfl) (by kernel_rfl) (by kernel_rfl) (fun _ _ _ h => h) (Or.inl ⟨by first | kernel_rfl | rfl, ?_⟩) (by assumption) ?_
      rotate_left
      · (intro wq hSw; (try dsimp only at hSw); (try simp (maxSteps := 2000000) only [zz1, zz2, zz3]); go_simp); try with_reducible rfl
      try simp (maxSteps := 2000000) only [zz1, zz2, zz3, Act.put, zz4, zz5, zz6]
      refine wpAnyH_ready (rs := [9]) (by kernel_rfl) (by simp) ?_
      refine AllReadyH.cons rfl (fun K hK => ?_) AllReadyH.nil
      try simp (maxSteps := 2000000) only [zz1, zz2, zz3]
      go_simp
      refine hK.out _ _ (by first | exact v1 | go_simp) (fun hHeld => ?_)
      clear hK K
      try simp (maxSteps := 2000000) only [zz1, zz2, zz3, Act.put, zz4, zz5, zz6]
      refine wpAnyH_done (by kernel_rfl) ?_ _
      go_wp2_with fail
      go_end0
      refine ⟨rfl, ?_, ?_⟩
      · exact ((BV.out.set 1 (.bool true)).set 2 (.int .i64 rp)).keep rfl
      · exact Keep.drw (Keep.setCell (p := ⟨s, 2, none⟩) (Keep.setCell (p := ⟨s, 1, none⟩) HKV.out (fun _ => rfl) _) (fun _ => rfl) _)
    · rw [if_neg (by simp [hle])]
      go_enter Tryz.func84, Tryz.ntmps84
      go_wp2_with fail
      refine wp_region_later (by kernel_rfl) (by kernel_rfl) ?_
      repeat (go_big_quiet_step (fail))
      refine wpQuiet_nil ?_
      rintro _ ⟨z, rfl⟩
      go_wp2_with fail
      obtain ⟨V, hV⟩ : ∃ V, z.to = V := ⟨_, rfl⟩
      have bV : BoxAt V s (scrC true place turns) := by rw [← hV]; exact BS.out.below z.ok
      have v1 : V.cell? ⟨q, 1, none⟩ = some (.int .i64 rp) := by rw [← hV]; exact (z.cell hqW).trans k1
      have HKV := Lib.hid (show Keep (fun j => j = s) w V by rw [← hV]; exact HK0.out.trans (Keep.of_below (F := fun j => j = s) z.ok) (fun k h _ => h))
      rw [hV]
      have BV := Lib.hid bV
      have c1 : V.cell? ⟨s, 1, none⟩ = some (.bool true) := bV.cell 1
      have c2 : V.cell? ⟨s, 2, none⟩ = some (.int .i64 place) := bV.cell 2
      have f1 := bV.frozen 1
      have f2 := bV.frozen 2
      clear hV k1 s1 s2 s3 z1 z2 z3 bV
      refine wp_region_held_drew (S := fun w' => w'.cell? ⟨q, 1, none⟩ = some (.int .i64 rp)) (by kernel_rfl) (by first | exact v1 | go_simp) (fun hHeld => ?_)
      refine wpAnyH_take (i := 0) (v := ?_) rfl (by kernel_rfl) (by kernel_rfl) (by kernel_rfl) (fun _ _ _ h => h) (Or.inl ⟨by first | kernel_rfl | rfl, ?_⟩) (by assumption) ?_
      rotate_left
      · (intro wq hSw; (try dsimp only at hSw); (try simp (maxSteps := 2000000) only [zz1, zz2, zz3]); go_simp); try with_reducible rfl
      try simp (maxSteps := 2000000) only [zz1, zz2, zz3, Act.put, zz4, zz5, zz6]
      refine wpAnyH_take (i := 1) (v := ?_) rfl (by kernel_rfl) (by kernel_rfl) (by kernel_rfl) (fun _ _ _ h => h) (Or.inl ⟨by first | kernel_rfl | rfl, ?_⟩) (by assumption) ?_
      rotate_left
      · (intro wq hSw; (try dsimp only at hSw); (try simp (maxSteps := 2000000) only [zz1, zz2, zz3]); go_simp); try with_reducible rfl
      try simp (maxSteps := 2000000) only [zz1, zz2, zz3, Act.put, zz4, zz5, zz6]
      refine wpAnyH_take (i := 2) (v := ?_) rfl (by kernel_rfl) (by kernel_rfl) (by kernel_rfl) (fun _ _ _ h => h) (Or.inl ⟨by first | kernel_rfl | rfl, ?_⟩) (by assumption) ?_
      rotate_left
      · (intro wq hSw; (try dsimp only at hSw); (try simp (maxSteps := 2000000) only [zz1, zz2, zz3]); go_simp); try with_reducible rfl
      try simp (maxSteps := 2000000) only [zz1, zz2, zz3, Act.put, zz4, zz5, zz6]
      refine wpAnyH_take (i := 3) (v := ?_) rfl (by kernel_rfl) (by kernel_rfl) (by kernel_rfl) (fun _ _ _ h => h) (Or.inl ⟨by first | kernel_rfl | rfl, ?_⟩) (by assumption) ?_
      rotate_left
      · (intro wq hSw; (try dsimp only at hSw); (try simp (maxSteps := 2000000) only [zz1, zz2, zz3]); go_simp); try with_reducible rfl
      try simp (maxSteps := 2000000) only [zz1, zz2, zz3, Act.put, zz4, zz5, zz6]
      refine wpAnyH_take (i := 4) (v := ?_) rfl (by kernel_rfl) (by kernel_rfl) (by kernel_rfl) (fun _ _ _ h => h) (Or.inl ⟨by first | kernel_rfl | rfl, ?_⟩) (by assumption) ?_
      rotate_left
      · (intro wq hSw; (try dsimp only at hSw); (try simp (maxSteps := 2000000) only [zz1, zz2, zz3]); go_simp); try with_reducible rfl
      try simp (maxSteps := 2000000) only [zz1, zz2, zz3, Act.put, zz4, zz5, zz6]
      refine wpAnyH_take (i := 5) (v := ?_) rfl (by kernel_rfl) (by kernel_rfl) (by kernel_rfl) (fun _ _ _ h => h) (Or.inl ⟨by first | kernel_rfl | rfl, ?_⟩) (by assumption) ?_
      rotate_left
      · (intro wq hSw; (try dsimp only at hSw); (try simp (maxSteps := 2000000) only [zz1, zz2, zz3]); go_simp); try with_reducible rfl
      try simp (maxSteps := 2000000) only [zz1, zz2, zz3, Act.put, zz4, zz5, zz6]
      refine wpAnyH_ready (rs := [6]) (by kernel_rfl) (by simp) ?_
      refine AllReadyH.cons rfl (fun K hK => ?_) AllReadyH.nil
      try simp (maxSteps := 2000000) only [zz1, zz2, zz3]
      go_simp
      refine hK.out _ _ (by first | exact v1 | go_simp) (fun hHeld => ?_)
      clear hK K
      try simp (maxSteps := 2000000) only [zz1, zz2, zz3, Act.put, zz4, zz5, zz6]
      refine wpAnyH_take (i := 7) (v := ?_) rfl (by kernel_rfl) (by kernel_rfl) (by kernel_rfl) (fun _ _ _ h => h) (Or.inl ⟨by first | kernel_rfl | rfl, ?_⟩) (by assumption) ?_
      rotate_left
      · (intro wq hSw; (try dsimp only at hSw); (try simp (maxSteps := 2000000) only [zz1, zz2, zz3]); go_simp); try with_reducible rfl
      try simp (maxSteps := 2000000) only [zz1, zz2, zz3, Act.put, zz4, zz5, zz6]
      refine wpAnyH_take (i := 8) (v := ?_) rfl (by kernel_rfl) (by kernel_rfl) (by kernel_rfl) (fun _ _ _ h => h) (Or.inl ⟨by first | kernel_rfl | rfl, ?_⟩) (by assumption) ?_
      rotate_left
      · (intro wq hSw; (try dsimp only at hSw); (try simp (maxSteps := 2000000) only [zz1, zz2, zz3]); go_simp); try with_reducible rfl
      try simp (maxSteps := 2000000) only [zz1, zz2, zz3, Act.put, zz4, zz5, zz6]
      refine wpAnyH_ready (rs := [9]) (by kernel_rfl) (by simp) ?_
      refine AllReadyH.cons rfl (fun K hK => ?_) AllReadyH.nil
      try simp (maxSteps := 2000000) only [zz1, zz2, zz3]
      go_simp
      refine hK.out _ _ (by first | exact v1 | go_simp) (fun hHeld => ?_)
      clear hK K
      try simp (maxSteps := 2000000) only [zz1, zz2, zz3, Act.put, zz4, zz5, zz6]
      refine wpAnyH_done (by kernel_rfl) ?_ _
      go_wp2_with fail
      go_end0
      refine ⟨rfl, ?_, ?_⟩
      · exact ((BV.out.set 1 (.bool true)).set 2 (.int .i64 rp)).keep rfl
      · exact Keep.drw (Keep.setCell (p := ⟨s, 2, none⟩) (Keep.setCell (p := ⟨s, 1, none⟩) HKV.out (fun _ => rfl) _) (fun _ => rfl) _)
end
section
/-- The drives behind a step. -/
def stepQ (e : Int) (sts : List DSt) : List DSt := if e = 0 then sts.map flushG else sts
theorem keep3 (w : World) (q : Nat) (u0 u1 u2 : Value) : Keep (fun j => j = q) w (((w.setCell ⟨q, 0, none⟩ u0).setCell ⟨q, 1, none⟩ u1).setCell ⟨q, 2, none⟩ u2) :=
  Keep.setCell (F := fun j => j = q) (p := ⟨q, 2, none⟩) (Keep.setCell (F := fun j => j = q) (p := ⟨q, 1, none⟩) (Keep.setCell (F := fun j => j = q) (p := ⟨q, 0, none⟩) (Keep.refl _ _) (fun _ => rfl) _) (fun _ => rfl) _) (fun _ => rfl) _
theorem mx_out {X : Nat → Prop} {w0 w w8 w9 : World} {a cb bf k m n s q p : Nat} {sts : List DSt} {cs : Array Value} (h : MX (fun j => ((X j ∨ j = s) ∨ j = q) ∨ j = p) w0 w8 a cb bf k m n sts) (hK : Keep (fun j => j = q) w8 w9) (hk : KpX X w w8) (bS : BoxAt w8 s cs) (hsq : s < q) (h0q : w0.heap.size ≤ q) (hX : ∀ j, X j → j < q) :
    MX (fun j => X j ∨ j = s) w0 w9 a cb bf k m n sts ∧ KpX X w w9 ∧ BoxAt w9 s cs := by
  refine ⟨(h.own hK fun j hj => by rw [hj]; exact ⟨.inl (.inr rfl), h0q⟩).sub fun j hj => .inl (.inl hj), hk.trans ⟨fun j hj => hK.block j (h.lt (.inl (.inl (.inl hj)))) (by have := hX j hj; omega), hK.size⟩, bS.keeps hK (by omega)⟩
set_option maxRecDepth 100000 in
set_option maxHeartbeats 16000000 in
theorem sstep_any {X : Nat → Prop} {w0 w : World} {a cb bf k m n : Nat} {sts sts1 : List DSt} {s : Nat} {began : Bool} {place turns : Int} {S : Nat → Prop} {A : Option Addr} {nl c : Nat} {xs : List RfI} {cn er : Int}
    (hM : MX (fun j => X j ∨ j = s) w0 w a cb bf k m n sts) (hs : BoxAt w s (scrC began place turns)) (hsX : ¬ X s) (hs0 : w0.heap.size ≤ s) (R : RdL RfIR 3 S w A nl xs) (hn : nl ≤ 1000000) (hnc : nl ≤ c) (ht : 0 ≤ turns ∧ turns < 1000000)
    (hok : (nextR began place xs).2 = true) (hcl : er = 0 → ∀ st ∈ sts1, st.cache.length < 1000000)
    (hmd : Hid (∀ (Y : Nat → Prop) W, MX Y w0 W a cb bf k m n sts → Calls Tryz.prog 85 #[.pointer (some ⟨a, 0, none⟩), .pointer (some ⟨cb, 0, none⟩), .agg (nextR began place xs).1.C] W fun e W' => e = .returned (.tuple #[.int .i64 cn, .int .i64 er]) ∧ MX Y w0 W' a cb bf k m n sts1 ∧ KpX Y W W')) :
    Calls Tryz.prog 38 #[.pointer (some ⟨s, 0, none⟩), .pointer (some ⟨a, 0, none⟩), .pointer (some ⟨cb, 0, none⟩), .slice A nl c] w fun e w' =>
      e = .returned (.tuple #[.agg (nextR began place xs).1.C, .int .i64 cn, .int .i64 er]) ∧ MX (fun j => X j ∨ j = s) w0 w' a cb bf k m n (stepQ er sts1) ∧ KpX X w w' ∧ BoxAt w' s (scrC true (nextR began place xs).1.place (comeT began place turns (nextR began place xs).1)) := by
  have hp := hM.pos
  have hno := fun W (hW : Below w.heap.size w W) => snone_any (hs.below hW)
  have hnx := fun W (hW : Below w.heap.size w W) => snext_any (c := c) (hs.below hW) (R.below RfIR.stable hW) hn hnc
  obtain ⟨⟨r, ok⟩, hr⟩ : ∃ y, nextR began place xs = y := ⟨_, rfl⟩
  rw [hr] at hok hmd ⊢
  have hnx2 := fun W hW => by have := hnx W hW; rw [hr] at this; exact this
  dsimp only at hok hmd hnx2 ⊢
  subst hok
  clear hnx hr R
  obtain ⟨rk, rp, rg⟩ := r
  have hsl := hs.lt
  obtain ⟨W, hW⟩ : ∃ W, w.alloc (.cells #[.int .u8 0, .int .i64 0, .int .u64 0] 38) = W := ⟨_, rfl⟩
  have hb0 : Below w.heap.size w W := by rw [← hW]; exact (by repeat (first | (with_reducible exact Below.refl _ _) | (with_reducible assumption) | (with_reducible refine Below.drew ?_) | (with_reducible refine Below.setCell ?_ ?_ _) | (with_reducible refine Below.alloc ?_ ?_ _) | (with_reducible refine Below.later ?_ ?_ _) | (first | (with_reducible exact Nat.le_refl _) | omega | (simp only [World.size_alloc, World.size_setCell, World.size_drew] <;> omega))))
  have bQ : BoxAt W w.heap.size #[.int .u8 0, .int .i64 0, .int .u64 0] := by rw [← hW]; exact BoxAt.new _ _ _
  obtain ⟨q, hq⟩ : ∃ q, w.heap.size = q := ⟨_, rfl⟩
  rw [hq] at bQ
  have hM1 := (hM.below hb0).sub (Y := fun j => (X j ∨ j = s) ∨ j = q) (fun j hj => by
    rcases hj with h | h
    · exact .inl h
    · have := bQ.lt; exact .inr (by omega))
  have hXl : ∀ j, X j → j < q := fun j hj => by have := hM.lt (.inl hj); omega
  have hsq : s < q := by omega
  have h0q : w0.heap.size ≤ q := by have := hM.bel.size; omega
  have hk0 : KpX X w W := KpX.of_below hb0 (fun j hj => by have := hXl j hj; omega)
  have HNO := Lib.hid (hno W hb0)
  have han := an_m hM1
  obtain ⟨N, hN⟩ : ∃ N, k + m = N := ⟨_, rfl⟩
  rw [hN] at han
  have HAN := Lib.hid han
  have HNN := Lib.hid hN
  have hN0 : ¬ N = 0 := by omega
  have HM1 := Lib.hid hM1
  have HNX := Lib.hid hnx2
  have BS := Lib.hid hs
  have BQ := Lib.hid bQ
  have HXL := Lib.hid hXl
  have HK0 := Lib.hid hk0
  have HB0 := Lib.hid hb0
  have HSX := Lib.hid hsX
  have HQS := Lib.hid (show s < q ∧ w0.heap.size ≤ q ∧ w0.heap.size ≤ s ∧ w.heap.size = q from ⟨hsq, h0q, hs0, hq⟩)
  have HT := Lib.hid ht
  have HCL := Lib.hid hcl
  have q1 : ((N : Int) == 0) = false := by
    have : (N : Int) ≠ 0 := by omega
    simpa using this
  clear hno hnx2 hb0 bQ hM1 hXl hk0 hs hp hsl hM hsX hs0 ht hsq h0q hcl han hN
  unfold RfI.C
  dsimp only
  go_enter Tryz.func38, Tryz.ntmps38
  go_wp2_with fail
  refine HNO.out.mono ?_
  clear HNO
  rintro e w1 ⟨rfl, h1⟩
  subst h1
  go_wp2_with fail
  refine HAN.out.mono ?_
  clear HAN
  rintro e w2 ⟨rfl, hb2⟩
  have hM2 := HM1.out.below' hb2
  have hcn := cn_any hM2.cod
  rw [HNN.out] at hcn
  have HM2 := Lib.hid hM2
  have HB2 := Lib.hid (HB0.out.trans (hb2.mono HB0.out.size))
  have BQ2 := Lib.hid (BQ.out.below hb2)
  clear hM2 hb2 HM1 BQ
  go_wp2_with fail
  refine hcn.mono ?_
  clear hcn
  rintro e w3 ⟨rfl, hb3⟩
  have HM3 := Lib.hid (HM2.out.below' hb3)
  have HB3 := Lib.hid (HB2.out.trans (hb3.mono HB2.out.size))
  have BQ3 := Lib.hid (BQ2.out.below hb3)
  have hnx := HNX.out w3 HB3.out
  clear HNX hb3 HM2 HB2 BQ2
  go_wp2_with fail
  refine hnx.mono ?_
  clear hnx
  rintro e w4 ⟨rfl, hb4⟩
  have HM4 := Lib.hid (HM3.out.below' hb4)
  have HB4 := Lib.hid (HB3.out.trans (hb4.mono HB3.out.size))
  have BQ4 := Lib.hid (BQ3.out.below hb4)
  unfold RfI.C
  dsimp only
  clear hb4 HM3 HB3 BQ3
  obtain ⟨W5, hW5⟩ : ∃ W5, w4.alloc (.cells #[.int .u8 rk, .int .i64 rp, .int .u64 rg] 38) = W5 := ⟨_, rfl⟩
  obtain ⟨p, hp⟩ : ∃ p, w4.heap.size = p := ⟨_, rfl⟩
  have hb5 : Below w4.heap.size w4 W5 := by rw [← hW5]; exact (Below.refl _ _).alloc (Nat.le_refl _) _
  have bP5 : BoxAt W5 p #[.int .u8 rk, .int .i64 rp, .int .u64 rg] := by rw [← hW5, ← hp]; exact BoxAt.new _ _ _
  have hqp : q < p := by have := BQ4.out.lt; omega
  have HM5 := Lib.hid ((HM4.out.below hb5).sub (Y := fun j => ((X j ∨ j = s) ∨ j = q) ∨ j = p) (fun j hj => by
    rcases hj with h | h
    · exact .inl h
    · have := bP5.lt; exact .inr (by omega)))
  have HB5 := Lib.hid (HB4.out.trans (hb5.mono HB4.out.size))
  have hco := scome_any (r := ⟨rk, rp, rg⟩) (BS.out.below HB5.out) HT.out
  unfold RfI.C at hco
  dsimp only at hco
  have HBQ5 := Lib.hid (BQ4.out.below hb5)
  have HBP5 := Lib.hid bP5
  have k0 : W5.cell? ⟨p, 0, none⟩ = some (.int .u8 rk) := bP5.cell 0
  have k1 : W5.cell? ⟨p, 1, none⟩ = some (.int .i64 rp) := bP5.cell 1
  have k2 : W5.cell? ⟨p, 2, none⟩ = some (.int .u64 rg) := bP5.cell 2
  have HQP := Lib.hid hqp
  clear hb5 bP5 hqp HM4 HB4 BQ4
  go_wp2_with fail
  refine hco.mono ?_
  clear hco k0 k1 k2 hW5 hp
  rintro e w6 ⟨rfl, hS6, hK6⟩
  have hM6 := HM5.out.own hK6 (fun j hj => by rw [hj]; exact ⟨.inl (.inl (.inr rfl)), HQS.out.2.2.1⟩)
  have HK6 := Lib.hid (show KpX X w w6 from ⟨fun j hj => by
      have h1 := HXL.out j hj
      rw [hK6.block j (by have := HB5.out.size; have := HQS.out.2.2.2; omega) (fun e => HSX.out (e ▸ hj))]
      exact HB5.out.block j (by have := HQS.out.2.2.2; omega), Nat.le_trans HB5.out.size hK6.size⟩)
  have hBQ6 := HBQ5.out.keeps hK6 (by have := HQS.out.1; omega)
  have hBP6 := HBP5.out.keeps hK6 (by have := HQS.out.1; have := HQP.out; omega)
  have hmd := hmd.out _ w6 hM6
  have k0 : w6.cell? ⟨p, 0, none⟩ = some (.int .u8 rk) := hBP6.cell 0
  have k1 : w6.cell? ⟨p, 1, none⟩ = some (.int .i64 rp) := hBP6.cell 1
  have k2 : w6.cell? ⟨p, 2, none⟩ = some (.int .u64 rg) := hBP6.cell 2
  have BS6 := Lib.hid hS6
  have BQ6 := Lib.hid hBQ6
  have BP6 := Lib.hid hBP6
  unfold RfI.C at hmd
  dsimp only at hmd
  clear hK6 hBQ6 hBP6 HM5 hM6 HBQ5 HBP5 hS6 HB5
  go_wp2_with fail
  refine hmd.mono ?_
  clear hmd k0 k1 k2
  rintro e w7 ⟨rfl, hM7, hK7⟩
  have HM7 := Lib.hid hM7
  have HK7 := Lib.hid (HK6.out.trans (hK7.mono fun j hj => .inl (.inl (.inl hj))))
  have BS7 := Lib.hid (hK7.box BS6.out (.inl (.inl (.inr rfl))))
  have BQ7 := Lib.hid (hK7.box BQ6.out (.inl (.inr rfl)))
  have BP7 := Lib.hid (hK7.box BP6.out (.inr rfl))
  clear hM7 hK7 BS6 BQ6 BP6 HK6
  by_cases her : er = 0
  · subst her
    have hfl := flush_m HM7.out (HCL.out rfl)
    go_wp2_with fail
    refine hfl.mono ?_
    clear hfl
    rintro e w8 ⟨rfl, hM8, hK8⟩
    have HM8 := Lib.hid hM8
    have HK8 := Lib.hid (HK7.out.trans (hK8.mono fun j hj => .inl (.inl (.inl hj))))
    have BS8 := Lib.hid (hK8.box BS7.out (.inl (.inl (.inr rfl))))
    have bQ8 := (hK8.box BQ7.out (.inl (.inr rfl)))
    have bP8 := (hK8.box BP7.out (.inr rfl))
    have k0 : w8.cell? ⟨p, 0, none⟩ = some (.int .u8 rk) := bP8.cell 0
    have k1 : w8.cell? ⟨p, 1, none⟩ = some (.int .i64 rp) := bP8.cell 1
    have k2 : w8.cell? ⟨p, 2, none⟩ = some (.int .u64 rg) := bP8.cell 2
    have n0 := bQ8.cell 0
    have n1 := bQ8.cell 1
    have n2 := bQ8.cell 2
    have z0 := bQ8.frozen 0
    have z1 := bQ8.frozen 1
    have z2 := bQ8.frozen 2
    clear hM8 hK8 HM7 HK7 BS7 BQ7 BP7 bQ8 bP8
    go_wp2_with fail
    refine bodyPost_ret (v := .tuple #[.agg #[.int .u8 rk, .int .i64 rp, .int .u64 rg], .int .i64 cn, .int .i64 0]) (by simp [results, Tryz.results38, go_sem, *]) rfl ?_
    exact ⟨rfl, mx_out HM8.out (keep3 _ _ _ _ _) HK8.out BS8.out HQS.out.1 HQS.out.2.1 HXL.out⟩
  · have f1 : (er == 0) = false := by simpa using her
    have HE := Lib.hid (show stepQ er sts1 = sts1 by unfold stepQ; rw [if_neg her])
    have k0 : w7.cell? ⟨p, 0, none⟩ = some (.int .u8 rk) := BP7.out.cell 0
    have k1 : w7.cell? ⟨p, 1, none⟩ = some (.int .i64 rp) := BP7.out.cell 1
    have k2 : w7.cell? ⟨p, 2, none⟩ = some (.int .u64 rg) := BP7.out.cell 2
    have n0 := BQ7.out.cell 0
    have n1 := BQ7.out.cell 1
    have n2 := BQ7.out.cell 2
    have z0 := BQ7.out.frozen 0
    have z1 := BQ7.out.frozen 1
    have z2 := BQ7.out.frozen 2
    clear her
    go_wp2_with fail
    refine bodyPost_ret (v := .tuple #[.agg #[.int .u8 rk, .int .i64 rp, .int .u64 rg], .int .i64 cn, .int .i64 er]) (by simp [results, Tryz.results38, go_sem, *]) rfl ?_
    rw [HE.out]
    exact ⟨rfl, mx_out HM7.out (keep3 _ _ _ _ _) HK7.out BS7.out HQS.out.1 HQS.out.2.1 HXL.out⟩
end
section
section
variable {n k N : Nat} {ps : List Pt} {gs : Nat → Nat → Bool} {sts : List DSt}
theorem Hds.repl {g : Nat → Bool} {r : Ref} {xs : List Nat} (h : Hds g k N r xs sts) (hr : r.ok n) (x : Int) : Hds (butB g x) k N r xs (replA n sts x) := by
  unfold replA
  split
  · rename_i hx
    refine h.set (fun d hd => ?_) fun hl => .inr ⟨?_, lost_zero (DSt.seen_new hr.p)⟩
    · unfold butB
      rw [decide_eq_false (by omega)]; simp
    · unfold butB
      rw [decide_eq_true (by omega)]; simp
  · rename_i hx
    refine h.congr fun d hd => ?_
    unfold butB
    rw [decide_eq_false (by omega)]; simp
/-! ### Made anew -/
end
/-! ### Which is next -/
theorem lstF_spec (is : Nat → Bool) (pl : Nat → Int) : ∀ n, ((lstF is pl n).2 = false → ∀ i, i < n → is i = false) ∧ ((lstF is pl n).2 = true → is (lstF is pl n).1 = true ∧ (lstF is pl n).1 < n ∧ ∀ i, i < n → is i = true → pl (lstF is pl n).1 ≤ pl i)
  | 0 => ⟨fun _ i hi => by omega, fun h => by simp [lstF] at h⟩
  | n + 1 => by
    obtain ⟨h1, h2⟩ := lstF_spec is pl n
    rw [lstF]
    split
    · rename_i h
      refine ⟨fun h => (by cases h), fun _ => ⟨h.1, Nat.lt_succ_self n, fun i hi hs => ?_⟩⟩
      show pl n ≤ pl i
      by_cases e : i = n
      · rw [e]; exact Int.le_refl _
      · rcases h.2 with h3 | h3
        · have := h1 h3 i (by omega); rw [hs] at this; cases this
        · cases hb : (lstF is pl n).2 with
          | false => have := h1 hb i (by omega); rw [hs] at this; cases this
          | true => have := (h2 hb).2.2 i (by omega) hs; omega
    · rename_i h
      refine ⟨fun hf i hi => ?_, fun ht => ?_⟩
      · by_cases e : i = n
        · subst e
          cases hs : is i with
          | false => rfl
          | true => exact absurd ⟨hs, .inl hf⟩ h
        · exact h1 hf i (by omega)
      · obtain ⟨a, b, c⟩ := h2 ht
        refine ⟨a, by omega, fun i hi hs => ?_⟩
        by_cases e : i = n
        · subst e
          have : ¬ pl i < pl (lstF is pl i).1 := fun hl => h ⟨hs, .inr hl⟩
          omega
        · exact c i (by omega) hs
/-- A list of names, the places of which are 0, .., L - 1, each once. -/
structure Around (R : Nat → RfI) (L : Nat) (xs : List RfI) : Prop where
  pl : ∀ p, (R p).place = (p : Int)
  all : ∀ p, p < L → ∃ i : Nat, xs[i]? = some (R p)
  sub : ∀ (i : Nat) x, xs[i]? = some x → ∃ p, p < L ∧ x = R p
theorem plF_gt {xs : List RfI} {i : Nat} (hi : i < xs.length) : xs[i]? = some (xs.getD i RfI.none_) := by
  rw [List.getD_eq_getElem?_getD, List.getElem?_eq_getElem hi]; rfl
theorem Around.next {R : Nat → RfI} {L : Nat} {xs : List RfI} (h : Around R L xs) (hL : 1 ≤ L) {began : Bool} {place : Int} {q : Nat} (hb : (began = false ∧ q = 0) ∨ ∃ p : Nat, began = true ∧ place = p ∧ p < L ∧ q = (p + 1) % L) : nextR began place xs = (R q, true) := by
  have hq : q < L := by
    rcases hb with ⟨_, rfl⟩ | ⟨p, _, _, _, rfl⟩
    · omega
    · exact Nat.mod_lt _ (by omega)
  have key : ∀ is : Nat → Bool, (∀ (i : Nat) p, xs[i]? = some (R p) → p < L → is i = true → q ≤ p) → (∀ i : Nat, xs[i]? = some (R q) → is i = true) → (lstF is (plF xs) xs.length).2 = true ∧ xs.getD (lstF is (plF xs) xs.length).1 RfI.none_ = R q := by
    intro is h1 h2
    obtain ⟨i0, hi0⟩ := h.all q hq
    obtain ⟨s1, s2⟩ := lstF_spec is (plF xs) xs.length
    have hil := (List.getElem?_eq_some_iff.1 hi0).1
    cases hbo : (lstF is (plF xs) xs.length).2 with
    | false => have := s1 hbo i0 hil; rw [h2 i0 hi0] at this; cases this
    | true =>
      obtain ⟨t1, t2, t3⟩ := s2 hbo
      refine ⟨rfl, ?_⟩
      have t4 := t3 i0 hil (h2 i0 hi0)
      have e1 := plF_gt t2
      obtain ⟨p, hp, ep⟩ := h.sub _ _ e1
      rw [ep] at e1 ⊢
      have hqp := h1 _ p e1 hp t1
      rw [plF_at e1, plF_at hi0, h.pl, h.pl] at t4
      obtain rfl : p = q := by omega
      rfl
  have hz : ∀ is : Nat → Bool, (∀ i, i < xs.length → is i = false) → (lstF is (plF xs) xs.length).2 = false := fun is hn => by
    cases hbo : (lstF is (plF xs) xs.length).2 with
    | false => rfl
    | true =>
      obtain ⟨t1, t2, _⟩ := (lstF_spec is (plF xs) xs.length).2 hbo
      rw [hn _ t2] at t1; cases t1
  unfold nextR nextN
  rcases hb with ⟨rfl, rfl⟩ | ⟨p, rfl, rfl, hp, rfl⟩
  · obtain ⟨k1, k2⟩ := key (aboveF false place xs) (fun _ _ _ _ _ => Nat.zero_le _) (fun _ _ => rfl)
    rw [if_pos k1]
    dsimp only
    rw [k2]
  · by_cases hw : p + 1 < L
    · rw [Nat.mod_eq_of_lt hw] at key ⊢
      obtain ⟨k1, k2⟩ := key (aboveF true (p : Int) xs) (fun i p2 hi _ hs => by
        unfold aboveF at hs
        rw [plF_at hi, h.pl] at hs
        simp at hs
        omega) (fun i hi => by
        unfold aboveF
        rw [plF_at hi, h.pl]
        simp only [Bool.not_true, Bool.false_or, decide_eq_true_eq]
        omega)
      rw [if_pos k1]
      dsimp only
      rw [k2]
    · have e : (p + 1) % L = 0 := by rw [show p + 1 = L by omega, Nat.mod_self]
      rw [e] at key ⊢
      have hn := hz (aboveF true (p : Int) xs) (fun i hi => by
        obtain ⟨p2, hp2, ep⟩ := h.sub _ _ (plF_gt hi)
        unfold aboveF
        rw [plF_at (plF_gt hi), ep, h.pl]
        simp
        omega)
      obtain ⟨k1, k2⟩ := key (fun _ => true) (fun _ _ _ _ _ => Nat.zero_le _) (fun _ _ => rfl)
      rw [if_neg (by rw [hn]; decide), if_pos k1]
      dsimp only
      rw [k2]
/-! ### The names of what is laid -/
def ptR (ps : List Pt) (i : Nat) : RfI := ⟨3, i, ((ps.getD i (0, [])).1 : Nat)⟩
def ptRs (ps : List Pt) : List RfI := (List.range ps.length).map (ptR ps)
theorem ptRs_len (ps : List Pt) : (ptRs ps).length = ps.length := by unfold ptRs; rw [List.length_map, List.length_range]
theorem ptRs_at (ps : List Pt) {i : Nat} (hi : i < ps.length) : (ptRs ps)[i]? = some (ptR ps i) := by unfold ptRs; rw [List.getElem?_map, List.getElem?_range hi]; rfl
theorem ptR_of {ps : List Pt} {i : Nat} {p : Pt} (h : ps[i]? = some p) : ptR ps i = ⟨3, i, (p.1 : Nat)⟩ := by unfold ptR; rw [List.getD_eq_getElem?_getD, h]; rfl
theorem ptR_C {ps : List Pt} {i : Nat} {p : Pt} (h : ps[i]? = some p) : (ptR ps i).C = refC (ptRef i p) := by rw [ptR_of h]; rfl
theorem around_pt (ps : List Pt) : Around (ptR ps) ps.length (ptRs ps) := ⟨fun _ => rfl, fun p hp => ⟨p, ptRs_at ps hp⟩, fun i x hx => by
  have hi : i < ps.length := by rw [← ptRs_len]; exact (List.getElem?_eq_some_iff.1 hx).1
  rw [ptRs_at ps hi] at hx
  exact ⟨i, hi, (Option.some.inj hx).symm⟩⟩
theorem around_turn (ps : List Pt) {q : Nat} (hq : q ≤ ps.length) : Around (ptR ps) ps.length ((ptRs ps).drop q ++ (ptRs ps).take q) := by
  have h := around_pt ps
  have hl := ptRs_len ps
  refine ⟨h.pl, fun p hp => ?_, fun i x hx => ?_⟩
  · have hm : ptR ps p ∈ (ptRs ps).drop q ++ (ptRs ps).take q := by
      have h1 : ptR ps p ∈ (ptRs ps).take q ++ (ptRs ps).drop q := by rw [List.take_append_drop]; exact List.mem_of_getElem? (ptRs_at ps hp)
      rcases List.mem_append.1 h1 with h1 | h1
      · exact List.mem_append.2 (.inr h1)
      · exact List.mem_append.2 (.inl h1)
    exact List.getElem?_of_mem hm
  · have hm := List.mem_of_getElem? hx
    have h1 : x ∈ (ptRs ps).take q ++ (ptRs ps).drop q := by
      rcases List.mem_append.1 hm with h1 | h1
      · exact List.mem_append.2 (.inr h1)
      · exact List.mem_append.2 (.inl h1)
    rw [List.take_append_drop] at h1
    obtain ⟨i2, h2⟩ := List.getElem?_of_mem h1
    exact h.sub i2 x h2
end
end Go.Proofs.YtihnlhfngmbglaaGreat
