/-
  A tree's entries from a key on, handed to a function.
-/
import Derived.Test.YtpibaahiboajhaaTre11
import Derived.RangeFuncNested
import Derived.RangeFuncBound
import Derived.RangeFuncCalls
import Derived.RangeFuncLeaves
import Derived.Shelf.Abstract
import Derived.Shelf.RegionOpen
import Derived.WalkKit
import Derived.OwnWalkIn
import Derived.TacticsInMore
import Derived.LoopNIn
import Derived.LoopIn
import Derived.Sort.LoopGhostIn
set_option linter.unusedSimpArgs false
set_option linter.unusedVariables false
namespace Go.Proofs.Ytpibaahiboajhaa
open Go.RowKit Go.Cib
attribute [local go_sem] cell_set Later.cell Later.frozen Grw.cell Grw.frozen
attribute [local go_sem] Oper.semAt_some
open Go.Shelf

/-- An entry, with its cells, as it lay in a world. -/
abbrev EntV (S : Nat → Prop) (w : World) : Type := { x : Ent × List Value // EntR S w x.2 x.1 }
def encE {S : Nat → Prop} {w : World} (x : EntV S w) : Value := .agg x.1.2.toArray
def fromE (k : ByteArray) (f : List Ent) : List Ent := f.filter fun y => !Op.bytesLess y.key.toList k.toList
theorem fromE_app (k : ByteArray) (a b : List Ent) : fromE k (a ++ b) = fromE k a ++ fromE k b := List.filter_append ..
theorem fromE_lt {k : ByteArray} {a : List Ent} (h : ∀ x ∈ a, KLt x.key k) : fromE k a = [] := by
  unfold fromE
  rw [List.filter_eq_nil_iff]
  intro x hx
  simp [h x hx]
theorem fromE_ge {k : ByteArray} {a : List Ent} (h : ∀ x ∈ a, ¬ KLt x.key k) : fromE k a = a := by
  unfold fromE
  rw [List.filter_eq_self]
  intro x hx
  simpa using h x hx
theorem RoundIn.anyDepth2 {F : Fence} (hd : F.depth = none) {m m' : Nat} {P : Program} {l : Nat} {f : FuncId} {tmps : Array Value} {assign body : Code} {w : World} {R : Ending → World → Prop}
    (h : RoundIn F m P l f tmps assign body w R) : RoundIn F m' P l f tmps assign body w R := ⟨h.1, fun c cs _ => h.2 c cs (fun d h => by rw [hd] at h; cases h)⟩
theorem YieldAt.anyDepth2 {F : Fence} (hd : F.depth = none) {m : Nat} (m' : Nat) {P : Program} {l : Nat} {args : Array Value} {W : World} {R : Ending → World → Prop} (h : YieldAt F m P l args W R) : YieldAt F m' P l args W R := by
  obtain ⟨fn, tmps, assign, body, hy, hR⟩ := h
  exact ⟨fn, tmps, assign, body, hy, RoundIn.anyDepth2 hd hR⟩
/-- What has come of a node's entries and kids ahead of kid i. -/
theorem wl_step (A : List (List Ent)) (q : List Ent) (l : List Ent) {i : Nat} (hi : i < l.length) (hA : A.length = i) : wl (A ++ [q]) (l.take (i + 1)) = wl A (l.take i) ++ q ++ [l[i]] := by
  have h := wl_app A (l.take i) [q] [l[i]] (by rw [List.length_take, hA]; omega)
  rw [← List.take_succ_eq_append_getElem hi] at h
  rw [h]; simp [wl]

theorem encE_eq {S : Nat → Prop} {w : World} {y : Ent} {VA : Option Addr} {vm vc : Nat} (h : EntR S w [.string y.key, .slice VA vm vc] y) : encE (⟨(y, [.string y.key, .slice VA vm vc]), h⟩ : EntV S w) = .agg #[.string y.key, .slice VA vm vc] := rfl
set_option maxRecDepth 100000 in
set_option maxHeartbeats 8000000 in
theorem iter_in {w : World} {base : Nat} {S : Nat → Prop} {N : NMap} (M : Hid (TMem w base S N)) (from_ : ByteArray) (l NN : Nat) (J Jx : List (EntV S w) → World → Prop)
    (hY : ∀ m pre (x : EntV S w) W, J pre W → pre.length < NN → YieldAt Fence.wide m Try.prog l #[encE x] W fun e W' => (e = .returned (.bool true) ∧ J (pre ++ [x]) W' ∧ Below w.heap.size W W') ∨ (e = .returned (.bool false) ∧ Jx (pre ++ [x]) W'))
    (hA : ∀ pre W W', J pre W → Below W.heap.size W W' → J pre W') :
    ∀ (d : Nat) (n p : Nat) (f : List Ent) (ns : List Nat) (pre : List (EntV S w)) (W : World), TreeOf N d p f ns → Rises f → Below w.heap.size w W → J pre W → pre.length + (fromE from_ f).length ≤ NN →
      CallsIn Fence.wide n Try.prog 162 #[.pointer (some ⟨p, 0, none⟩), .string from_, .func (.yield l) #[] #[]] W fun e W' =>
        (e = .returned (.bool true) ∧ ∃ q, q.map (·.1.1) = fromE from_ f ∧ J (pre ++ q) W' ∧ Below w.heap.size W W') ∨ (e = .returned (.bool false) ∧ ∃ q, q.map (·.1.1) <+: fromE from_ f ∧ Jx (pre ++ q) W') := by
  intro d
  induction d with
  | zero =>
    intro n p f ns pre W hT hr hW hJ hN
    obtain ⟨nd, hp, hks, hl5, rfl, _⟩ := hT
    have M2 := M.out.below hW
    have hN2 := M2.at_ p nd hp
    have hfind := find_any (Lib.hid hN2) from_ (by omega)
    have hpl := posE_le nd.l from_
    have htk := posE_take nd.l from_
    obtain ⟨I0, hI0⟩ : ∃ I0, posE nd.l from_ = I0 := ⟨_, rfl⟩
    have hge : ∀ i (h : i < nd.l.length), I0 ≤ i → ¬ KLt nd.l[i].key from_ := fun i h hle => by
      subst hI0
      have h0 := posE_head nd.l from_ nd.l[posE nd.l from_] (List.getElem?_eq_getElem (by omega))
      rcases Nat.eq_or_lt_of_le hle with e | hlt
      · simpa only [← e] using h0
      · exact fun h2 => h0 (bl_trans (List.pairwise_iff_getElem.1 hr _ _ _ h hlt) h2)
    rw [hI0] at hfind hpl htk
    obtain ⟨B0, hB0⟩ : ∃ B0, isE nd.l from_ = B0 := ⟨_, rfl⟩
    rw [hB0] at hfind
    have hfe : fromE from_ (nd.l.take I0) = [] := fromE_lt htk
    have HHP := Lib.hid hp
    have HKS := Lib.hid hks
    have HJ := Lib.hid hJ
    have HFE := Lib.hid hfe
    have HGE := Lib.hid hge
    have HNN := Lib.hid hN
    have HR := Lib.hid hr
    clear hJ hge hN2 M2 hB0 hp hks hN hr
    refine callsIn_of_wp Try.func162 rfl trivial ?_ rfl
    simp only [Try.ntmps162, List.size_toArray, List.length_cons, List.length_nil, Nat.reduceAdd, Nat.reduceSub, Array.replicate_succ, Array.replicate_zero, List.push_toArray, List.append_toArray, List.nil_append, List.cons_append]
    gi_wp2
    refine ⟨trivial, fun h => (by cases h), ?_⟩
    refine (callsIn_wide.2 hfind).mono ?_
    clear hfind
    rintro e W1 ⟨rfl, hb1⟩
    have HJ1 := Lib.hid (hA _ _ _ HJ.out hb1)
    have HW1 := Lib.hid (hW.trans (hb1.mono hW.size))
    have HWB := Lib.hid (hb1.mono hW.size : Below w.heap.size W W1)
    clear HJ hW hb1
    gi_wp2
    gi_loopg [7] (nd.l.length + 1 - I0) (fun gk v7 wr => ∃ (i : Nat) (q : List (EntV S w)), v7 = .int .i64 (i : Int) ∧ gk = nd.l.length + 1 - i ∧ i ≤ nd.l.length ∧ I0 ≤ i ∧ Hid (Below w.heap.size w wr) ∧ Hid (Below w.heap.size W wr) ∧ Hid (q.map (·.1.1) = fromE from_ (nd.l.take i)) ∧ Hid (J (pre ++ q) wr))
    case atStart => exact ⟨I0, [], rfl, rfl, hpl, Nat.le_refl _, HW1, HWB, Lib.hid (by rw [HFE.out]; rfl), Lib.hid (by simpa using HJ1.out)⟩
    case round =>
      obtain ⟨i, q, rfl, rfl, hi, hIi, HB, HBW, HQ, HJq⟩ := hrel
      have M2 := M.out.below HB.out
      have hN2 := M2.at_ p nd HHP.out
      have hleaf := leaf_any hN2
      have e0 : (nd.ks.length == 0) = true := by rw [HKS.out]; rfl
      rw [e0] at hleaf
      have pn0 := hN2.box.cell 0
      obtain ⟨EA, EC, hlv, hEC, ER, hEg⟩ := hN2.ents
      rw [hlv] at pn0
      by_cases hin : i = nd.l.length
      · subst hin
        clear M2 hN2 ER hlv
        gi_wp2
        refine ⟨trivial, fun h => (by cases h), ?_⟩
        refine (callsIn_wide.2 hleaf).mono ?_
        clear hleaf
        rintro e W2 ⟨rfl, rfl⟩
        gi_wp2
        refine ⟨trivial, ?_⟩
        gi_wp2
        go_ret
        exact .inl ⟨rfl, q, by rw [HQ.out, List.take_length], HJq.out, HBW.out⟩
      · have hlt : i < nd.l.length := by omega
        obtain ⟨ge, rfl⟩ := hEg (by omega)
        obtain ⟨EA0, EC0, hlv0, _, ER0, _⟩ := (M.out.at_ p nd HHP.out).ents
        have e3 : EA0 = some ⟨ge, 0, none⟩ := by
          have := hlv.symm.trans hlv0
          injection this with e1 e2 e3
          exact e1.symm
        subst e3
        obtain ⟨VA, vm, vc, hge, hERw, c0, c1⟩ := entS_at ER0 (List.getElem?_eq_getElem hlt)
        replace c0 := (HB.out.cell (p := ⟨ge, i * 2, none⟩) hge).trans c0
        replace c1 := (HB.out.cell (p := ⟨ge, i * 2 + 1, none⟩) hge).trans c1
        have hq1 : (q ++ [(⟨(nd.l[i], [.string nd.l[i].key, .slice VA vm vc]), hERw⟩ : EntV S w)]).map (·.1.1) = fromE from_ (nd.l.take (i + 1)) := by
          rw [List.map_append, HQ.out, List.take_succ_eq_append_getElem hlt, fromE_app, fromE_ge (a := [nd.l[i]]) (by simpa using HGE.out i hlt hIi)]; rfl
        have hlen : (pre ++ q).length < NN := by
          have h1 := congrArg List.length hq1
          have h2 : (fromE from_ (nd.l.take (i + 1))).length ≤ (fromE from_ nd.l).length := (List.Sublist.filter _ (List.take_sublist _ _)).length_le
          have h3 := HNN.out
          simp only [List.length_map, List.length_append, List.length_singleton] at h1 ⊢
          omega
        obtain ⟨fn, tmps, assign, body, hy, hR⟩ := hY (n - 1) (pre ++ q) ⟨(nd.l[i], [.string nd.l[i].key, .slice VA vm vc]), hERw⟩ wr HJq.out hlen
        rw [encE_eq] at hy
        have hHR := Lib.hid hR
        have HQ1 := Lib.hid hq1
        have q0 : (0 : Int) ≤ (i : Int) := Int.natCast_nonneg _
        have q1 : (i : Int) < (nd.l.length : Int) := by omega
        have q2 : ¬ ((i : Int) = (nd.l.length : Int)) := by omega
        clear M2 hN2 ER hlv hR hq1 hlen hEg ER0 hlv0
        gi_wp2
        refine ⟨trivial, fun h => (by cases h), ?_⟩
        refine (callsIn_wide.2 hleaf).mono ?_
        clear hleaf
        rintro e W2 ⟨rfl, rfl⟩
        gi_wp2
        refine ⟨trivial, ?_⟩
        gi_wp2
        refine ⟨fun h => (by cases h), ?_⟩
        refine hHR.out.mono ?_
        clear hHR
        rintro e W3 (⟨rfl, hJ3, hb3⟩ | ⟨rfl, hx3⟩)
        · have HJ3 := Lib.hid hJ3
          have HB3 := Lib.hid hb3
          have hw1 : IntKind.i64.wrap ((i : Int) + 1) = (i : Int) + 1 := by rw [IntKind.wrap_i64]; omega
          clear hJ3 hb3
          gi_wp2
          gi_roundg (nd.l.length + 1 - (i + 1))
          case measure => omega
          case rel => exact ⟨i + 1, _, rfl, rfl, hlt, by omega, Lib.hid (HB.out.trans HB3.out), Lib.hid (HBW.out.trans HB3.out), HQ1, Lib.hid (by rw [← List.append_assoc]; exact HJ3.out)⟩
        · have HX3 := Lib.hid hx3
          clear hx3
          gi_wp2
          go_ret
          refine .inr ⟨rfl, _, ?_, by rw [← List.append_assoc]; exact HX3.out⟩
          rw [HQ1.out]
          exact ⟨fromE from_ (nd.l.drop (i + 1)), by rw [← fromE_app, List.take_append_drop]⟩
  | succ d ih =>
    intro n p f ns pre W hT hr hW hJ hN
    obtain ⟨nd, ps, hp, hl5, hkl, hks, rfl, _⟩ := hT
    have M2 := M.out.below hW
    have hN2 := M2.at_ p nd hp
    have hfind := find_any (Lib.hid hN2) from_ (by omega)
    have hpl := posE_le nd.l from_
    have htk := posE_take nd.l from_
    have hpsl : ps.length = nd.l.length + 1 := by rw [hks.len]; exact hkl
    have hel : (ents ps).length = nd.l.length + 1 := by simpa using hpsl
    -- what lies ahead of kid i, kid i, what lies behind
    have hsplit : ∀ i, i ≤ nd.l.length → weave (ents ps) nd.l = wl ((ents ps).take i) (nd.l.take i) ++ ((ents ps).getD i []) ++ wr (nd.l.drop i) ((ents ps).drop (i + 1)) := fun i hi => by
      have e : ents ps = (ents ps).take i ++ (ents ps).getD i [] :: (ents ps).drop (i + 1) := by
        rw [List.getD_eq_getElem?_getD, List.getElem?_eq_getElem (by omega), Option.getD_some, List.getElem_cons_drop, List.take_append_drop]
      have := weave_at ((ents ps).take i) ((ents ps).drop (i + 1)) ((ents ps).getD i []) nd.l hi (by rw [List.length_take, hel]; omega) (by rw [List.length_drop, hel]; omega)
      rw [← e] at this
      exact this
    have hrl : Rises nd.l := by
      have h1 := hsplit nd.l.length (Nat.le_refl _)
      rw [List.take_length] at h1
      rw [h1, List.append_assoc] at hr
      exact hr.sub ((wl_sub _ nd.l (by rw [List.length_take, hel]; omega)).trans (List.sublist_append_left _ _))
    have hstep : ∀ i (h : i < nd.l.length), wl ((ents ps).take (i + 1)) (nd.l.take (i + 1)) = wl ((ents ps).take i) (nd.l.take i) ++ (ents ps).getD i [] ++ [nd.l[i]] := fun i h => by
      have e : (ents ps).take (i + 1) = (ents ps).take i ++ [(ents ps).getD i []] := by
        rw [List.getD_eq_getElem?_getD, List.getElem?_eq_getElem (by omega), Option.getD_some, List.take_succ_eq_append_getElem]
      rw [e]
      exact wl_step _ _ _ h (by rw [List.length_take, hel]; omega)
    have hkid : ∀ i, i ≤ nd.l.length → ∃ k, nd.ks[i]? = some k ∧ ∃ nq, TreeOf N d k ((ents ps).getD i []) nq := fun i hi => by
      have hik : i < nd.ks.length := by omega
      have e : nd.ks = nd.ks.take i ++ nd.ks[i] :: nd.ks.drop (i + 1) := by rw [List.getElem_cons_drop, List.take_append_drop]
      have hks2 := hks
      rw [e] at hks2
      obtain ⟨p1, p2, hps, h7, h8⟩ := hks2.split
      match p2, h8, hps with
      | q :: p2, h8, hps =>
        refine ⟨nd.ks[i], List.getElem?_eq_getElem hik, q.2, ?_⟩
        have : (ents ps).getD i [] = q.1 := by
          have hl1 : p1.length = i := by rw [h7.len, List.length_take]; omega
          rw [hps, List.getD_eq_getElem?_getD, List.getElem?_map, List.getElem?_append_right (by omega), hl1, Nat.sub_self]; rfl
        rw [this]; exact h8.1
    have hrk : ∀ i, i ≤ nd.l.length → Rises ((ents ps).getD i []) := fun i hi => by
      rw [hsplit i hi] at hr
      exact hr.sub ((List.sublist_append_right _ _).trans (List.sublist_append_left _ _))
    have hlk : ∀ i, i ≤ nd.l.length → (fromE from_ (wl ((ents ps).take i) (nd.l.take i))).length + (fromE from_ ((ents ps).getD i [])).length ≤ (fromE from_ (weave (ents ps) nd.l)).length := fun i hi => by
      rw [hsplit i hi, fromE_app, fromE_app, List.length_append, List.length_append]; omega
    have hpre : ∀ i (h : i < nd.l.length), fromE from_ (wl ((ents ps).take (i + 1)) (nd.l.take (i + 1))) <+: fromE from_ (weave (ents ps) nd.l) := fun i h => by
      rw [hsplit (i + 1) h, List.append_assoc, fromE_app]; exact List.prefix_append _ _
    have hpre2 : ∀ i, i ≤ nd.l.length → ∀ q : List Ent, q <+: fromE from_ ((ents ps).getD i []) → fromE from_ (wl ((ents ps).take i) (nd.l.take i)) ++ q <+: fromE from_ (weave (ents ps) nd.l) := fun i hi q hq => by
      rw [hsplit i hi, fromE_app, fromE_app]
      exact ((List.prefix_append_right_inj _).2 hq).trans (List.prefix_append _ _)
    have hend : fromE from_ (weave (ents ps) nd.l) = fromE from_ (wl ((ents ps).take nd.l.length) (nd.l.take nd.l.length)) ++ fromE from_ ((ents ps).getD nd.l.length []) := by
      rw [hsplit _ (Nat.le_refl _), List.drop_length, fromE_app, fromE_app]; simp [wr, fromE]
    obtain ⟨I0, hI0⟩ : ∃ I0, posE nd.l from_ = I0 := ⟨_, rfl⟩
    have hge : ∀ i (h : i < nd.l.length), I0 ≤ i → ¬ KLt nd.l[i].key from_ := fun i h hle => by
      subst hI0
      have h0 := posE_head nd.l from_ nd.l[posE nd.l from_] (List.getElem?_eq_getElem (by omega))
      rcases Nat.eq_or_lt_of_le hle with e | hlt
      · simpa only [← e] using h0
      · exact fun h2 => h0 (bl_trans (List.pairwise_iff_getElem.1 hrl _ _ _ h hlt) h2)
    rw [hI0] at hfind hpl htk
    obtain ⟨B0, hB0⟩ : ∃ B0, isE nd.l from_ = B0 := ⟨_, rfl⟩
    rw [hB0] at hfind
    have hfe : fromE from_ (wl ((ents ps).take I0) (nd.l.take I0)) = [] := by
      refine fromE_lt (wl_lt _ _ ?_ htk)
      rw [hsplit I0 hpl, List.append_assoc] at hr
      exact hr.sub (List.sublist_append_left _ _)
    have HHP := Lib.hid hp
    have HJ := Lib.hid hJ
    have HFE := Lib.hid hfe
    have HGE := Lib.hid hge
    have HNN := Lib.hid hN
    have HKID := Lib.hid hkid
    have HRK := Lib.hid hrk
    have HLK := Lib.hid hlk
    have HPRE := Lib.hid hpre
    have HPRE2 := Lib.hid hpre2
    have HSTEP := Lib.hid hstep
    have HEND := Lib.hid hend
    have HKL := Lib.hid hkl
    obtain ⟨AF, hAF⟩ : ∃ AF, fromE from_ (weave (ents ps) nd.l) = AF := ⟨_, rfl⟩
    rw [hAF] at HPRE HPRE2 HLK HEND HNN ⊢
    obtain ⟨WL, hWL⟩ : ∃ WL : Nat → List Ent, (fun i => wl ((ents ps).take i) (nd.l.take i)) = WL := ⟨_, rfl⟩
    have hWL' : ∀ i, wl ((ents ps).take i) (nd.l.take i) = WL i := fun i => congrFun hWL i
    obtain ⟨KD, hKD⟩ : ∃ KD : Nat → List Ent, (fun i => (ents ps).getD i []) = KD := ⟨_, rfl⟩
    have hKD' : ∀ i, (ents ps).getD i [] = KD i := fun i => congrFun hKD i
    simp only [hWL', hKD'] at HPRE HPRE2 HLK HEND HFE HSTEP HKID HRK
    clear hJ hge hN2 M2 hB0 hp hN hr hkid hrk hlk hpre hpre2 hstep hend hkl hAF hWL hKD hWL' hKD' hsplit hrl hks hpsl hel hfe
    refine callsIn_of_wp Try.func162 rfl trivial ?_ rfl
    simp only [Try.ntmps162, List.size_toArray, List.length_cons, List.length_nil, Nat.reduceAdd, Nat.reduceSub, Array.replicate_succ, Array.replicate_zero, List.push_toArray, List.append_toArray, List.nil_append, List.cons_append]
    gi_wp2
    refine ⟨trivial, fun h => (by cases h), ?_⟩
    refine (callsIn_wide.2 hfind).mono ?_
    clear hfind
    rintro e W1 ⟨rfl, hb1⟩
    have HJ1 := Lib.hid (hA _ _ _ HJ.out hb1)
    have HW1 := Lib.hid (hW.trans (hb1.mono hW.size))
    have HWB := Lib.hid (hb1.mono hW.size : Below w.heap.size W W1)
    clear HJ hW hb1
    gi_wp2
    gi_loopg [7] (nd.l.length + 1 - I0) (fun gk v7 wr => ∃ (i : Nat) (q : List (EntV S w)), v7 = .int .i64 (i : Int) ∧ gk = nd.l.length + 1 - i ∧ i ≤ nd.l.length ∧ I0 ≤ i ∧ Hid (Below w.heap.size w wr) ∧ Hid (Below w.heap.size W wr) ∧ Hid (q.map (·.1.1) = fromE from_ (WL i)) ∧ Hid (J (pre ++ q) wr))
    case atStart => exact ⟨I0, [], rfl, rfl, hpl, Nat.le_refl _, HW1, HWB, Lib.hid (by rw [HFE.out]; rfl), Lib.hid (by simpa using HJ1.out)⟩
    case round =>
      obtain ⟨i, q, rfl, rfl, hi, hIi, HB, HBW, HQ, HJq⟩ := hrel
      have M2 := M.out.below HB.out
      have hN2 := M2.at_ p nd HHP.out
      have hleaf := leaf_any hN2
      have e0 : (nd.ks.length == 0) = false := beq_eq_false_iff_ne.2 (by have := HKL.out; omega)
      rw [e0] at hleaf
      obtain ⟨k, hk, nq, hTk⟩ := HKID.out i hi
      obtain ⟨PA, PC, hpv, hPC, PR, hPg⟩ := hN2.kids
      have hkl := HKL.out
      obtain ⟨gk', rfl⟩ := hPg (by omega)
      have hiK : i < nd.ks.length := by omega
      obtain ⟨gb, go, q3, hgo, hq3, hgb, _, hcell⟩ := ptr_at PR hiK
      cases hgo
      have e3 : q3 = k := by rw [hq3] at hk; exact Option.some.inj hk
      subst e3
      rw [Nat.zero_add] at hcell
      have pn1 := hN2.box.cell 1
      rw [hpv] at pn1
      have q0 : (0 : Int) ≤ (i : Int) := Int.natCast_nonneg _
      have q1 : (i : Int) < (nd.l.length : Int) + 1 := by omega
      have hrec := ih (n - 1) q3 (KD i) nq (pre ++ q) wr hTk (HRK.out i hi) HB.out HJq.out (by
        have h1 := congrArg List.length HQ.out
        have h2 := HLK.out i hi
        have h3 := HNN.out
        simp only [List.length_map, List.length_append] at h1 ⊢
        omega)
      have hplt := hN2.box.lt
      clear M2 hN2 PR hk hq3 hTk HKL
      gi_wp2
      refine ⟨trivial, fun h => (by cases h), ?_⟩
      refine (callsIn_wide.2 hleaf).mono ?_
      clear hleaf
      rintro e W2 ⟨rfl, rfl⟩
      gi_wp2
      refine ⟨trivial, fun h => (by cases h), ?_⟩
      refine hrec.mono ?_
      clear hrec
      rintro e W3 (⟨rfl, qk, hqk, hJk, hbk⟩ | ⟨rfl, qk, hqk, hxk⟩)
      · have HBK := Lib.hid hbk
        have HQK := Lib.hid hqk
        have HJK := Lib.hid hJk
        have hN3 := (M.out.below (HB.out.trans hbk)).at_ p nd HHP.out
        clear hbk hqk hJk
        have pn0 := hN3.box.cell 0
        obtain ⟨EA, EC, hlv, hEC, ER, hEg⟩ := hN3.ents
        rw [hlv] at pn0
        by_cases hin : i = nd.l.length
        · subst hin
          clear hN3 ER hlv
          gi_wp2
          go_ret
          exact .inl ⟨rfl, q ++ qk, by rw [List.map_append, HQ.out, HQK.out, HEND.out], by have := HJK.out; simpa only [List.append_assoc] using this, HBW.out.trans HBK.out⟩
        · have hlt : i < nd.l.length := by omega
          obtain ⟨ge, rfl⟩ := hEg (by omega)
          obtain ⟨EA0, EC0, hlv0, _, ER0, _⟩ := (M.out.at_ p nd HHP.out).ents
          have e3 : EA0 = some ⟨ge, 0, none⟩ := by
            have := hlv.symm.trans hlv0
            injection this with e1 e2 e3
            exact e1.symm
          subst e3
          obtain ⟨VA, vm, vc, hge, hERw, c0, c1⟩ := entS_at ER0 (List.getElem?_eq_getElem hlt)
          replace c0 := ((HB.out.trans HBK.out).cell (p := ⟨ge, i * 2, none⟩) hge).trans c0
          replace c1 := ((HB.out.trans HBK.out).cell (p := ⟨ge, i * 2 + 1, none⟩) hge).trans c1
          have hq1 : (q ++ qk ++ [(⟨(nd.l[i], [.string nd.l[i].key, .slice VA vm vc]), hERw⟩ : EntV S w)]).map (·.1.1) = fromE from_ (WL (i + 1)) := by
            rw [List.map_append, List.map_append, HQ.out, HQK.out, HSTEP.out i hlt, fromE_app, fromE_app, fromE_ge (a := [nd.l[i]]) (by simpa using HGE.out i hlt hIi)]; rfl
          have hlen : (pre ++ q ++ qk).length < NN := by
            have h1 := congrArg List.length hq1
            have h2 := (HPRE.out i hlt).length_le
            have h3 := HNN.out
            simp only [List.length_map, List.length_append, List.length_singleton] at h1 ⊢
            omega
          obtain ⟨fn, tmps, assign, body, hy, hR⟩ := hY (n - 1) (pre ++ q ++ qk) ⟨(nd.l[i], [.string nd.l[i].key, .slice VA vm vc]), hERw⟩ W3 HJK.out hlen
          rw [encE_eq] at hy
          have hHR := Lib.hid hR
          have HQ1 := Lib.hid hq1
          have r1 : (i : Int) < (nd.l.length : Int) := by omega
          have r2 : ¬ ((i : Int) = (nd.l.length : Int)) := by omega
          clear hN3 ER hlv hR hq1 hlen hEg ER0 hlv0
          gi_wp2
          refine ⟨fun h => (by cases h), ?_⟩
          refine hHR.out.mono ?_
          clear hHR
          rintro e W4 (⟨rfl, hJ4, hb4⟩ | ⟨rfl, hx3⟩)
          · have HJ4 := Lib.hid hJ4
            have HB4 := Lib.hid hb4
            have hw1 : IntKind.i64.wrap ((i : Int) + 1) = (i : Int) + 1 := by rw [IntKind.wrap_i64]; omega
            clear hJ4 hb4
            gi_wp2
            gi_roundg (nd.l.length + 1 - (i + 1))
            case measure => omega
            case rel => exact ⟨i + 1, _, rfl, rfl, hlt, by omega, Lib.hid ((HB.out.trans HBK.out).trans HB4.out), Lib.hid ((HBW.out.trans HBK.out).trans HB4.out), HQ1, Lib.hid (by have := HJ4.out; simpa only [List.append_assoc] using this)⟩
          · have HX3 := Lib.hid hx3
            clear hx3
            gi_wp2
            go_ret
            refine .inr ⟨rfl, _, ?_, by have := HX3.out; simpa only [List.append_assoc] using this⟩
            have hq9 := HQ1.out
            rw [List.append_assoc] at hq9
            rw [hq9]
            exact HPRE.out i hlt
      · have HXK := Lib.hid hxk
        clear hxk
        gi_wp2
        go_ret
        exact .inr ⟨rfl, q ++ qk, by rw [List.map_append, HQ.out]; exact HPRE2.out i hi _ hqk, by have := HXK.out; simpa only [List.append_assoc] using this⟩
end Go.Proofs.Ytpibaahiboajhaa
