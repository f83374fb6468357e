/-
  copy at elements of several cells; what a row holds behind it.
-/
import Derived.Test.YtpibaahiboajhaaRows
import Derived.Test.YtpibaahiboajhaaLib3
import Derived.Test.YtpibaahiboajhaaSlc
import Derived.Shelf.Spec.SlicesInsertGrow
import Derived.Laws.CopyRow
set_option linter.unusedSimpArgs false
set_option linter.unusedVariables false
namespace Go.Proofs.Ytpibaahiboajhaa
open Go.RowKit Go.Cib
attribute [local go_sem] cell_set Later.cell Later.frozen Grw.cell Grw.frozen
open Go.Lib

theorem run_copy_rowS {P : Program} (w : World) (dT sT ty elem : TypeId) (size g o dLen dCap : Nat) (a : Addr) (sLen sCap : Nat) (cur : Array Value) (t : TypeId) (cs : List Value)
    (hu : P.underlying dT = some (.slice elem)) (hs : (P.info? elem).map (·.size) = some size)
    (hg : w.heap[g]? = some (.cells cur t (0, 0))) (hn : cs.length = Nat.min sLen dLen * size)
    (hsrc : ∀ j v, cs[j]? = some v → w.cell? (a.add j) = some v) (hfit : o + cs.length ≤ cur.size) (h1 : ∀ v ∈ cs, v.oneCell' = true) :
    (Builtin.copy_ #[dT, sT] ty #[.slice (some ⟨g, o, none⟩) dLen dCap, .slice (some a) sLen sCap]).run P w =
      .ok (goInt (Nat.min sLen dLen)) (w.setRow g (cur.toList.take o ++ cs ++ cur.toList.drop (o + cs.length)).toArray) := by
  have hl := run_loadCells_list (P := P) w a cs hsrc
  have hst := run_storeCells_at P g o t cs 0 cur w hg (by simpa using hfit) h1
  cases hq : P.info? elem with
  | none => simp [hq] at hs
  | some i =>
    have hi : i.size = size := by simpa [hq] using hs
    simp [Builtin.copy_, run_underlying hu, Builtin.lenOf, Builtin.firstCells, sizeOf, typeInfo, hq, hi, ← hn, hl, hst]

theorem copy_row_ex {P : Program} (w : World) (dT sT ty elem : TypeId) (size g o dLen dCap : Nat) (a : Addr) (sLen sCap : Nat) (cur : Array Value) (t : TypeId) (cs : List Value)
    (hu : P.underlying dT = some (.slice elem)) (hs : (P.info? elem).map (·.size) = some size)
    (hg : w.heap[g]? = some (.cells cur t (0, 0))) (hn : cs.length = Nat.min sLen dLen * size)
    (hsrc : ∀ j v, cs[j]? = some v → w.cell? (a.add j) = some v) (hfit : o + cs.length ≤ cur.size) (h1 : ∀ v ∈ cs, v.oneCell' = true) :
    ∃ w', (Builtin.copy_ #[dT, sT] ty #[.slice (some ⟨g, o, none⟩) dLen dCap, .slice (some a) sLen sCap]).run P w = .ok (goInt (Nat.min sLen dLen)) w' ∧
      w'.heap[g]? = some (.cells (cur.toList.take o ++ cs ++ cur.toList.drop (o + cs.length)).toArray t (0, 0)) ∧ w.grownBy w' (some g) ∧ w'.heap.size = w.heap.size := by
  refine ⟨_, run_copy_rowS w dT sT ty elem size g o dLen dCap a sLen sCap cur t cs hu hs hg hn hsrc hfit h1, setRow_heap _ _ _ _ _ _ hg, ?_, by simp [World.setRow]⟩
  exact ⟨rfl, rfl, rfl, by simp [World.setRow], fun k _ hk => setRow_other _ _ _ _ (fun e => hk (by rw [e]))⟩

/-- One put among others. -/
theorem ins_flat {α : Type} (cur xs ys : List α) {a b n s : Nat} (hx : cur.take n = xs) (hn : n ≤ cur.length) (hys : ys.length = s) (ha : a ≤ n) (hb : b = a + s) (hfit : n + s ≤ cur.length) :
    (((cur.take b ++ xs.drop a ++ cur.drop (b + (xs.drop a).length)).take a ++ ys ++ (cur.take b ++ xs.drop a ++ cur.drop (b + (xs.drop a).length)).drop (a + ys.length)).take (n + s)) = xs.take a ++ ys ++ xs.drop a := by
  subst hb
  have hxl : xs.length = n := by rw [← hx, List.length_take]; omega
  have hdl : (xs.drop a).length = n - a := by rw [List.length_drop, hxl]
  have e1 : (cur.take (a + s) ++ xs.drop a ++ cur.drop (a + s + (xs.drop a).length)).take a = xs.take a := by
    rw [List.append_assoc, List.take_append_of_le_length (by rw [List.length_take]; omega), List.take_take, Nat.min_eq_left (by omega), ← hx, List.take_take, Nat.min_eq_left ha]
  have e2 : (cur.take (a + s) ++ xs.drop a ++ cur.drop (a + s + (xs.drop a).length)).drop (a + ys.length) = xs.drop a ++ cur.drop (a + s + (xs.drop a).length) := by
    rw [hys, List.append_assoc, List.drop_append_of_le_length (by rw [List.length_take]; omega)]
    have : (cur.take (a + s)).drop (a + s) = [] := List.drop_of_length_le (by rw [List.length_take]; omega)
    rw [this, List.nil_append]
  rw [e1, e2, ← List.append_assoc]
  rw [List.take_append_of_le_length (by simp only [List.length_append, List.length_take, hdl, hys, hxl]; omega)]
  exact List.take_of_length_le (by simp only [List.length_append, List.length_take, hdl, hys, hxl]; omega)
/-- What a call that puts one among others leaves. -/
def InsP (w : World) (base : Nat) (E : TypeId) (s : Nat) (v : Value) (n : Nat) (xs : List Value) (e : Ending) (w' : World) : Prop :=
  ∃ v', e = .returned v' ∧ w'.ownsRow base E s v' n xs ∧ w.grownBy w' v.ownBlock ∧ (v'.ownBlock = v.ownBlock ∨ ∃ g, v'.ownBlock = some g ∧ w.heap.size ≤ g)
theorem grown_trans {w w1 w2 : World} {r : Option Nat} (h1 : w.grownBy w1 r) (h2 : w1.grownBy w2 r) : w.grownBy w2 r :=
  ⟨h2.os.trans h1.os, h2.tape.trans h1.tape, h2.output.trans h1.output, Nat.le_trans h1.size h2.size, fun k hk hr => (h2.block k (Nat.lt_of_lt_of_le hk h1.size) hr).trans (h1.block k hk hr)⟩
theorem grown_drew {w : World} {r : Option Nat} : w.grownBy w.drew r := ⟨rfl, rfl, rfl, Nat.le_refl _, fun _ _ _ => rfl⟩
theorem grown_fresh {w w1 : World} {g : Nat} {r : Option Nat} (h : w.heap.size ≤ g) (h2 : w.grownBy w1 (some g)) : w.grownBy w1 r :=
  ⟨h2.os, h2.tape, h2.output, h2.size, fun k hk _ => h2.block k hk (fun e => by injection e with e; omega)⟩
theorem grown_of_below {w w1 : World} {r : Option Nat} (h : Below w.heap.size w w1) : w.grownBy w1 r := ⟨h.os, h.tape, h.output, h.size, fun k hk _ => h.block k hk⟩
theorem slice_suf {T E : TypeId} {z : Value} {s b : Nat} (st : SlTy Try.prog T E z s b) {g o N c k : Nat} (hk : k ≤ N) (hc : k < c) (w : World) : (Instr.slice T (.slice (some ⟨g, o, none⟩) N c) (some (.int .i64 (k : Int))) none none).run Try.prog w = .ok (.slice (some ⟨g, o + k * s, none⟩) (N - k) (c - k)) w := by
  rw [piece_suf st hk w, if_neg (by omega)]
  congr 2
  simp only [Option.map_some, Addr.add]
  split
  · rename_i e; rw [e]; rfl
  · rfl
end Go.Proofs.Ytpibaahiboajhaa
