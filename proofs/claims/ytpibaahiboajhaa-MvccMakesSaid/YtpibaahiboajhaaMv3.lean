/-
  What a record makes of a store's chains.
-/
import Derived.Test.YtpibaahiboajhaaMv1
import Derived.Test.YtpibaahiboajhaaMv2
import Derived.Deep.RegionHeld3
set_option linter.unusedSimpArgs false
set_option linter.unusedVariables false
namespace Go.Proofs.Ytpibaahiboajhaa
open Go.RowKit Go.Cib
attribute [local go_sem] cell_set Later.cell Later.frozen Grw.cell Grw.frozen

structure Chg where
  key : ByteArray
  dead : Bool
  blob : Blob
def ChgR (S : Nat → Prop) (w : World) (cs : List Value) (x : Chg) : Prop := ∃ A n c, cs = [.string x.key, .bool x.dead, .slice A n c, .int .u64 x.blob.gen, .int .i64 x.blob.size] ∧ n ≤ c ∧ RdL IntR 1 S w A n x.blob.places
theorem ChgR.stable : Stable ChgR := fun _ _ _ _ _ _ ⟨A, n, c, h1, h2, h3⟩ hk => ⟨A, n, c, h1, h2, h3.stable IntR.stable hk⟩
theorem chg_at {S : Nat → Prop} {w : World} {b o n : Nat} {xs : List Chg} (h : RdL ChgR 5 S w (some ⟨b, o, none⟩) n xs) {k : Nat} (hk : k < n) :
    ∃ (x : Chg) (A : Option Addr) (m c : Nat), xs[k]? = some x ∧ m ≤ c ∧ RdL IntR 1 S w A m x.blob.places ∧ w.cell? ⟨b, o + k * 5, none⟩ = some (.string x.key) ∧ w.cell? ⟨b, o + k * 5 + 1, none⟩ = some (.bool x.dead) ∧
      w.cell? ⟨b, o + k * 5 + 2, none⟩ = some (.slice A m c) ∧ w.cell? ⟨b, o + k * 5 + 3, none⟩ = some (.int .u64 x.blob.gen) ∧ w.cell? ⟨b, o + k * 5 + 4, none⟩ = some (.int .i64 x.blob.size) := by
  obtain ⟨hl, cs, h1, ⟨A, m, c, rfl, h2, h3⟩, h4⟩ := h.at hk
  exact ⟨xs[k], A, m, c, List.getElem?_eq_getElem hl, h2, h3, h4 0 _ rfl, h4 1 _ rfl, h4 2 _ rfl, h4 3 _ rfl, h4 4 _ rfl⟩
theorem sl_chg : SlTy Try.prog 134 138 (.agg #[.string ⟨#[]⟩, .slice none 0 0]) 2 40 := ⟨by kernel_rfl, by kernel_rfl, rfl, by decide⟩
def keyOk (k : ByteArray) : Bool := decide (0 < k.size ∧ k.size ≤ 16)
def changedL (L : List Ent) (st : Int) : ByteArray → List Chg → Option (List Ent)
  | _, [] => some []
  | pk, c :: cs => match addL ((getE L c.key).getD []) ⟨st, c.dead, c.blob⟩ with
    | some l => if keyOk c.key && Op.bytesLess pk.toList c.key.toList then (changedL L st c.key cs).map (⟨c.key, l⟩ :: ·) else none
    | none => none
set_option maxRecDepth 100000 in
theorem okey_any (k : ByteArray) (w : World) :
    Calls Try.prog 110 #[.string k] w fun e w' => e = .returned (.bool (keyOk k)) ∧ w' = w := by
  unfold keyOk
  by_cases h0 : 0 < k.size
  · have e0 : (0 : Int) < (k.size : Int) := by omega
    by_cases h1 : k.size ≤ 16
    · have e1 : (k.size : Int) ≤ 16 := by omega
      go_enter Try.func110, Try.ntmps110
      go_wp2_with fail
      go_ret
      exact ⟨by simp [h0, h1], rfl⟩
    · have e1 : ¬ (k.size : Int) ≤ 16 := by omega
      go_enter Try.func110, Try.ntmps110
      go_wp2_with fail
      go_ret
      exact ⟨by simp [h0, h1], rfl⟩
  · have e0 : ¬ (0 : Int) < (k.size : Int) := by omega
    go_enter Try.func110, Try.ntmps110
    go_wp2_with fail
    go_ret
    exact ⟨by simp [h0], rfl⟩
end Go.Proofs.Ytpibaahiboajhaa
