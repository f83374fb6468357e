/-
  What is found: a key, with its value or its blob.
-/
import Derived.Test.YtpibaahiboajhaaRows
import Derived.Test.YtpibaahiboajhaaLib3
set_option linter.unusedSimpArgs false
set_option linter.unusedVariables false
namespace Go.Proofs.Ytpibaahiboajhaa
open Go.RowKit Go.Cib
attribute [local go_sem] cell_set Later.cell Later.frozen Grw.cell Grw.frozen

/-! ### What is found -/
structure Fd where
  key : ByteArray
  own : Bool
  val : List Int
  places : List Int
  gen : Int
  size : Int
def FdR (S : Nat → Prop) (w : World) (cs : List Value) (x : Fd) : Prop := ∃ A m c B n e, cs = [.string x.key, .bool x.own, .slice A m c, .slice B n e, .int .u64 x.gen, .int .i64 x.size] ∧ RdL U8R 1 S w A m x.val ∧ RdL IntR 1 S w B n x.places
theorem FdR.stable : Stable FdR := by
  rintro S S' w w' cs e ⟨A, m, c, B, n, d, rfl, h, h2⟩ hk
  exact ⟨A, m, c, B, n, d, rfl, h.stable U8R.stable hk, h2.stable IntR.stable hk⟩
theorem FdR.one : ∀ S w cs x, FdR S w cs x → ∀ u ∈ cs, u.oneCell' = true := by
  rintro S w cs x ⟨A, m, c, B, n, d, rfl, _⟩ u hu
  simp only [List.mem_cons, List.not_mem_nil, or_false] at hu
  rcases hu with rfl | rfl | rfl | rfl | rfl | rfl <;> rfl
def zFd : Value := .agg #[.string ⟨#[]⟩, .bool false, .slice none 0 0, .slice none 0 0, .int .u64 0, .int .i64 0]
theorem sl_fd : SlTy Try.prog 66 82 zFd 6 88 := ⟨by kernel_rfl, by kernel_rfl, by kernel_rfl, by omega⟩
theorem fd_at {S : Nat → Prop} {w : World} {A : Option Addr} {m : Nat} {xs : List Fd} (h : RdL FdR 6 S w A m xs) {i : Nat} (hi : i < m) : ∃ b o x A' m' c' B' n' d', A = some ⟨b, o, none⟩ ∧ xs[i]? = some x ∧ b < w.heap.size ∧ S b ∧ RdL U8R 1 S w A' m' x.val ∧ RdL IntR 1 S w B' n' x.places ∧
    w.cell? ⟨b, o + i * 6, none⟩ = some (.string x.key) ∧ w.cell? ⟨b, o + i * 6 + 1, none⟩ = some (.bool x.own) ∧ w.cell? ⟨b, o + i * 6 + 2, none⟩ = some (.slice A' m' c') ∧ w.cell? ⟨b, o + i * 6 + 3, none⟩ = some (.slice B' n' d') ∧ w.cell? ⟨b, o + i * 6 + 4, none⟩ = some (.int .u64 x.gen) ∧ w.cell? ⟨b, o + i * 6 + 5, none⟩ = some (.int .i64 x.size) := by
  obtain ⟨b, o, rfl, hS, hlt⟩ := h.addr hi
  obtain ⟨hl, cs, h1, ⟨A', m', c', B', n', d', rfl, hr, hr2⟩, h3⟩ := h.at hi
  exact ⟨b, o, xs[i], A', m', c', B', n', d', rfl, by simp [hl], hlt, hS, hr, hr2, h3 0 _ rfl, h3 1 _ rfl, h3 2 _ rfl, h3 3 _ rfl, h3 4 _ rfl, h3 5 _ rfl⟩

end Go.Proofs.Ytpibaahiboajhaa
