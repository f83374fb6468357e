/-
  Blobs and versions: how they lie in memory; their contracts.
-/
import Derived.Test.YtpibaahiboajhaaRows
import Derived.Test.YtpibaahiboajhaaLib
set_option linter.unusedSimpArgs false
set_option linter.unusedVariables false
namespace Go.Proofs.Ytpibaahiboajhaa
open Go.RowKit Go.Cib
attribute [local go_sem] cell_set Later.cell Later.frozen Grw.cell Grw.frozen

theorem sl_int : SlTy Try.prog 73 3 (.int .i64 0) 1 8 := ⟨by kernel_rfl, by kernel_rfl, rfl, by decide⟩
theorem sl_ver : SlTy Try.prog 70 77 (.agg #[.int .u64 0, .bool false, .slice none 0 0, .int .u64 0, .int .i64 0]) 5 56 := ⟨by kernel_rfl, by kernel_rfl, rfl, by decide⟩

structure Blob where
  places : List Int
  gen : Int
  size : Int
structure Ver where
  stamp : Int
  dead : Bool
  blob : Blob

def Blob.none_ : Blob := ⟨[], 0, 0⟩
def Ver.none_ : Ver := ⟨0, false, .none_⟩
def Blob.same (a b : Blob) : Bool := a.size == b.size && (a.gen == b.gen && a.places == b.places)
def Ver.same (a b : Ver) : Bool := a.stamp == b.stamp && (a.dead == b.dead && a.blob.same b.blob)
def Ver.bare (v : Ver) : Bool := v.blob.size == 0 && (v.blob.gen == 0 && v.blob.places.length == 0)

theorem Blob.same_iff {a b : Blob} : a.same b = true ↔ a = b := by
  cases a; cases b; simp [Blob.same]; constructor <;> (rintro ⟨rfl, rfl, rfl⟩; simp)
theorem Ver.same_iff {a b : Ver} : a.same b = true ↔ a = b := by
  cases a; cases b; simp [Ver.same, Blob.same_iff]

/-- A blob's three cells. -/
def BlobR (S : Nat → Prop) (w : World) (cs : List Value) (x : Blob) : Prop :=
  ∃ A n c, cs = [.slice A n c, .int .u64 x.gen, .int .i64 x.size] ∧ n ≤ c ∧ RdL IntR 1 S w A n x.places
def VerR (S : Nat → Prop) (w : World) (cs : List Value) (x : Ver) : Prop :=
  ∃ A n c, cs = [.int .u64 x.stamp, .bool x.dead, .slice A n c, .int .u64 x.blob.gen, .int .i64 x.blob.size] ∧ n ≤ c ∧ RdL IntR 1 S w A n x.blob.places
theorem VerR.stable : Stable VerR := fun _ _ _ _ _ _ ⟨A, n, c, h1, h2, h3⟩ hk => ⟨A, n, c, h1, h2, h3.stable IntR.stable hk⟩
theorem BlobR.stable : Stable BlobR := fun _ _ _ _ _ _ ⟨A, n, c, h1, h2, h3⟩ hk => ⟨A, n, c, h1, h2, h3.stable IntR.stable hk⟩
theorem VerR.one : ∀ S w cs x, VerR S w cs x → ∀ u ∈ cs, u.oneCell' = true := by
  rintro S w cs x ⟨A, n, c, rfl, _, _⟩ u hu
  simp at hu
  rcases hu with rfl | rfl | rfl | rfl | rfl <;> rfl
/-- A version, a blob, as a value. -/
def VerV (S : Nat → Prop) (w : World) (x : Ver) (v : Value) : Prop :=
  ∃ A n c, v = .agg #[.int .u64 x.stamp, .bool x.dead, .slice A n c, .int .u64 x.blob.gen, .int .i64 x.blob.size] ∧ n ≤ c ∧ RdL IntR 1 S w A n x.blob.places
def BlobV (S : Nat → Prop) (w : World) (x : Blob) (v : Value) : Prop :=
  ∃ A n c, v = .agg #[.slice A n c, .int .u64 x.gen, .int .i64 x.size] ∧ n ≤ c ∧ RdL IntR 1 S w A n x.places
theorem VerV.zero {S : Nat → Prop} {w : World} : VerV S w .none_ (.agg #[.int .u64 0, .bool false, .slice none 0 0, .int .u64 0, .int .i64 0]) := ⟨none, 0, 0, rfl, Nat.le_refl _, RdL.nil⟩
theorem BlobV.zero {S : Nat → Prop} {w : World} : BlobV S w .none_ (.agg #[.slice none 0 0, .int .u64 0, .int .i64 0]) := ⟨none, 0, 0, rfl, Nat.le_refl _, RdL.nil⟩

/-- Version k of a slice, cell by cell. -/
theorem vers_at {S : Nat → Prop} {w : World} {b o n : Nat} {xs : List Ver} (h : RdL VerR 5 S w (some ⟨b, o, none⟩) n xs) {k : Nat} (hk : k < n) :
    ∃ (x : Ver) (A : Option Addr) (m c : Nat), xs[k]? = some x ∧ m ≤ c ∧ RdL IntR 1 S w A m x.blob.places ∧ w.cell? ⟨b, o + k * 5, none⟩ = some (.int .u64 x.stamp) ∧ w.cell? ⟨b, o + k * 5 + 1, none⟩ = some (.bool x.dead) ∧
      w.cell? ⟨b, o + k * 5 + 2, none⟩ = some (.slice A m c) ∧ w.cell? ⟨b, o + k * 5 + 3, none⟩ = some (.int .u64 x.blob.gen) ∧ w.cell? ⟨b, o + k * 5 + 4, none⟩ = some (.int .i64 x.blob.size) := by
  obtain ⟨hl, cs, h1, ⟨A, m, c, rfl, h2, h3⟩, h4⟩ := h.at hk
  exact ⟨xs[k], A, m, c, List.getElem?_eq_getElem hl, h2, h3, h4 0 _ rfl, h4 1 _ rfl, h4 2 _ rfl, h4 3 _ rfl, h4 4 _ rfl⟩

/-! ### bare, own -/
set_option maxHeartbeats 400000 in
theorem bare_any (st gen sz : Int) (dead : Bool) (A : Option Addr) (n c : Nat) (w : World) :
    Calls Try.prog 140 #[.agg #[.int .u64 st, .bool dead, .slice A n c, .int .u64 gen, .int .i64 sz]] w fun e w' => e = .returned (.bool (sz == 0 && (gen == 0 && n == 0))) ∧ Below w.heap.size w w' := by
  go_enter Try.func140, Try.ntmps140
  go_wp2
  all_goals
    go_ret
    refine ⟨?_, (Below.refl _ _).alloc (Nat.le_refl _) _⟩
  all_goals simp_all
  rw [Bool.eq_iff_iff]; simp

theorem bare_is (st gen sz : Int) (dead : Bool) (A : Option Addr) (n c : Nat) (w : World) {v : Bool} (hv : (sz == 0 && (gen == 0 && n == 0)) = v) :
    Calls Try.prog 140 #[.agg #[.int .u64 st, .bool dead, .slice A n c, .int .u64 gen, .int .i64 sz]] w fun e w' => e = .returned (.bool v) ∧ Below w.heap.size w w' := hv ▸ bare_any st gen sz dead A n c w

set_option maxHeartbeats 400000 in
theorem own_any (st gen sz : Int) (dead : Bool) (A : Option Addr) (n c : Nat) (w : World) {S : Nat → Prop} {pl : List Int} (hr : Hid (RdL IntR 1 S w A n pl)) (hn : n ≤ 17592186043904) :
    Calls Try.prog 121 #[.agg #[.int .u64 st, .bool dead, .slice A n c, .int .u64 gen, .int .i64 sz]] w fun e w' =>
      ∃ A' c', e = .returned (.agg #[.int .u64 st, .bool dead, .slice A' n c', .int .u64 gen, .int .i64 sz]) ∧ n ≤ c' ∧ RdL IntR 1 (w.heap.size ≤ ·) w' A' n pl ∧ Below w.heap.size w w' := by
  go_enter Try.func121, Try.ntmps121
  go_wp2_with (at_builtin; refine wpList_clone IntR.stable IntR.one sl_int rfl rfl (S' := fun b => w.heap.size + 2 ≤ b) rfl (hr.out.below IntR.stable (by repeat (first | (with_reducible exact Below.refl _ _) | (with_reducible assumption) | (with_reducible refine Below.drew ?_) | (with_reducible refine Below.setCell ?_ ?_ _) | (with_reducible refine Below.alloc ?_ ?_ _) | (with_reducible refine Below.later ?_ ?_ _) | (first | (with_reducible exact Nat.le_refl _) | omega | (simp only [World.size_alloc, World.size_setCell, World.size_drew] <;> omega))))) (fun k hk => by simp at hk; show _ ≤ k; omega) (fun _ _ _ h => h) (by unfold maxLen; omega) (by omega) ?_; intro A1 c1 y hc1 hr1)
  refine bodyPost_ret (v := .agg #[.int .u64 st, .bool dead, .slice A1 n c1, .int .u64 gen, .int .i64 sz]) (by simp [results, Try.results121, go_sem]) rfl ⟨A1, c1, rfl, hc1, ?_, (by repeat (first | (with_reducible exact Below.refl _ _) | (with_reducible assumption) | (with_reducible refine Below.drew ?_) | (with_reducible refine Below.setCell ?_ ?_ _) | (with_reducible refine Below.alloc ?_ ?_ _) | (with_reducible refine Below.later ?_ ?_ _) | (first | (with_reducible exact Nat.le_refl _) | omega | (simp only [World.size_alloc, World.size_setCell, World.size_drew] <;> omega))))⟩
  refine RdL.weaken IntR.stable (S := fun b => w.heap.size + 2 ≤ b) ?_ (fun b hb => by have hb2 : w.heap.size + 2 ≤ b := hb; show _ ≤ b; omega)
  repeat (refine RdL.setCell IntR.stable ?_ (by simp) _)
  exact hr1
end Go.Proofs.Ytpibaahiboajhaa
