/-
  An oracle in memory; what changes no map.
-/
import Derived.Test.YtpibaahiboajhaaSrt11
import Derived.Test.YtpibaahiboajhaaLib3
import Derived.Laws.LoneSync
set_option linter.unusedSimpArgs false
set_option linter.unusedVariables false
namespace Go.Proofs.Ytpibaahiboajhaa
open Go.RowKit Go.Cib
attribute [local go_sem] cell_set Later.cell Later.frozen Grw.cell Grw.frozen
open Go.Proofs

/-- An oracle: its cells, and the map that counts the starts that are open. -/
structure OrcAt (w : World) (o b : Nat) (last most : Int) (L : List Int) : Prop where
  box : BoxAt w o #[.int .u64 last, .int .u64 most, .map (some b), .int .i64 L.length]
  ne : o ≠ b
  map : ∃ es, MapAt (Value.int .u64) w b es ∧ ∀ s, mlook es s = if L.count s = 0 then none else some (.int .i64 (L.count s))
  len : L.length ≤ 1000
  rng : 0 ≤ last ∧ last ≤ most ∧ most < 18446744073709551616
section
variable {w w' : World} {o b : Nat} {last most : Int} {L : List Int}
theorem OrcAt.below (h : OrcAt w o b last most L) (hb : Below w.heap.size w w') : OrcAt w' o b last most L := by
  obtain ⟨es, h1, h2⟩ := h.map
  exact ⟨h.box.below hb, h.ne, ⟨es, h1.below hb, h2⟩, h.len, h.rng⟩
end

theorem load64 {w : World} {a : Addr} {x : Int} (hc : w.cell? a = some (.int .u64 x)) : (callFunc 104 #[.pointer (some a)]).run Try.prog w = .ok (.value (.int .u64 x)) w :=
  run_call_load Try.func104 (by kernel_rfl) (by kernel_rfl) (by kernel_rfl) .u64 (by kernel_rfl) hc
theorem store64 {w : World} {a : Addr} {y : Int} {u : Value} (hc : w.cell? a = some u) (hz : w.frozen? a = false) :
    (callFunc 103 #[.pointer (some a), .int .u64 y]).run Try.prog w = .ok (.value (.tuple #[])) (w.setCell a (.int .u64 y)) :=
  run_call_store Try.func103 (by kernel_rfl) (by kernel_rfl) (by kernel_rfl) (by kernel_rfl) hc hz
theorem load_ok {w : World} {o : Nat} {x : Int} (hc : w.cell? ⟨o, 0, none⟩ = some (.int .u64 x)) : Calls Try.prog 66 #[.pointer (some ⟨o, 0, none⟩)] w fun e w' => e = .returned (.int .u64 x) ∧ w' = w := by
  have hl := load64 hc
  go_enter Try.func66, Try.ntmps66
  go_wp2
  go_ret
  exact ⟨rfl, rfl⟩
theorem store_ok {w : World} {o : Nat} {y : Int} {u : Value} (hc : w.cell? ⟨o, 0, none⟩ = some u) (hz : w.frozen? ⟨o, 0, none⟩ = false) : Calls Try.prog 64 #[.pointer (some ⟨o, 0, none⟩), .int .u64 y] w fun e w' => e = .returned (.tuple #[]) ∧ w' = w.setCell ⟨o, 0, none⟩ (.int .u64 y) := by
  have hl := store64 (y := y) hc hz
  go_enter Try.func64, Try.ntmps64
  go_wp2
  go_end0
  exact ⟨rfl, rfl⟩
set_option maxRecDepth 100000 in
theorem eql_map (mb : Option Nat) (w : World) : (Sem.run Try.prog (binOp BinOp.eql 51 (Value.map mb) (Value.map none)) w) = .ok (.bool mb.isNone) w := by
  cases mb <;> kernel_rfl
set_option maxRecDepth 100000 in
theorem onone_is {w : World} {o b : Nat} (hc : w.cell? ⟨o, 2, none⟩ = some (.map (some b))) : Calls Try.prog 65 #[.pointer (some ⟨o, 0, none⟩)] w fun e w' => e = .returned (.bool false) ∧ w' = w := by
  have hu := eql_map
  go_enter Try.func65, Try.ntmps65
  go_wp2_with fail
  go_ret
  exact ⟨rfl, rfl⟩
set_option maxRecDepth 100000 in
theorem onone_nil (w : World) : Calls Try.prog 65 #[.pointer none] w fun e w' => e = .returned (.bool true) ∧ w' = w := by
  have hu := eql_map
  go_enter Try.func65, Try.ntmps65
  go_wp2
  go_ret
  exact ⟨rfl, rfl⟩
set_option maxRecDepth 100000 in
theorem onone_empty {w : World} {o : Nat} (hc : w.cell? ⟨o, 2, none⟩ = some (.map none)) : Calls Try.prog 65 #[.pointer (some ⟨o, 0, none⟩)] w fun e w' => e = .returned (.bool true) ∧ w' = w := by
  have hu := eql_map
  go_enter Try.func65, Try.ntmps65
  go_wp2
  go_ret
  exact ⟨rfl, rfl⟩
section
variable {w : World} {o b : Nat} {last most : Int} {L : List Int}
theorem olast_ok (h : OrcAt w o b last most L) : Calls Try.prog 25 #[.pointer (some ⟨o, 0, none⟩)] w fun e w' => e = .returned (.int .u64 last) ∧ w' = w := by
  have hn := onone_is (h.box.cell 2)
  have hl := load_ok (h.box.cell 0)
  clear h
  go_enter Try.func25, Try.ntmps25
  go_wp2_with (first
    | (go_at_call 65; refine hn.mono ?_; rintro e w' ⟨rfl, rfl⟩)
    | (go_at_call 66; refine hl.mono ?_; rintro e w' ⟨rfl, rfl⟩))
  go_ret
  exact ⟨rfl, rfl⟩
theorem omost_ok (h : OrcAt w o b last most L) : Calls Try.prog 26 #[.pointer (some ⟨o, 0, none⟩)] w fun e w' => e = .returned (.int .u64 most) ∧ w' = w := by
  have hn := onone_is (h.box.cell 2)
  have c1 := h.box.cell 1
  clear h
  go_enter Try.func26, Try.ntmps26
  go_wp2_with (go_at_call 65; refine hn.mono ?_; rintro e w' ⟨rfl, rfl⟩)
  go_ret
  exact ⟨rfl, rfl⟩
theorem oopen_ok (h : OrcAt w o b last most L) : Calls Try.prog 27 #[.pointer (some ⟨o, 0, none⟩)] w fun e w' => e = .returned (.int .i64 L.length) ∧ w' = w := by
  have hn := onone_is (h.box.cell 2)
  have c1 := h.box.cell 3
  clear h
  go_enter Try.func27, Try.ntmps27
  go_wp2_with (go_at_call 65; refine hn.mono ?_; rintro e w' ⟨rfl, rfl⟩)
  go_ret
  exact ⟨rfl, rfl⟩
theorem onext_ok (h : OrcAt w o b last most L) : Calls Try.prog 21 #[.pointer (some ⟨o, 0, none⟩)] w fun e w' =>
    e = .returned (if last < most then .tuple #[.int .u64 (last + 1), .int .i64 0] else .tuple #[.int .u64 0, .int .i64 230]) ∧ ∃ q, w' = w.drewN q := by
  have hn := onone_is (h.box.cell 2)
  have hl := fun q => olast_ok (w := w.drewN q) ⟨h.box, h.ne, h.map, h.len, h.rng⟩
  have c1 := h.box.cell 1
  obtain ⟨r1, r2, r3⟩ := h.rng
  clear h
  by_cases hlt : last < most
  · rw [if_pos hlt]
    have q1 : decide (most ≤ last) = false := decide_eq_false (by omega)
    have q2 : ¬ most ≤ last := by omega
    go_enter Try.func21, Try.ntmps21
    go_wp2_with (go_at_call 65; refine hn.mono ?_; rintro e w' ⟨rfl, rfl⟩)
    go_quiet (first | (go_at_call 25; refine Calls.quiet_of_same (hl _)))
    go_wp2_with (go_at_call 25; refine (hl nq).mono ?_; rintro e w' ⟨rfl, rfl⟩)
    refine bodyPost_ret (v := .tuple #[.int .u64 (last + 1), .int .i64 0]) (by simp [results, Try.results21, go_sem, *]) rfl ?_
    exact ⟨rfl, nq, rfl⟩
  · rw [if_neg hlt]
    have q1 : decide (most ≤ last) = true := decide_eq_true (by omega)
    have q2 : most ≤ last := by omega
    go_enter Try.func21, Try.ntmps21
    go_wp2_with (go_at_call 65; refine hn.mono ?_; rintro e w' ⟨rfl, rfl⟩)
    go_quiet (first | (go_at_call 25; refine Calls.quiet_of_same (hl _)))
    go_wp2
    refine bodyPost_ret (v := .tuple #[.int .u64 0, .int .i64 230]) (by simp [results, Try.results21, go_sem, *]) rfl ?_
    exact ⟨rfl, nq, rfl⟩
theorem opub_ok (s : Int) (h : OrcAt w o b last most L) : Calls Try.prog 23 #[.pointer (some ⟨o, 0, none⟩), .int .u64 s] w fun e w' =>
    e = .returned (.bool (decide (last < s ∧ s ≤ most))) ∧ OrcAt w' o b (if last < s ∧ s ≤ most then s else last) most L ∧ Keep (fun k => k = o ∨ k = b) w w' := by
  have hn := onone_is (h.box.cell 2)
  have hl := olast_ok h
  have c1 := h.box.cell 1
  have hst := store_ok (y := s) (h.box.cell 0) (h.box.frozen 0)
  have H := Lib.hid h
  clear h
  by_cases h1 : last < s
  · have q1 : decide (s ≤ last) = false := decide_eq_false (by omega)
    have q2 : ¬ s ≤ last := by omega
    by_cases h2 : s ≤ most
    · rw [if_pos ⟨h1, h2⟩, decide_eq_true (show last < s ∧ s ≤ most from ⟨h1, h2⟩)]
      have q3 : decide (most < s) = false := decide_eq_false (by omega)
      have q4 : ¬ most < s := by omega
      go_enter Try.func23, Try.ntmps23
      go_wp2_with (first
        | (go_at_call 65; refine hn.mono ?_; rintro e w' ⟨rfl, rfl⟩)
        | (go_at_call 25; refine hl.mono ?_; rintro e w' ⟨rfl, rfl⟩)
        | (go_at_call 64; refine hst.mono ?_; rintro e w' ⟨rfl, rfl⟩))
      go_ret
      refine ⟨rfl, ?_, (Keep.refl _ _).setCell (fun _ => Or.inl rfl) _⟩
      have hb := H.out.box.set 0 (.int .u64 s)
      obtain ⟨es, m1, m2⟩ := H.out.map
      exact ⟨hb, H.out.ne, ⟨es, m1.keep (Below.heap_setCell _ _ _ _ (by have := H.out.ne; show b ≠ o; omega)), m2⟩, H.out.len, by have := H.out.rng; omega⟩
    · have hf : ¬ (last < s ∧ s ≤ most) := fun h => h2 h.2
      rw [if_neg hf, decide_eq_false hf]
      have q3 : decide (most < s) = true := decide_eq_true (by omega)
      have q4 : most < s := by omega
      go_enter Try.func23, Try.ntmps23
      go_wp2_with (first
        | (go_at_call 65; refine hn.mono ?_; rintro e w' ⟨rfl, rfl⟩)
        | (go_at_call 25; refine hl.mono ?_; rintro e w' ⟨rfl, rfl⟩))
      go_ret
      exact ⟨rfl, H.out, Keep.refl _ _⟩
  · have hf : ¬ (last < s ∧ s ≤ most) := fun h => h1 h.1
    rw [if_neg hf, decide_eq_false hf]
    have q1 : decide (s ≤ last) = true := decide_eq_true (by omega)
    have q2 : s ≤ last := by omega
    go_enter Try.func23, Try.ntmps23
    go_wp2_with (first
      | (go_at_call 65; refine hn.mono ?_; rintro e w' ⟨rfl, rfl⟩)
      | (go_at_call 25; refine hl.mono ?_; rintro e w' ⟨rfl, rfl⟩))
    go_ret
    exact ⟨rfl, H.out, Keep.refl _ _⟩
end
/-- A new oracle: two blocks of its own. -/
theorem onew_ok (w : World) (last most : Int) (h0 : 0 ≤ last) (h1 : last ≤ most) (h2 : most < 18446744073709551616) : Calls Try.prog 15 #[.int .u64 last, .int .u64 most] w fun e w' =>
    e = .returned (.pointer (some ⟨w.heap.size + 1, 0, none⟩)) ∧ OrcAt w' (w.heap.size + 1) w.heap.size last most [] ∧ Below w.heap.size w w' := by
  have q1 : decide (most < last) = false := decide_eq_false (by omega)
  have q2 : ¬ most < last := by omega
  have hbA := BoxAt.new (w.alloc (.map #[] 0)) #[.int .u64 0, .int .u64 most, .map (some w.heap.size), .int .i64 0] 53
  rw [World.size_alloc] at hbA
  have hst := store_ok (y := last) (hbA.cell 0) (hbA.frozen 0)
  clear hbA
  have hmm := @run_makeMap Try.prog
  go_enter Try.func15, Try.ntmps15
  go_wp2_with (go_at_call 64; refine hst.mono ?_; rintro e w' ⟨rfl, rfl⟩)
  go_ret
  refine ⟨by simp, ⟨by have := BoxAt.new (w.alloc (.map #[] 0)) #[.int .u64 last, .int .u64 most, .map (some w.heap.size), .int .i64 0] 53; rwa [World.size_alloc] at this, by omega, ⟨[], (MapAt.new (Value.int .u64) w).alloc _, fun s => by simp [mlook]⟩, by simp, h0, h1, h2⟩, ((Below.refl _ w).alloc (Nat.le_refl _) _).alloc (by simp) _⟩
theorem onew_none (w : World) (last most : Int) (h : most < last) : Calls Try.prog 15 #[.int .u64 last, .int .u64 most] w fun e w' => e = .returned (.pointer none) ∧ w' = w := by
  have q1 : decide (most < last) = true := decide_eq_true h
  go_enter Try.func15, Try.ntmps15
  go_wp2
  go_ret
  exact ⟨rfl, rfl⟩
end Go.Proofs.Ytpibaahiboajhaa
