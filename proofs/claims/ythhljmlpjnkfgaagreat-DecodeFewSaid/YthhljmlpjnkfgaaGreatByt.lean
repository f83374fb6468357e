/-
  Rows of bytes in memory, as lists of numbers below 256.
-/
import Derived.Test.YthhljmlpjnkfgaaGreatRows
import Derived.Test.YthhljmlpjnkfgaaGreatLib
import Derived.Test.YthhljmlpjnkfgaaGreatLib3
import Derived.Test.YthhljmlpjnkfgaaGreatGf4
import Derived.IntWalk
set_option linter.unusedSimpArgs false
set_option linter.unusedVariables false
namespace Go.Proofs.YthhljmlpjnkfgaaGreat
open Go.RowKit Go.Cib
attribute [local go_sem] cell_set Later.cell Later.frozen Grw.cell Grw.frozen

def ByR (_ : Nat → Prop) (_ : World) (cs : List Value) (x : Nat) : Prop := x < 256 ∧ cs = [.int .u8 (x : Int)]
theorem ByR.stable : Stable ByR := fun _ _ _ _ _ _ h _ => h
theorem ByR.one : ∀ S w cs x, ByR S w cs x → ∀ u ∈ cs, u.oneCell' = true := by
  rintro S w cs x ⟨_, rfl⟩ u hu
  simp at hu
  subst hu; rfl
theorem sl_by : SlTy Tryz.prog 29 5 (.int .u8 0) 1 1 := ⟨by kernel_rfl, by kernel_rfl, by kernel_rfl, by omega⟩
theorem by_at {S : Nat → Prop} {w : World} {b o n : Nat} {xs : List Nat} (h : RdL ByR 1 S w (some ⟨b, o, none⟩) n xs) {k : Nat} (hk : k < n) : w.cell? ⟨b, o + k, none⟩ = some (.int .u8 (gt xs k)) ∧ gt xs k < 256 := by
  obtain ⟨hl, cs, _, ⟨h1, rfl⟩, h2⟩ := h.at hk
  have e : gt xs k = xs[k] := by unfold gt; rw [List.getD_eq_getElem?_getD, List.getElem?_eq_getElem hl]; rfl
  rw [e]
  refine ⟨?_, h1⟩
  have := h2 0 _ rfl
  rwa [Nat.mul_one, Nat.add_zero] at this
theorem by_byt {S : Nat → Prop} {w : World} {A : Option Addr} {n : Nat} {xs : List Nat} (h : RdL ByR 1 S w A n xs) : Byt xs := fun x hx => by
  obtain ⟨i, hi, rfl⟩ := List.mem_iff_getElem.1 hx
  obtain ⟨b, o, rfl, _, _⟩ := h.addr (k := i) (by rw [← h.1]; exact hi)
  obtain ⟨_, cs, _, ⟨h1, _⟩, _⟩ := h.at (k := i) (by rw [← h.1]; exact hi)
  exact h1

/-- A row of bytes at the beginning of a block. -/
structure RowIn (w : World) (g : Nat) (cur : Array Value) (xs : List Nat) : Prop where
  box : BoxAt w g cur
  len : xs.length ≤ cur.size
  cells : ∀ i, i < xs.length → cur[i]? = some (.int .u8 (gt xs i))
  byt : Byt xs
section
variable {w w' : World} {g : Nat} {cur : Array Value} {xs : List Nat}
theorem RowIn.below (h : RowIn w g cur xs) (hb : Below w.heap.size w w') : RowIn w' g cur xs := ⟨h.box.below hb, h.len, h.cells, h.byt⟩
theorem RowIn.alloc (h : RowIn w g cur xs) (o : Obj) : RowIn (w.alloc o) g cur xs := ⟨h.box.alloc o, h.len, h.cells, h.byt⟩
theorem RowIn.drew (h : RowIn w g cur xs) : RowIn w.drew g cur xs := ⟨h.box.keep rfl, h.len, h.cells, h.byt⟩
theorem RowIn.cell (h : RowIn w g cur xs) {i : Nat} (hi : i < xs.length) : w.cell? ⟨g, i, none⟩ = some (.int .u8 (gt xs i)) := (h.box.cell i).trans (h.cells i hi)
theorem RowIn.frozen (h : RowIn w g cur xs) (i : Nat) : w.frozen? ⟨g, i, none⟩ = false := h.box.frozen i
theorem gt_set (xs : List Nat) (i x : Nat) {k : Nat} (hk : k < xs.length) : gt (xs.set i x) k = if k = i then x else gt xs k := by
  unfold gt
  rw [List.getD_eq_getElem?_getD, List.getD_eq_getElem?_getD, List.getElem?_set]
  split
  · rename_i h
    subst h
    rw [if_pos rfl, if_pos hk]; rfl
  · rename_i h
    rw [if_neg (fun e => h e.symm)]
theorem byt_set {xs : List Nat} (h : Byt xs) {i x : Nat} (hx : x < 256) : Byt (xs.set i x) := fun y hy => by
  rcases List.mem_or_eq_of_mem_set hy with h1 | h1
  · exact h y h1
  · rw [h1]; exact hx
theorem RowIn.set (h : RowIn w g cur xs) {i x : Nat} (hi : i < xs.length) (hx : x < 256) : RowIn (w.setCell ⟨g, i, none⟩ (.int .u8 (x : Int))) g (cur.setIfInBounds i (.int .u8 (x : Int))) (xs.set i x) where
  box := h.box.set i _
  len := by rw [List.length_set, Array.size_setIfInBounds]; exact h.len
  cells k hk := by
    rw [List.length_set] at hk
    have hl := h.len
    rw [gt_set _ _ _ hk, Array.getElem?_setIfInBounds]
    by_cases e : k = i
    · subst e
      rw [if_pos rfl, if_pos (by omega), if_pos rfl]
    · rw [if_neg (fun h => e h.symm), if_neg e]; exact h.cells k hk
  byt := byt_set h.byt hx
theorem RowIn.rd (h : RowIn w g cur xs) {S : Nat → Prop} (hS : S g) : RdL ByR 1 S w (some ⟨g, 0, none⟩) xs.length xs := ⟨rfl, fun _ => ⟨g, 0, rfl, hS, h.box.lt, fun i x hx => by
  have hi := (List.getElem?_eq_some_iff.1 hx).1
  refine ⟨[.int .u8 (x : Int)], rfl, ⟨h.byt x (List.mem_of_getElem? hx), rfl⟩, fun j v hj => ?_⟩
  have hj0 : j = 0 := by
    have := (List.getElem?_eq_some_iff.1 hj).1
    simp at this; exact this
  subst hj0
  simp at hj
  subst hj
  rw [show 0 + i * 1 + 0 = i by omega, h.cell hi, (Option.some.inj ((gt_of_lt hi).symm.trans hx))]⟩⟩
theorem RowIn.of_own {E : TypeId} {base n : Nat} {S : Nat → Prop} {v : Value} (h : OwnL ByR E 1 base S w v n xs) (hn : 0 < n) : ∃ g cap cur, v = .slice (some ⟨g, 0, none⟩) n cap ∧ base ≤ g ∧ n ≤ cap ∧ xs.length = n ∧ RowIn w g cur xs := by
  obtain ⟨A, cap, rfl, hc, hr⟩ := h.rd (S' := fun k => base ≤ k) (fun _ hk => hk) (fun cs x hx => hx)
  obtain ⟨css, h1, h2, h3, h4, h5⟩ := h
  rcases h1.2 with ⟨_, e⟩ | ⟨g, cap', cur, e, hg, hblk, hnc, hcm, hsz, ht⟩
  · omega
  · injection e with e1 e2 e3
    subst e1; subst e3
    refine ⟨g, cap, cur, rfl, hg, hc, h2, ⟨_, hblk⟩, ?_, fun i hi => ?_, by_byt hr⟩
    · rw [hsz]; omega
    · have h7 := (by_at hr (k := i) (by omega)).1
      rw [Nat.zero_add] at h7
      rw [← h7]
      exact (BoxAt.cell (w := w) (b := g) (cs := cur) ⟨_, hblk⟩ i).symm
theorem madeCells_r (k : Nat) (v : Value) : madeCells #[v] k = Array.replicate k v := by
  apply Array.ext
  · simp [madeCells]
  · intro i h1 h2
    simp [madeCells, Nat.mod_one]
end
theorem byInfo : (Tryz.prog.info? 5).map (fun i => (i.zero, i.size, i.bytes)) = some (some (.int .u8 0), 1, 1) := by kernel_rfl
theorem makeBy (k : Nat) (hk : k ≤ 17592186043904) (w : World) : (Instr.makeSlice 29 (.int .i64 (k : Int)) (.int .i64 (k : Int))).run Tryz.prog w = .ok (.slice (some ⟨w.heap.size, 0, none⟩) k k) (w.alloc (.cells (Array.replicate k (.int .u8 0)) 5)) := by
  obtain ⟨i, hi, hz, hs, hb⟩ := info_parts byInfo
  have h := run_make (P := Tryz.prog) w 29 5 i (.int .u8 0) (by kernel_rfl) hi hz .i64 .i64 k k (by omega) (by omega) (by rw [hb]; omega) (by omega)
  simp only [Int.toNat_natCast, hs, Nat.mul_one] at h
  rw [h, show (Value.int .u8 0).cells = #[.int .u8 0] from rfl, madeCells_r]
theorem RowIn.made (w : World) (k : Nat) (t : TypeId) : RowIn (w.alloc (.cells (Array.replicate k (.int .u8 0)) t)) w.heap.size (Array.replicate k (.int .u8 0)) (List.replicate k 0) where
  box := BoxAt.new _ _ _
  len := by simp
  cells i hi := by
    rw [List.length_replicate] at hi
    rw [Array.getElem?_replicate, if_pos hi]
    unfold gt
    rw [List.getD_eq_getElem?_getD, List.getElem?_replicate, if_pos hi]; rfl
  byt x hx := by rw [(List.mem_replicate.1 hx).2]; omega
end Go.Proofs.YthhljmlpjnkfgaaGreat
