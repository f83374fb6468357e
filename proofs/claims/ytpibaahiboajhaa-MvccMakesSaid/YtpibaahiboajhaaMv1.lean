/-
  A store of versions in memory: New, Last, a key's chain, Read.
-/
import Derived.Test.YtpibaahiboajhaaTre14
import Derived.Test.YtpibaahiboajhaaChain5
set_option linter.unusedSimpArgs false
set_option linter.unusedVariables false
namespace Go.Proofs.Ytpibaahiboajhaa
open Go.RowKit Go.Cib
attribute [local go_sem] cell_set Later.cell Later.frozen Grw.cell Grw.frozen

structure MvI (w : World) (base s : Nat) (L : List Ent) (last : Int) (t : Nat) (S F0 : Nat → Prop) : Prop where
  box : BoxAt w s #[.pointer (some ⟨t, 0, none⟩), .int .u64 last]
  tree : TreeM w base S t L F0
  sF : ¬ F0 s
  sS : ¬ S s
  ge : base ≤ s
  geS : ∀ b, S b → base ≤ b ∧ b < w.heap.size
/-- A store: its rows, its last stamp; F are its blocks. -/
def MvM (w : World) (base s : Nat) (L : List Ent) (last : Int) (F : Nat → Prop) : Prop := ∃ t S F0, MvI w base s L last t S F0 ∧ F = fun k => k = s ∨ F0 k ∨ S k
/-- Rows as they may be: of so many versions at most. -/
structure OkE (nb : Nat) (last : Int) (e : Ent) : Prop where
  key : 0 < e.key.size ∧ e.key.size ≤ 16
  ne : e.vers ≠ []
  right : rightL e.vers = true
  pos : ∀ v ∈ e.vers, 0 < v.stamp ∧ v.stamp ≤ last
  small : Small e.vers
  len : e.vers.length ≤ nb
def OkL (nb : Nat) (last : Int) (L : List Ent) : Prop := ∀ e ∈ L, OkE nb last e
section
variable {w w' : World} {base s : Nat} {L : List Ent} {last : Int} {F G : Nat → Prop}
theorem MvM.lt (h : MvM w base s L last F) {k : Nat} (hk : F k) : base ≤ k ∧ k < w.heap.size := by
  obtain ⟨t, S, F0, I, rfl⟩ := h
  rcases hk with rfl | hk | hk
  · exact ⟨I.ge, I.box.lt⟩
  · exact I.tree.lt hk
  · exact I.geS k hk
theorem MvM.rises (h : MvM w base s L last F) : Rises L := by obtain ⟨t, S, F0, I, rfl⟩ := h; exact I.tree.rises
theorem MvM.keep (h : MvM w base s L last F) (hk : Keep G w w') (hF : ∀ k, F k → ¬ G k) : MvM w' base s L last F := by
  obtain ⟨t, S, F0, I, rfl⟩ := h
  exact ⟨t, S, F0, ⟨I.box.keeps hk (hF s (.inl rfl)), I.tree.keep hk (fun k h => hF k (.inr (.inl h))) (fun b h => hF b (.inr (.inr h))), I.sF, I.sS, I.ge, fun b hb => ⟨(I.geS b hb).1, Nat.lt_of_lt_of_le (I.geS b hb).2 hk.size⟩⟩, rfl⟩
theorem MvM.below (h : MvM w base s L last F) (hb : Below w.heap.size w w') : MvM w' base s L last F := h.keep (Keep.of_below (F := fun _ => False) hb) (fun _ _ h => h)
end
theorem getE_ok {nb : Nat} {last : Int} {L : List Ent} (h : OkL nb last L) (k : ByteArray) : ((getE L k).getD []).length ≤ nb ∧ Small ((getE L k).getD []) := by
  unfold getE
  cases hf : L.find? fun e => decide (e.key = k) with
  | none => exact ⟨Nat.zero_le _, fun v hv => by cases hv⟩
  | some e =>
    have := h e (List.mem_of_find?_eq_some hf)
    exact ⟨this.len, this.small⟩

set_option maxRecDepth 100000 in
theorem mvnew_any (w : World) : Calls Try.prog 35 #[] w fun e w' => ∃ s F, e = .returned (.pointer (some ⟨s, 0, none⟩)) ∧ MvM w' w.heap.size s [] 0 F ∧ Below w.heap.size w w' := by
  have h := tnew_any w
  go_enter Try.func35, Try.ntmps35
  go_wp2_with fail
  refine h.mono ?_
  rintro e w1 ⟨t, F0, rfl, hT, hb⟩
  have X := BoxAt.new w1 #[.pointer (some ⟨t, 0, none⟩), .int .u64 0] 133
  have hal : Below w1.heap.size w1 (w1.alloc (.cells #[.pointer (some ⟨t, 0, none⟩), .int .u64 0] 133)) := (Below.refl _ _).alloc (Nat.le_refl _) _
  have hfin : MvM (w1.alloc (.cells #[.pointer (some ⟨t, 0, none⟩), .int .u64 0] 133)) w.heap.size w1.heap.size [] 0 _ :=
    ⟨t, fun _ => False, F0, ⟨X, hT.below hal, fun h => by have := (hT.lt h).2; omega, fun h => h, hb.size, fun b h => h.elim⟩, rfl⟩
  have HF := Lib.hid hfin
  have HB := Lib.hid (hb.trans (hal.mono hb.size))
  clear hfin X hal hb hT h
  go_wp2_with fail
  go_ret
  exact ⟨_, _, rfl, HF.out, HB.out⟩
theorem mvnone_is (w : World) {s : Nat} {a : Addr} {nv : Value} (X : BoxAt w s #[.pointer (some a), nv]) :
    Calls Try.prog 72 #[.pointer (some ⟨s, 0, none⟩)] w fun e w' => e = .returned (.bool false) ∧ w' = w := by
  have p0 := X.cell 0
  go_enter Try.func72, Try.ntmps72
  go_wp2_with fail
  go_ret
  exact ⟨rfl, rfl⟩
section
variable {w : World} {base s : Nat} {L : List Ent} {last : Int} {F : Nat → Prop}
theorem mvlast_any (h : Hid (MvM w base s L last F)) : Calls Try.prog 44 #[.pointer (some ⟨s, 0, none⟩)] w fun e w' => e = .returned (.int .u64 last) ∧ w' = w := by
  obtain ⟨t, S, F0, I, rfl⟩ := h.out
  have hn := mvnone_is w I.box
  have p1 := I.box.cell 1
  clear I h
  go_enter Try.func44, Try.ntmps44
  go_wp2_with fail
  refine hn.mono ?_
  rintro e w1 ⟨rfl, rfl⟩
  go_wp2_with fail
  go_ret
  exact ⟨rfl, rfl⟩
set_option maxRecDepth 100000 in
theorem mvchain_any (h : Hid (MvM w base s L last F)) (k : ByteArray) : Calls Try.prog 82 #[.pointer (some ⟨s, 0, none⟩), .string k] w fun e w' =>
    ∃ A n c, e = .returned (.slice A n c) ∧ n ≤ c ∧ RdL VerR 5 F w' A n ((getE L k).getD []) ∧ Below w.heap.size w w' := by
  obtain ⟨t, S, F0, I, rfl⟩ := h.out
  have hn := mvnone_is w I.box
  have p0 := I.box.cell 0
  have hg := tget_any (Lib.hid I.tree) k
  clear I h
  go_enter Try.func82, Try.ntmps82
  go_wp2_with fail
  refine hn.mono ?_
  rintro e w1 ⟨rfl, rfl⟩
  go_wp2_with fail
  refine hg.mono ?_
  rintro e w2 ⟨A, n, c, rfl, hc, hR, hb⟩
  have HR := Lib.hid (hR.weaken (S' := fun k => k = s ∨ F0 k ∨ S k) VerR.stable (fun b hb => .inr (.inr hb)))
  have HB := Lib.hid hb
  clear hR hb hg hn
  go_wp2_with fail
  go_ret
  exact ⟨A, n, c, rfl, hc, HR.out, HB.out⟩
set_option maxRecDepth 100000 in
theorem mvread_any {nb : Nat} (h : Hid (MvM w base s L last F)) (hok : Hid (OkL nb last L)) (hnb : nb ≤ 4194304) (k : ByteArray) (at_ : Int) : Calls Try.prog 39 #[.pointer (some ⟨s, 0, none⟩), .string k, .int .u64 at_] w fun e w' =>
    ∃ v, e = .returned (.tuple #[v, .bool (atL ((getE L k).getD []) at_).isSome]) ∧ VerV (w.heap.size ≤ ·) w' ((atL ((getE L k).getD []) at_).getD .none_) v ∧ Below w.heap.size w w' := by
  have hsm := getE_ok hok.out k
  have X := BoxAt.new w #[.int .u64 0, .bool false, .slice none 0 0, .int .u64 0, .int .i64 0] 77
  have hal : Below w.heap.size w (w.alloc (.cells #[.int .u64 0, .bool false, .slice none 0 0, .int .u64 0, .int .i64 0] 77)) := (Below.refl _ _).alloc (Nat.le_refl _) _
  obtain ⟨w1, hw1⟩ : ∃ w1, w.alloc (.cells #[.int .u64 0, .bool false, .slice none 0 0, .int .u64 0, .int .i64 0] 77) = w1 := ⟨_, rfl⟩
  obtain ⟨b, hb⟩ : ∃ b, w.heap.size = b := ⟨_, rfl⟩
  rw [hw1] at X hal
  have hc := mvchain_any (Lib.hid (h.out.below hal)) k
  rw [hb] at X
  have HX := Lib.hid X
  have HAL := Lib.hid hal
  clear X hal
  go_enter Try.func39, Try.ntmps39
  go_wp2_with fail
  refine hc.mono ?_
  rintro e w2 ⟨A, n, c, rfl, hnc, hR, hb2⟩
  have hn : n ≤ nb := by rw [← hR.1]; exact hsm.1
  have hat := at_any A n c at_ w2 (by omega) (Lib.hid hR) hsm.2
  have HB2 := Lib.hid hb2
  clear hb2 hR hc
  go_wp2_with fail
  refine hat.mono ?_
  rintro e w3 ⟨v, rfl, ⟨PA, pn, pc, rfl, hpc, hPR⟩, hb3⟩
  have HB12 := Lib.hid (HB2.out.trans (hb3.mono HB2.out.size))
  have X3 := HX.out.below HB12.out
  have k0 := X3.cell 0; have k1 := X3.cell 1; have k2 := X3.cell 2; have k3 := X3.cell 3; have k4 := X3.cell 4
  have f0 := X3.frozen 0; have f1 := X3.frozen 1; have f2 := X3.frozen 2; have f3 := X3.frozen 3; have f4 := X3.frozen 4
  have HP := Lib.hid hPR
  have hs12 := HAL.out.size
  have hs23 := HB2.out.size
  obtain ⟨ov, hov⟩ : ∃ ov, ((atL ((getE L k).getD []) at_).getD .none_) = ov := ⟨_, rfl⟩
  obtain ⟨ob, hob⟩ : ∃ ob, (atL ((getE L k).getD []) at_).isSome = ob := ⟨_, rfl⟩
  rw [hov] at HP ⊢
  rw [hob]
  have HOV := Lib.hid hov
  have HOB := Lib.hid hob
  clear hat hb3 hPR X3 hov hob hw1
  go_wp2_with fail
  refine bodyPost_ret (v := .tuple #[.agg #[.int .u64 ov.stamp, .bool ov.dead, .slice PA pn pc, .int .u64 ov.blob.gen, .int .i64 ov.blob.size], .bool ob]) (by simp [results, Try.results39, go_sem, *]) rfl ?_
  rw [HOV.out, HOB.out]
  have hblt := HX.out.lt
  refine ⟨_, rfl, ⟨PA, pn, pc, rfl, hpc, ?_⟩, ?_⟩
  · refine RdL.weaken IntR.stable (S := fun q => w2.heap.size ≤ q) ?_ (fun q hq => by have hq2 : w2.heap.size ≤ q := hq; show _ ≤ q; omega)
    repeat (refine RdL.setCell IntR.stable ?_ (by show ¬ (w2.heap.size ≤ b); omega) _)
    exact HP.out
  · have hB := HAL.out.trans (HB12.out.mono hs12)
    repeat (refine Below.setCell ?_ (by show w.heap.size ≤ b; omega) _)
    exact hB
end
end Go.Proofs.Ytpibaahiboajhaa
