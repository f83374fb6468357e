/-
  Write.
  Sectors as wholes: loads, stores and zero values that the walk does not open.
  seen, Read.
  settle.
  Flush, Crash.
  empty.
  New, Fail, Replace.
  Rot, Rotten.
  What the laws need of the states, of bytes as text, and the example of the page.
  DriveKeeps, walked.
  Arguments as readings; the last step of a law's proof.
  Puts and bools among the arguments.
-/
import Derived.Test.YtihnlhfngmbglaaGreatLt1
import Derived.Deep.RegionHeld3
import Derived.Deep.DeepMust
import Derived.Deep.RegionLaw
import Derived.Laws.Cover3
import Derived.Great.BuildSlice
import Derived.Laws.BytesArg
import Derived.ProofKit
import Derived.OpenShut
import Derived.Deep.Slices
import Derived.Deep.Fields
import Derived.Carry
import Derived.ChangeSame
set_option linter.unusedSimpArgs false
set_option linter.unusedVariables false
namespace Go.Proofs.YtihnlhfngmbglaaGreat
open Go.RowKit Go.Cib
attribute [local go_sem] cell_set Later.cell Later.frozen Grw.cell Grw.frozen
section

theorem DrvAt.upd {F : Nat → Prop} {w w' : World} {p n : Nat} {st : DSt} (h : DrvAt F w p n st) (hk : Below w.heap.size w w') : Upd F w w' p n st := ⟨F, h.below hk, fun _ hk _ => hk, Keep.of_below hk⟩

theorem ktInt : KeyTy Tryz.prog 3 (Value.int .i64) := keyTy_int (by kernel_rfl)
theorem mapTy : Tryz.prog.underlying 187 = some (.map 3 3) := by kernel_rfl
theorem waitInfo : (Tryz.prog.info? 244).map (fun i => (i.zero, i.size, i.bytes)) = some (some (.agg (Array.mk (.int .i64 0 :: List.replicate 64 (.int .u8 0)))), 65, 72) := by kernel_rfl
def secZ : Value := .agg (Array.replicate 64 (.int .u8 0))
theorem secRow : Tryz.prog.underlying 198 = some (.array 64 5) := by kernel_rfl
theorem secSize : (Tryz.prog.info? 198).map (·.size) = some 64 := by kernel_rfl

theorem fill_tail : ∀ (cs zs : List Value) (k : Nat) (pre : List Value), zs.length = cs.length → pre.length = k → (cs.zipIdx.foldl (fun (ar : Array Value) (p : Value × Nat) => ar.setIfInBounds (k + p.2) p.1) (pre ++ zs).toArray) = (pre ++ cs).toArray := by
  have gen : ∀ (cs zs : List Value) (i k : Nat) (pre : List Value), zs.length = cs.length → pre.length = k + i → ((cs.zipIdx i).foldl (fun (ar : Array Value) (p : Value × Nat) => ar.setIfInBounds (k + p.2) p.1) (pre ++ zs).toArray) = (pre ++ cs).toArray := by
    intro cs
    induction cs with
    | nil => intro zs i k pre h _; rw [List.length_eq_zero_iff.1 h]; rfl
    | cons c cs ih =>
      intro zs i k pre h hp
      match zs, h with
      | z :: zs, h =>
        rw [List.zipIdx_cons, List.foldl_cons]
        have e : (pre ++ z :: zs).toArray.setIfInBounds (k + i) c = ((pre ++ [c]) ++ zs).toArray := by
          simp [← hp]
        show List.foldl _ ((pre ++ z :: zs).toArray.setIfInBounds (k + i) c) _ = _
        rw [e, ih zs (i + 1) k (pre ++ [c]) (by simpa using h) (by simp; omega)]
        simp
  exact fun cs zs k pre h hp => gen cs zs 0 k pre h (by omega)
theorem fill_tailA (cs : Array Value) (zs : List Value) (k : Nat) (pre : List Value) (h : zs.length = cs.size) (hp : pre.length = k) : (cs.zipIdx.foldl (fun (ar : Array Value) (p : Value × Nat) => ar.setIfInBounds (k + p.2) p.1) (pre ++ zs).toArray) = (pre ++ cs.toList).toArray := by
  rw [← Array.foldl_toList, Array.toList_zipIdx]
  exact fill_tail cs.toList zs k pre (by simpa using h) hp
/-- The two parts of a write that waits. -/
def okW (parts : Array (Nat × Value)) : Bool := match parts.toList with
  | [(0, .int .i64 _), (1, .agg cs)] => cs.size == 64
  | _ => false
def ofW (parts : Array (Nat × Value)) : Value := match parts.toList with
  | [(0, .int .i64 z), (1, .agg cs)] => .agg (.int .i64 z :: cs.toList).toArray
  | _ => .agg #[]
theorem okW_lit (z : Int) (cs : Array Value) : okW #[(0, .int .i64 z), (1, .agg cs)] = (cs.size == 64) := rfl
theorem ofW_lit (z : Int) (cs : Array Value) : ofW #[(0, .int .i64 z), (1, .agg cs)] = .agg (.int .i64 z :: cs.toList).toArray := rfl
theorem okW_inv {parts : Array (Nat × Value)} (h : okW parts = true) : ∃ z cs, parts = #[(0, .int .i64 z), (1, .agg cs)] ∧ cs.size = 64 := by
  unfold okW at h
  split at h
  · rename_i z cs e
    exact ⟨z, cs, Array.toList_inj.1 e, by simpa using h⟩
  · cases h
theorem build_wait (parts : Array (Nat × Value)) (h : okW parts = true) (w : World) : (Instr.build 244 parts).run Tryz.prog w = .ok (ofW parts) w := by
  obtain ⟨z, cs, rfl, hb⟩ := okW_inv h
  refine run_build w _ _ (.int .i64 z :: cs.toList).toArray ?_
  obtain ⟨i, hi, hz, hs, hby⟩ := info_parts waitInfo
  obtain ⟨i1, hi1, hz1, hs1, hby1⟩ := info_parts (show (Tryz.prog.info? 3).map (fun i => (i.zero, i.size, i.bytes)) = some (some (.int .i64 0), 1, 8) by kernel_rfl)
  obtain ⟨i2, hi2, hz2, hs2, hby2⟩ := info_parts (show (Tryz.prog.info? 198).map (fun i => (i.zero, i.size, i.bytes)) = some (some secZ, 64, 64) by kernel_rfl)
  unfold Program.built
  rw [hi, Tryz.underlying244]
  simp [hz, hi1, hi2, hs1, hs2, Instr.fill, Value.cells, hb, -List.reduceReplicate, -Array.foldl_toList]
  have := fill_tailA cs (List.replicate 64 (.int .u8 0)) 1 [.int .i64 z] (by simp [hb]) rfl
  simpa [hb] using this
/-- One element laid for itself. -/
def okS (s : Nat) (parts : Array (Nat × Value)) : Bool := match parts.toList with
  | [(0, .agg cs)] => cs.size == s
  | _ => false
def ofS (parts : Array (Nat × Value)) : Array Value := match parts.toList with
  | [(0, .agg cs)] => cs
  | _ => #[]
theorem okS_lit (s : Nat) (cs : Array Value) : okS s #[(0, .agg cs)] = (cs.size == s) := rfl
theorem ofS_lit (cs : Array Value) : ofS #[(0, .agg cs)] = cs := rfl
theorem okS_inv {s : Nat} {parts : Array (Nat × Value)} (h : okS s parts = true) : ∃ cs, parts = #[(0, .agg cs)] ∧ cs.size = s := by
  unfold okS at h
  split at h
  · rename_i cs e
    exact ⟨cs, Array.toList_inj.1 e, by simpa using h⟩
  · cases h
theorem fill_all (cs zs : Array Value) (k : Nat) (hk : k = 0) (h : zs.size = cs.size) : (cs.zipIdx.foldl (fun (ar : Array Value) (p : Value × Nat) => ar.setIfInBounds (k + p.2) p.1) zs) = cs := by
  subst hk
  have := fill_tailA cs zs.toList 0 [] (by simpa using h) rfl
  simpa using this
theorem buildSlice_wait (parts : Array (Nat × Value)) (h : okS 65 parts = true) (w : World) : (Instr.buildSlice 186 1 parts).run Tryz.prog w = .ok (.slice (some ⟨w.heap.size, 0, none⟩) 1 1) (w.alloc (.cells (ofS parts) 244)) := by
  obtain ⟨cs, rfl, hb⟩ := okS_inv h
  obtain ⟨i, hi, hz, hs, hby⟩ := info_parts waitInfo
  refine run_buildSlice w _ _ 1 _ cs i _ Tryz.underlying186 hi hz (by rw [hs]; omega) (by rw [hs]; omega) ?_
  simp only [Instr.fill, hs, Value.cells, hb]
  rw [if_neg (by simp), fill_all cs _ _ (by omega) (by simp [hb])]
/-- The two operations under names of their own: the walk does not open them. -/
def shutBuild (t : TypeId) (parts : Array (Nat × Value)) : Sem Value := Instr.build t parts
def shutSlice (t : TypeId) (n : Nat) (parts : Array (Nat × Value)) : Sem Value := Instr.buildSlice t n parts
theorem shut_build (parts : Array (Nat × Value)) : Instr.build 244 parts = shutBuild 244 parts := rfl
theorem shut_slice (n : Nat) (parts : Array (Nat × Value)) : Instr.buildSlice 186 n parts = shutSlice 186 n parts := rfl
theorem run_shutBuild (parts : Array (Nat × Value)) (h : okW parts = true) (w : World) : (shutBuild 244 parts).run Tryz.prog w = .ok (ofW parts) w := build_wait parts h w
theorem run_shutSlice (parts : Array (Nat × Value)) (h : okS 65 parts = true) (w : World) : (shutSlice 186 1 parts).run Tryz.prog w = .ok (.slice (some ⟨w.heap.size, 0, none⟩) 1 1) (w.alloc (.cells (ofS parts) 244)) := buildSlice_wait parts h w
def shutLoad (t : TypeId) (a : Addr) : Sem Value := loadVar t a
theorem shut_load (a : Addr) : loadVar 198 a = shutLoad 198 a := rfl
theorem shut_load65 (a : Addr) : loadVar 244 a = shutLoad 244 a := rfl
attribute [local go_sem] okW_lit ofW_lit okS_lit ofS_lit run_shutBuild run_shutSlice
attribute [local go_sem ↓] shut_build shut_slice shut_load shut_load65

theorem range_far {w w' : World} {row : Option Nat} {b o : Nat} {cs : List Value} (h : w.rangeAt b o cs) (hg : w.grownBy w' row) (hne : some b ≠ row) : w'.rangeAt b o cs := fun j v hj => by
  have h1 := h j v hj
  exact (hg.cell_far _ (World.block_lt_of_cell? w _ h1) hne).trans h1
theorem cell_far2 {w w' : World} {row : Option Nat} {a : Addr} {v : Value} (h : w.cell? a = some v) (hg : w.grownBy w' row) (hne : some a.block ≠ row) : w'.cell? a = some v := (hg.cell_far _ (World.block_lt_of_cell? w _ h) hne).trans h
theorem frozen_far2 {w w' : World} {row : Option Nat} {a : Addr} {v : Value} (h : w.cell? a = some v) (hf : w.frozen? a = false) (hg : w.grownBy w' row) (hne : some a.block ≠ row) : w'.frozen? a = false := (hg.frozen_far _ (World.block_lt_of_cell? w _ h) hne).trans hf
theorem cell_alloc2 {w : World} {a : Addr} {v : Value} (h : w.cell? a = some v) (o : Obj) : (w.alloc o).cell? a = some v := (World.cell?_alloc_lt _ _ _ (World.block_lt_of_cell? w _ h)).trans h
theorem frozen_alloc2 {w : World} {a : Addr} {v : Value} (h : w.cell? a = some v) (hf : w.frozen? a = false) (o : Obj) : (w.alloc o).frozen? a = false := (World.frozen?_alloc_past _ _ _ (World.block_lt_of_cell? w _ h)).trans hf
theorem secCells_one {bs : List Int} : ∀ u ∈ secCells bs, u.oneCell' = true := by
  intro u hu
  obtain ⟨x, _, rfl⟩ := List.mem_map.1 hu
  rfl
theorem waitCells_one {p : Int × List Int} : ∀ u ∈ waitCells p, u.oneCell' = true := by
  intro u hu
  rcases List.mem_cons.1 hu with rfl | h
  · rfl
  · exact secCells_one u h
theorem u8_range {S : Nat → Prop} {w : World} {b o : Nat} {bs : List Int} {n : Nat} (h : RdL U8R 1 S w (some ⟨b, o, none⟩) n bs) : w.rangeAt b o (secCells bs) := by
  intro j v hj
  have hjl := (List.getElem?_eq_some_iff.1 hj).1
  have hl := h.1
  simp only [secCells, List.length_map] at hjl
  obtain ⟨_, cs, h1, h2, h3⟩ := h.at (k := j) (by omega)
  have h4 : cs = [.int .u8 bs[j]] := h2
  subst h4
  have := h3 0 _ rfl
  simp only [Nat.mul_one, Nat.add_zero] at this
  rw [this, ← hj]
  simp [secCells, hjl]

section
variable {w w' : World} {o : Obj} {row : Option Nat} (hg : (w.alloc o).drew.grownBy w' row)
include hg
theorem cell_far3 {p k : Nat} {v : Value} (h : w.cell? ⟨p, k, none⟩ = some v) (hne : some p ≠ row) : w'.cell? ⟨p, k, none⟩ = some v :=
  cell_far2 (w := (w.alloc o).drew) (a := ⟨p, k, none⟩) (cell_alloc2 h o) hg hne
theorem frozen_far3 {p k : Nat} {v : Value} (h : w.cell? ⟨p, k, none⟩ = some v) (hf : w.frozen? ⟨p, k, none⟩ = false) (hne : some p ≠ row) : w'.frozen? ⟨p, k, none⟩ = false :=
  frozen_far2 (w := (w.alloc o).drew) (a := ⟨p, k, none⟩) (cell_alloc2 h o) (frozen_alloc2 h hf o) hg hne
end
def writeE (d : Bool) (n : Nat) (z : Int) (m : Nat) : Int := if readyE d n z = 0 then (if m = 64 then 0 else 2) else readyE d n z

theorem write_post {F : Nat → Prop} {w w1 w2 w3 : World} {p n sb sc rb rc : Nat} {A : Option Addr} {cc mb : Nat} {st : DSt} {z : Nat} {bs : List Int} {es : List (Int × Value)} {gg cap : Nat} {ob : Obj}
    (hB : DrvB w1 p n sb sc rb rc A cc mb st) (f1 : F p) (f2 : F sb) (f3 : F rb) (f4 : F mb) (f5 : ∀ k, (Value.slice A st.cache.length cc).ownBlock = some k → F k) (lt : ∀ k, F k → k < w1.heap.size)
    (U : Keep F w w1) (hz : z < n) (hb : bs.length = 64) (hm2 : ∀ k : Int, mlook es k = (lastIx st.cache k).map fun i : Nat => Value.int .i64 (i : Int))
    (m2 : MapAt (Value.int .i64) w2 mb (mput es (z : Int) (.int .i64 st.cache.length))) (g2 : w1.drew.grownBy w2 (some mb))
    (hown : w3.ownsRow 0 244 65 (.slice (some ⟨gg, 0, none⟩) (st.cache.length + 1) cap) (st.cache.length + 1) ((st.cache.map waitCells).flatten ++ waitCells ((z : Int), bs)))
    (hgrow : (w2.alloc ob).drew.grownBy w3 (Value.slice A st.cache.length cc).ownBlock) (hat : (Value.slice A st.cache.length cc).ownBlock = some gg ∨ gg = w2.heap.size + 1) (hlt : gg < w3.heap.size) :
    Upd F w (w3.setCell ⟨p, 2, none⟩ (.slice (some ⟨gg, 0, none⟩) (st.cache.length + 1) cap)) p n (st.write z bs) := by
  have s2 : w1.heap.size ≤ w2.heap.size := g2.size
  have s3 : w2.heap.size + 1 ≤ w3.heap.size := by have := hgrow.size; simp at this; exact this
  have k3 : ∀ k, k < w2.heap.size → some k ≠ (Value.slice A st.cache.length cc).ownBlock → w3.heap[k]? = w2.heap[k]? := fun k hk hn => (hgrow.block k (by simp; omega) hn).trans (Below.heap_alloc _ _ _ hk)
  have k1 : ∀ k, k < w1.heap.size → some k ≠ (Value.slice A st.cache.length cc).ownBlock → k ≠ mb → w3.heap[k]? = w1.heap[k]? := fun k hk hn hm => (k3 k (by omega) hn).trans (g2.block k hk (by simpa using hm))
  have kp := k1 p (lt p f1) (fun e => hB.pc e.symm) hB.pm
  have ks := k1 sb (lt sb f2) (fun e => hB.sc e.symm) hB.sm
  have kr := k1 rb (lt rb f3) (fun e => hB.rc e.symm) hB.rm
  have km := k3 mb (by have := lt mb f4; omega) (fun e => hB.mc e.symm)
  have hg : ∀ k, F k → gg = k → (Value.slice A st.cache.length cc).ownBlock = some k := fun k hk e => by
    rcases hat with h | h
    · rw [h, e]
    · have := lt k hk; omega
  have gp : gg ≠ p := fun e => hB.pc (hg p f1 e)
  have gs : gg ≠ sb := fun e => hB.sc (hg sb f2 e)
  have gr : gg ≠ rb := fun e => hB.rc (hg rb f3 e)
  have gm : gg ≠ mb := fun e => hB.mc (hg mb f4 e)
  have hset : ∀ k, k ≠ p → (w3.setCell ⟨p, 2, none⟩ (.slice (some ⟨gg, 0, none⟩) (st.cache.length + 1) cap)).heap[k]? = w3.heap[k]? := fun k hk => Below.heap_setCell _ _ _ _ hk
  have hcl : (st.write z bs).cache.length = st.cache.length + 1 := by simp [DSt.write]
  refine ⟨fun k => F k ∨ k = gg, ⟨sb, sc, rb, rc, some ⟨gg, 0, none⟩, cap, mb, ?_, .inl f1, .inl f2, .inl f3, .inl f4, ?_, ?_⟩, ?_, ?_⟩
  · refine ⟨hB.ok.write hb ⟨by omega, by omega⟩, hB.n1, hB.n600, ?_, ownsRow_keep hB.so ?_, ownsRow_keep hB.ro ?_, ?_, ?_, hB.ps, hB.pr, hB.pm, hB.sr, hB.sm, hB.rm, ?_, ?_, ?_, ?_⟩
    · rw [hcl]
      exact (hB.box.keep kp).set 2 _
    · rintro k ⟨⟩
      exact (hset sb (fun e => hB.ps e.symm)).trans ks
    · rintro k ⟨⟩
      exact (hset rb (fun e => hB.pr e.symm)).trans kr
    · rw [hcl]
      have h : (List.map waitCells (st.write (z : Int) bs).cache).flatten = (st.cache.map waitCells).flatten ++ waitCells ((z : Int), bs) := by simp [DSt.write]
      rw [h]
      exact ownsRow_keep hown (by rintro k ⟨⟩; exact hset gg gp)
    · refine ⟨_, m2.keep ((hset mb (fun e => hB.pm e.symm)).trans km), fun k => ?_⟩
      simp only [DSt.write]
      rw [look_put, lastIx_snoc, hm2]
      by_cases h : (z : Int) = k <;> simp [h]
    · rw [hcl]; simpa [Value.ownBlock] using gp
    · rw [hcl]; simpa [Value.ownBlock] using gs
    · rw [hcl]; simpa [Value.ownBlock] using gr
    · rw [hcl]; simpa [Value.ownBlock] using gm
  · rintro k hk
    have : gg = k := by simpa [Value.ownBlock] using hk
    exact .inr this.symm
  · rintro k (hk | rfl)
    · have := lt k hk; simp; omega
    · simpa using hlt
  · rintro k (hk | rfl) hlk
    · exact hk
    · rcases hat with h | h
      · exact f5 _ h
      · have := U.size; omega
  · refine U.trans (G := F) ?_ (fun k hk _ => hk)
    refine ⟨hgrow.os.trans g2.os, hgrow.tape.trans g2.tape, hgrow.output.trans g2.output, by simp; omega, fun k hk hf => ?_⟩
    exact (hset k (fun e => hf (e ▸ f1))).trans (k1 k hk (fun e => hf (f5 k e.symm)) (fun e => hf (e ▸ f4)))

set_option maxRecDepth 100000 in
set_option maxHeartbeats 4000000 in
theorem write_good {F : Nat → Prop} {w : World} {p n : Nat} {st : DSt} (h : Hid (DrvAt F w p n st)) (hd : st.dead = false) (z : Nat) (hz : z < n) {S : Nat → Prop} {b o c : Nat} {bs : List Int} (hb : Hid (RdL U8R 1 S w (some ⟨b, o, none⟩) 64 bs)) (hS : ¬ F b) (hcl : st.cache.length < 1000000) :
    Calls Tryz.prog 215 #[.pointer (some ⟨p, 0, none⟩), .int .i64 z, .slice (some ⟨b, o, none⟩) 64 c] w fun e w' => e = .returned (.int .i64 0) ∧ Upd F w w' p n (st.write z bs) := by
  obtain ⟨sb, sc, rb, rc, A, cc, mb, H⟩ := h.out.box
  rw [hd] at H
  go_enter Tryz.func215, Tryz.ntmps215
  go_wp2_with fail
  refine (dready_any z H).mono ?_
  rintro e w1 ⟨rfl, h1⟩
  have e1 : readyE false n z = 0 := by simp [readyE, hz]
  rw [e1]
  clear e1 H
  have D := Lib.hid (h.out.below h1)
  have B := Lib.hid (hb.out.below U8R.stable h1)
  have U := Keep.of_below (F := F) h1
  have s1 := h1.size
  clear h hb h1
  go_wp2_with fail
  obtain ⟨sb, sc, rb, rc, A, cc, mb, hB, f1, f2, f3, f4, f5, lt⟩ := D.out
  obtain ⟨es, hm1, hm2⟩ := hB.ma
  obtain ⟨k0, k1, k2, k3, k4⟩ := drv_cells hB.box
  obtain ⟨w2, r2, m2, g2, s2⟩ := run_mapUpdate (P := Tryz.prog) ktInt mapTy (w := w1.drew) hm1 (z : Int) (.int .i64 st.cache.length)
  have hne : some p ≠ some mb := by simpa using hB.pm
  have g2' : w1.grownBy w2 (some mb) := ⟨g2.os, g2.tape, g2.output, g2.size, g2.block⟩
  have hpl : p < w1.drew.heap.size := lt p f1
  have hb0 : bs.length = 64 := B.out.1
  have z2 : w1.frozen? ⟨p, 2, none⟩ = false := hB.box.frozen 2
  have own1 : w2.ownsRow 0 244 65 (.slice A st.cache.length cc) st.cache.length (st.cache.map waitCells).flatten := ownsRow_keep hB.co (fun k hk => g2.block k (lt k (f5 k hk)) (fun e => hB.mc (e ▸ hk)))
  have z2' : w2.frozen? ⟨p, 2, none⟩ = false := frozen_far2 k2 z2 g2' hne
  have k2' : w2.cell? ⟨p, 2, none⟩ = some (.slice A st.cache.length cc) := cell_far2 k2 g2' hne
  have k3' : w2.cell? ⟨p, 3, none⟩ = some (.map (some mb)) := cell_far2 k3 g2' hne
  have hcp : some p ≠ (Value.slice A st.cache.length cc).ownBlock := fun e => hB.pc e.symm
  have hcb : some b ≠ (Value.slice A st.cache.length cc).ownBlock := fun e => hS (f5 b e.symm)
  have hbm : some b ≠ some mb := fun e => hS (by injection e with e; exact e ▸ f4)
  have hbc : w2.rangeAt b o (secCells bs) := range_far (u8_range B.out) g2' hbm
  clear hm1 k0 k1 k4 z2
  go_region_held3 (fun w' => w'.cell? ⟨p, 3, none⟩ = some (.map (some mb)) ∧ w'.cell? ⟨p, 2, none⟩ = some (.slice A st.cache.length cc))
    (first | exact ⟨k3, k2⟩ | exact ⟨k3', k2'⟩) (fail)
  go_wp2_with fail
  have hsz : (secCells bs).length = 64 := by simp [secCells, hb0]
  have hu := secRow
  have hi : (Tryz.prog.info? 198).map (·.size) = some (secCells bs).length := by rw [secSize]; simp [secCells, hb0]
  have haa : ∀ w, (Instr.arrayAt 198 (.slice (some ⟨b, o, none⟩) 64 c)).run Tryz.prog w = .ok (.pointer (some ⟨b, o, none⟩)) w := fun w => run_arrayAt w _ _ 64 _ _ _ secRow (Nat.le_refl _)
  obtain ⟨i0, hi0, hz0, hz1, hz2⟩ := info_parts waitInfo
  clear k2 hb0 k3 k3' s2
  have k2a : ∀ o, (w2.alloc o).cell? ⟨p, 2, none⟩ = some (.slice A st.cache.length cc) := fun o => cell_alloc2 k2' o
  have hpb : some b ≠ some p := fun e => hS (by injection e with e; exact e ▸ f1)
  have hload : (shutLoad 198 ⟨b, o, none⟩).run Tryz.prog w2.drew = .ok (.agg (secCells bs).toArray) w2.drew := run_loadVar_mid (P := Tryz.prog) w2.drew b o _ _ _ hbc secRow rfl hi
  have hg0 : Hid (w1.drew.grownBy w2 (some mb)) := Lib.hid g2
  have hz0' := Lib.hid z2'
  clear hi hu
  have z2a : ∀ o, (w2.alloc o).frozen? ⟨p, 2, none⟩ = false := fun o => frozen_alloc2 k2' z2' o
  go_region_law ((refine step_append_lies _ (by rfl) _ _ _ (by rfl) 0 244 i0 _ 65 72 Tryz.underlying186 hi0 hz0 hz1 hz2 rfl (by omega) (.slice A st.cache.length cc) st.cache.length _ (by rfl) (World.ownsRow.drew (own1.alloc _)) ⟨w2.heap.size, 0, none⟩ 1 1 (waitCells ((z : Int), bs)) (by rfl) (by simp [waitCells, hsz]) (World.news_of_block (cs := (waitCells ((z : Int), bs)).toArray) (t := 244) (fr := (0, 0)) (heap_alloc_new w2 _)) (fun u hu => waitCells_one u hu) (by omega) (by unfold maxLen; omega) (by omega) (by omega) (w2.heap.size + 1) (by simp) ?_; intro gg cap w3 hown3 hgrow hat hlt; have kk : w3.cell? ⟨p, 2, none⟩ = some (.slice A st.cache.length cc) := (by exact cell_far3 hgrow k2' hcp); have zz : w3.frozen? ⟨p, 2, none⟩ = false := (by exact frozen_far3 hgrow k2' z2' hcp)))
  all_goals go_wp2_with fail
  all_goals go_ret
  all_goals exact ⟨rfl, write_post hB f1 f2 f3 f4 f5 lt U hz B.out.1 hm2 m2 g2 hown3 hgrow hat hlt⟩
end
section

def secZC : Array Value := Array.replicate 64 (.int .u8 0)
def waitZC : Array Value := (Value.int .i64 0 :: List.replicate 64 (.int .u8 0)).toArray
theorem secZC_size : secZC.size = 64 := by simp [secZC]
theorem waitZC_size : waitZC.size = 65 := by simp [waitZC]
def shutZero (t : TypeId) : Sem Value := zeroValue t
theorem shut_zero : zeroValue 198 = shutZero 198 := rfl
theorem shut_zero65 : zeroValue 244 = shutZero 244 := rfl
theorem run_shutZero (w : World) : (shutZero 198).run Tryz.prog w = .ok (.agg secZC) w := by
  obtain ⟨i2, hi2, hz2, hs2, hby2⟩ := info_parts (show (Tryz.prog.info? 198).map (fun i => (i.zero, i.size, i.bytes)) = some (some (.agg secZC), 64, 64) by kernel_rfl)
  simp [shutZero, zeroValue, typeInfo, hi2, hz2]
theorem run_shutZero65 (w : World) : (shutZero 244).run Tryz.prog w = .ok (.agg waitZC) w := by
  obtain ⟨i2, hi2, hz2, hs2, hby2⟩ := info_parts (show (Tryz.prog.info? 244).map (fun i => (i.zero, i.size, i.bytes)) = some (some (.agg waitZC), 65, 72) by kernel_rfl)
  simp [shutZero, zeroValue, typeInfo, hi2, hz2]
def shutStore (t : TypeId) (a : Addr) (v : Value) : Sem Unit := storeVar t a v
theorem shut_store (a : Addr) (v : Value) : storeVar 198 a v = shutStore 198 a v := rfl
theorem shut_store65 (a : Addr) (v : Value) : storeVar 244 a v = shutStore 244 a v := rfl
/-- Cells that may be stored. -/
def fitC (k : Nat) (cs : Array Value) : Prop := cs.size = k ∧ ∀ v ∈ cs.toList, v.oneCell' = true
theorem fit_sec {x : List Int} (h : x.length = 64) : fitC 64 (secCells x).toArray := ⟨by simp [secCells, h], by simpa using fun v hv => secCells_one v hv⟩
theorem fit_wait {p : Int × List Int} (h : p.2.length = 64) : fitC 65 (waitCells p).toArray := ⟨by simp [waitCells, secCells, h], by simpa using fun v hv => waitCells_one v hv⟩
theorem run_shutStore (w : World) (b o : Nat) (cs : Array Value) (hf : fitC 64 cs) (ht : w.there b o 64) : (shutStore 198 ⟨b, o, none⟩ (.agg cs)).run Tryz.prog w = .ok () (w.setCells b o cs.toList) :=
  run_storeVar_mid w b o _ cs (hf.1 ▸ ht) (by rw [secSize, hf.1]) (Array.all_eq_true_iff_forall_mem.2 (fun v hv => hf.2 v (by simpa using hv)))
theorem waitSize : (Tryz.prog.info? 244).map (·.size) = some 65 := by kernel_rfl
theorem run_shutStore65 (w : World) (b o : Nat) (cs : Array Value) (hf : fitC 65 cs) (ht : w.there b o 65) : (shutStore 244 ⟨b, o, none⟩ (.agg cs)).run Tryz.prog w = .ok () (w.setCells b o cs.toList) :=
  run_storeVar_mid w b o _ cs (hf.1 ▸ ht) (by rw [waitSize, hf.1]) (Array.all_eq_true_iff_forall_mem.2 (fun v hv => hf.2 v (by simpa using hv)))
theorem run_shutLoad {w : World} {b o : Nat} {cs : List Value} (h : w.rangeAt b o cs) (hl : cs.length = 64) : (shutLoad 198 ⟨b, o, none⟩).run Tryz.prog w = .ok (.agg cs.toArray) w :=
  run_loadVar_mid (P := Tryz.prog) w b o _ _ _ h secRow rfl (by rw [secSize, hl])
theorem run_shutLoad65 {w : World} {b o : Nat} {cs : List Value} (h : w.rangeAt b o cs) (hl : cs.length = 65) : (shutLoad 244 ⟨b, o, none⟩).run Tryz.prog w = .ok (.agg cs.toArray) w :=
  run_loadVar_mid (P := Tryz.prog) w b o _ _ _ h Tryz.underlying244 rfl (by rw [waitSize, hl])
theorem run_shutLoad_set (w : World) (b o : Nat) (cs : List Value) (hl : cs.length = 64) (ht : w.there b o 64) : (shutLoad 198 ⟨b, o, none⟩).run Tryz.prog (w.setCells b o cs) = .ok (.agg cs.toArray) (w.setCells b o cs) :=
  run_shutLoad (World.rangeAt_setCells_same w b o cs (hl ▸ ht)) hl
theorem there_new (w : World) (t : TypeId) : (w.alloc (.cells secZC t)).there w.heap.size 0 64 := fun j hj => by
  have h := BoxAt.new w secZC t
  refine ⟨?_, by simp [h.frozen j]⟩
  rw [show 0 + j = j by omega, h.cell]
  simp [secZC_size, hj]
theorem there_new65 (w : World) (t : TypeId) : (w.alloc (.cells waitZC t)).there w.heap.size 0 65 := fun j hj => by
  have h := BoxAt.new w waitZC t
  refine ⟨?_, by simp [h.frozen j]⟩
  rw [show 0 + j = j by omega, h.cell]
  simp [waitZC_size, hj]
/-- A variable that is set whole. -/
theorem BoxAt.setAll {w : World} {b : Nat} {cs : Array Value} (h : BoxAt w b cs) (vs : List Value) (hl : vs.length = cs.size) : BoxAt (w.setCells b 0 vs) b vs.toArray := by
  have gen : ∀ (vs : List Value) (pre : List Value) (w : World) (cs : List Value), vs.length = cs.length → BoxAt w b (pre ++ cs).toArray → BoxAt (w.setCells b pre.length vs) b (pre ++ vs).toArray := by
    intro vs
    induction vs with
    | nil => intro pre w cs h hb; rw [List.length_eq_zero_iff.1 h.symm] at hb; exact hb
    | cons v vs ih =>
      intro pre w cs h hb
      match cs, h with
      | c :: cs, h =>
        have h1 := hb.set pre.length v
        have e : (pre ++ c :: cs).toArray.setIfInBounds pre.length v = ((pre ++ [v]) ++ cs).toArray := by simp
        rw [e] at h1
        have h2 := ih (pre ++ [v]) _ cs (by simpa using h) h1
        simpa [World.setCells] using h2
  have := gen vs [] w cs.toList (by simpa using hl) (by simpa using h)
  simpa using this
theorem setCells_other (w : World) (b o k : Nat) (vs : List Value) (hk : k ≠ b) : (w.setCells b o vs).heap[k]? = w.heap[k]? := by
  induction vs generalizing w o with
  | nil => rfl
  | cons v vs ih => rw [World.setCells, ih]; exact Below.heap_setCell _ _ _ _ hk
theorem setCells_keep (w : World) (b o : Nat) (vs : List Value) : Keep (· = b) w (w.setCells b o vs) := by
  induction vs generalizing w o with
  | nil => exact Keep.refl _ _
  | cons v vs ih => exact (Keep.setCell (F := (· = b)) (Keep.refl _ w) (p := ⟨b, o, none⟩) (fun _ => rfl) v).trans (ih _ _) (fun _ h _ => h)
end
section
attribute [local go_sem ↓] shut_load shut_load65 shut_zero shut_zero65 shut_store shut_store65
attribute [local go_sem] run_shutZero run_shutZero65 run_shutStore run_shutStore65 run_shutLoad_set there_new there_new65

set_option maxRecDepth 100000 in
set_option maxHeartbeats 4000000 in
theorem seen_any {F : Nat → Prop} {w : World} {p n : Nat} {st : DSt} (h : Hid (DrvAt F w p n st)) (z : Nat) (hz : z < n) :
    Calls Tryz.prog 232 #[.pointer (some ⟨p, 0, none⟩), .int .i64 z] w fun e w' => e = .returned (.agg (secCells (st.seen z)).toArray) ∧ Below w.heap.size w w' := by
  obtain ⟨sb, sc, rb, rc, A, cc, mb, hB, f1, f2, f3, f4, f5, lt⟩ := h.out
  obtain ⟨es, hm1, hm2⟩ := hB.ma
  obtain ⟨k0, k1, k2, k3, k4⟩ := drv_cells hB.box
  have k0a : ∀ o, (w.alloc o).cell? ⟨p, 0, none⟩ = some (.slice (some ⟨sb, 0, none⟩) n sc) := fun o => cell_alloc2 k0 o
  have k2a : ∀ o, (w.alloc o).cell? ⟨p, 2, none⟩ = some (.slice A st.cache.length cc) := fun o => cell_alloc2 k2 o
  have k3a : ∀ o, (w.alloc o).cell? ⟨p, 3, none⟩ = some (.map (some mb)) := fun o => cell_alloc2 k3 o
  have hok := hB.ok
  have hzl : z < st.stored.length := by rw [hok.sl]; exact hz
  have hla : ∀ o, (Instr.lookup 187 (.map (some mb)) (.int .i64 z) true).run Tryz.prog (w.alloc o) = .ok (.tuple #[(mlook es z).getD (.int .i64 0), .bool (mlook es z).isSome]) (w.alloc o) := fun o => run_lookup ktInt mapTy (fun w => by simp [go_sem]) (hm1.alloc o) (z : Int) true
  cases hlx : lastIx st.cache z with
  | none =>
    have hmz : mlook es (z : Int) = none := by rw [hm2, hlx]; rfl
    rw [hmz] at hla
    have hsn : st.seen z = st.stored[z] := by simp [DSt.seen, hlx, hzl]
    have hl : ∀ o, (shutLoad 198 ⟨sb, z * 64, none⟩).run Tryz.prog (w.alloc o) = .ok (.agg (secCells (st.seen z)).toArray) (w.alloc o) := fun o => by
      refine run_shutLoad (World.rangeAt_alloc ?_ o) (by simp [secCells, hok.seen hz])
      refine ownsRow_range hB.so ?_ (i := z) ?_ (by simp [hok.sl])
      · intro cs hcs; obtain ⟨x, hx, rfl⟩ := List.mem_map.1 hcs; simp [secCells, hok.s64 x hx]
      · simp [hzl, hsn]
    have hfit := fit_sec (hok.seen hz)
    clear hlx hmz hsn hm1 hm2 hB hok
    have hsl : (secCells (st.seen z)).length = 64 := by simpa using hfit.1
    go_enter Tryz.func232, Tryz.ntmps232
    go_wp2_with fail
    obtain ⟨t9, hb9⟩ := BoxAt.setAll (BoxAt.new w secZC 198) (secCells (st.seen z)) (by rw [hsl, secZC_size])
    refine bodyPost_ret (v := .agg (secCells (st.seen z)).toArray) (results_cell_row Tryz.results232 _ _ w.heap.size t9 _ (0, 0) _ rfl hb9 secRow rfl (by rw [secSize]; simp [hsl])) rfl ?_
    exact ⟨rfl, (Keep.of_below (F := fun _ => False) ((Below.refl w.heap.size w).alloc (Nat.le_refl _) _)).trans (G := (· = w.heap.size)) (setCells_keep _ _ _ _) (fun k hk hlt => by subst hk; omega) |>.below (Nat.le_refl _) (fun _ h => h.elim)⟩
  | some i =>
    obtain ⟨s, hs⟩ := lastIx_some hlx
    have hil := (List.getElem?_eq_some_iff.1 hs).1
    have hmz : mlook es (z : Int) = some (.int .i64 i) := by rw [hm2, hlx]; rfl
    rw [hmz] at hla
    have hsn : st.seen z = s := by simp [DSt.seen, hlx, hs]
    have hc65 : ∀ cs ∈ st.cache.map waitCells, cs.length = 65 := by
      intro cs hcs; obtain ⟨x, hx, rfl⟩ := List.mem_map.1 hcs; simp [waitCells, secCells, hok.c64 x hx]
    obtain ⟨g, cap, hv, hg0, hglt⟩ := hB.co.form (by omega)
    obtain ⟨rfl, rfl⟩ : A = some ⟨g, 0, none⟩ ∧ cc = cap := by simpa using hv
    have hl : ∀ o, (shutLoad 198 ⟨g, i * 65 + 1, none⟩).run Tryz.prog (w.alloc o) = .ok (.agg (secCells (st.seen z)).toArray) (w.alloc o) := fun o => by
      have hr := ownsRow_range hB.co hc65 (i := i) (cs := waitCells ((z : Int), s)) (by simp [hs]) (by simp)
      refine run_shutLoad (World.rangeAt_alloc ?_ o) (by simp [secCells, hok.seen hz])
      intro j v hj
      rw [hsn] at hj
      have := hr (j + 1) v (by simpa [waitCells] using hj)
      rw [← this]; congr 2; omega
    have hfit := fit_sec (hok.seen hz)
    clear hlx hmz hsn hm1 hm2 hB hok hc65 hv hs
    have hsl : (secCells (st.seen z)).length = 64 := by simpa using hfit.1
    go_enter Tryz.func232, Tryz.ntmps232
    go_wp2_with fail
    obtain ⟨t9, hb9⟩ := BoxAt.setAll (BoxAt.new w secZC 198) (secCells (st.seen z)) (by rw [hsl, secZC_size])
    refine bodyPost_ret (v := .agg (secCells (st.seen z)).toArray) (results_cell_row Tryz.results232 _ _ w.heap.size t9 _ (0, 0) _ rfl hb9 secRow rfl (by rw [secSize]; simp [hsl])) rfl ?_
    exact ⟨rfl, (Keep.of_below (F := fun _ => False) ((Below.refl w.heap.size w).alloc (Nat.le_refl _) _)).trans (G := (· = w.heap.size)) (setCells_keep _ _ _ _) (fun k hk hlt => by subst hk; omega) |>.below (Nat.le_refl _) (fun _ h => h.elim)⟩

set_option maxRecDepth 100000 in
set_option maxHeartbeats 4000000 in
theorem read_good {F : Nat → Prop} {w : World} {p n : Nat} {st : DSt} (h : Hid (DrvAt F w p n st)) (hd : st.dead = false) (z : Nat) (hz : z < n) :
    Calls Tryz.prog 200 #[.pointer (some ⟨p, 0, none⟩), .int .i64 z] w fun e w' => ∃ A, e = .returned (.tuple #[.slice A 64 64, .int .i64 0]) ∧ RdL U8R 1 (w.heap.size ≤ ·) w' A 64 (st.seen z) ∧ Below w.heap.size w w' := by
  obtain ⟨sb, sc, rb, rc, A, cc, mb, H⟩ := h.out.box
  rw [hd] at H
  go_enter Tryz.func200, Tryz.ntmps200
  go_wp2_with fail
  refine (dready_any z H).mono ?_
  rintro e w1 ⟨rfl, h1⟩
  have e1 : readyE false n z = 0 := by simp [readyE, hz]
  rw [e1]
  clear e1 H
  have D := Lib.hid (h.out.below h1)
  have s1 := h1.size
  clear h
  go_wp2_with fail
  refine (seen_any D z hz).mono ?_
  rintro e w2 ⟨rfl, h2⟩
  have h12 := h1.trans (h2.mono h1.size)
  have hfit := fit_sec (D.out.ok.seen hz)
  have hsl : (secCells (st.seen z)).length = 64 := by simpa using hfit.1
  clear h1 h2 s1
  go_wp2_with fail
  go_ret2
  have hb := BoxAt.setAll (BoxAt.new w2 secZC 198) (secCells (st.seen z)) (by rw [hsl, secZC_size])
  have hr := hb.bytes (xs := st.seen z) (S := (w.heap.size ≤ ·)) h12.size
  rw [D.out.ok.seen hz] at hr
  exact ⟨_, rfl, hr, (Keep.of_below (F := fun _ => False) ((h12.alloc h12.size _))).trans (G := (· = w2.heap.size)) (setCells_keep _ _ _ _) (fun k hk hlt => by subst hk; have := h12.size; omega) |>.below (Nat.le_refl _) (fun _ h => h.elim)⟩

set_option maxRecDepth 100000 in
set_option maxHeartbeats 4000000 in
theorem read_bad {F : Nat → Prop} {w : World} {p n : Nat} {st : DSt} (h : Hid (DrvAt F w p n st)) (z : Int) (hz : readyE st.dead n z ≠ 0) :
    Calls Tryz.prog 200 #[.pointer (some ⟨p, 0, none⟩), .int .i64 z] w fun e w' => e = .returned (.tuple #[.slice none 0 0, .int .i64 (readyE st.dead n z)]) ∧ Below w.heap.size w w' := by
  obtain ⟨sb, sc, rb, rc, A, cc, mb, H⟩ := h.out.box
  go_enter Tryz.func200, Tryz.ntmps200
  go_wp2_with fail
  refine (dready_any z H).mono ?_
  rintro e w1 ⟨rfl, h1⟩
  obtain ⟨E, hE⟩ : ∃ E, readyE st.dead n z = E := ⟨_, rfl⟩
  rw [hE] at hz ⊢
  have hz2 : (E == 0) = false := by simpa using hz
  have hz3 : (E != 0) = true := by simpa using hz
  have HE := Lib.hid hE
  clear hE H
  go_wp2_with fail
  go_ret2
  exact ⟨by rw [HE.out]; rfl, h1⟩
end
section
attribute [local go_sem ↓] shut_load shut_load65 shut_zero shut_zero65 shut_store shut_store65
attribute [local go_sem] run_shutZero run_shutZero65 run_shutStore run_shutStore65 run_shutLoad_set there_new there_new65

def DSt.after (st : DSt) (keep : Nat → Bool) (k : Nat) : DSt := { st with stored := putL keep 0 (st.cache.take k) st.stored, rotten := freshL keep 0 (st.cache.take k) st.rotten }

theorem DSt.after_skip {st : DSt} {keep : Nat → Bool} {k : Nat} (hk : k < st.cache.length) (h : keep k = false) : st.after keep (k + 1) = st.after keep k := by
  simp only [DSt.after, List.take_succ_eq_append_getElem hk, putL_snoc, freshL_snoc, Nat.zero_add, List.length_take, Nat.min_eq_left (Nat.le_of_lt hk), h]
  simp
theorem DSt.after_put {st : DSt} {keep : Nat → Bool} {k : Nat} (hk : k < st.cache.length) (h : keep k = true) {a : Nat} {s : List Int} (hs : st.cache[k] = ((a : Int), s)) :
    st.after keep (k + 1) = { st.after keep k with stored := (st.after keep k).stored.set a s, rotten := (st.after keep k).rotten.set a false } := by
  simp only [DSt.after, List.take_succ_eq_append_getElem hk, putL_snoc, freshL_snoc, Nat.zero_add, List.length_take, Nat.min_eq_left (Nat.le_of_lt hk), h, hs]
  simp
theorem DrvB.blocks {w : World} {p n sb sc rb rc : Nat} {A : Option Addr} {cc mb : Nat} {st : DSt} (h : DrvB w p n sb sc rb rc A cc mb st) : p < w.heap.size ∧ sb < w.heap.size ∧ rb < w.heap.size ∧ mb < w.heap.size ∧ ∀ k, (Value.slice A st.cache.length cc).ownBlock = some k → k < w.heap.size := by
  obtain ⟨es, h1, _⟩ := h.ma
  exact ⟨h.box.lt, (h.so.lt sb rfl).2, (h.ro.lt rb rfl).2, h1.lt, fun k hk => (h.co.lt k hk).2⟩
theorem DrvB.below {w w' : World} {p n sb sc rb rc : Nat} {A : Option Addr} {cc mb : Nat} {st : DSt} (h : DrvB w p n sb sc rb rc A cc mb st) (hb : Below w.heap.size w w') : DrvB w' p n sb sc rb rc A cc mb st := by
  obtain ⟨h1, h2, h3, h4, h5⟩ := h.blocks
  exact h.keep (hb.block _ h1) (hb.block _ h2) (hb.block _ h3) (hb.block _ h4) (fun k hk => hb.block _ (h5 k hk))
theorem below_box (w : World) (o : Obj) (off : Nat) (vs : List Value) : Below w.heap.size w ((w.alloc o).setCells w.heap.size off vs) :=
  ((Keep.of_below (F := fun _ => False) ((Below.refl w.heap.size w).alloc (Nat.le_refl _) _)).trans (G := (· = w.heap.size)) (setCells_keep _ _ _ _) (fun k hk hlt => by subst hk; omega)).below (Nat.le_refl _) (fun _ h => h.elim)
theorem run_clear {κ : Type} [DecidableEq κ] {mk : κ → Value} {P : Program} {T K E : TypeId} {w : World} {b : Nat} {es : List (κ × Value)} (ht : P.underlying T = some (.map K E)) (hm : MapAt mk w b es) (ty : TypeId) :
    ∃ w', (Builtin.clear_ #[T] ty #[.map (some b)]).run P w = .ok (.tuple #[]) w' ∧ MapAt mk w' b [] ∧ w.grownBy w' (some b) ∧ w'.heap.size = w.heap.size := by
  have hlt := hm.lt
  obtain ⟨h0, arr, clock, h1, h2, h3, h4⟩ := hm
  refine ⟨{ w with heap := w.heap.setIfInBounds b (.map #[] clock) }, ?_, ⟨by simp, _, _, heap_setObj w b _ hlt, by simp, by simp, by simp⟩, grown_setObj w b _, by simp⟩
  simp [Builtin.clear_, run_underlying ht, run_getMap h1, run_setObj (P := P) h1 (by simp)]
theorem DrvB.settled {w w1 w' : World} {p n sb sc rb rc : Nat} {A : Option Addr} {cc mb : Nat} {st : DSt} {keep : Nat → Bool} (h : DrvB w p n sb sc rb rc A cc mb (st.after keep st.cache.length))
    (hw1 : w1 = w.setCell ⟨p, 2, none⟩ (.slice none 0 0)) (hm : MapAt (Value.int .i64) w' mb ([] : List (Int × Value))) (hg : w1.grownBy w' (some mb)) : DrvB w' p n sb sc rb rc none 0 mb (st.settle keep) := by
  subst hw1
  have hok := h.ok
  obtain ⟨l1, l2, l3, l4, _⟩ := h.blocks
  have hs : st.settle keep = { st.after keep st.cache.length with cache := [] } := by simp [DSt.settle, DSt.after]
  have hk : ∀ k, k < w.heap.size → k ≠ p → k ≠ mb → w'.heap[k]? = w.heap[k]? := fun k hk h1 h2 => (hg.block k (by simpa using hk) (by simpa using h2)).trans (Below.heap_setCell _ _ _ _ h1)
  rw [hs]
  refine ⟨⟨hok.sl, hok.rl, hok.s64, by simp, by simp⟩, h.n1, h.n600, ?_, ownsRow_keep h.so (by rintro k ⟨⟩; exact hk sb l2 (fun e => h.ps e.symm) h.sm), ownsRow_keep h.ro (by rintro k ⟨⟩; exact hk rb l3 (fun e => h.pr e.symm) h.rm), World.ownsRow_nil _ _ _ _, ⟨[], hm, fun k => rfl⟩, h.ps, h.pr, h.pm, h.sr, h.sm, h.rm, by simp [Value.ownBlock], by simp [Value.ownBlock], by simp [Value.ownBlock], by simp [Value.ownBlock]⟩
  exact (h.box.set 2 _).keep (hg.block p (by simpa using l1) (by simpa using h.pm))

theorem cell_setCells_ne {w : World} {b o : Nat} {cs : List Value} {a : Addr} {v : Value} (h : w.cell? a = some v) (hn : a.block ≠ b) : (w.setCells b o cs).cell? a = some v :=
  (World.cell?_of_block (setCells_other w b o a.block cs hn)).trans h
theorem frozen_setCells_ne {w : World} {b o : Nat} {cs : List Value} {a : Addr} (h : w.frozen? a = false) : (w.setCells b o cs).frozen? a = false := by rw [World.frozen?_setCells]; exact h
theorem cell_setCell_ne {w : World} {p a : Addr} {u v : Value} (h : w.cell? a = some v) (hn : a.block ≠ p.block) : (w.setCell p u).cell? a = some v :=
  (World.cell?_of_block (Below.heap_setCell _ _ _ _ hn)).trans h
section
variable {w : World} {p bb sb o : Nat} {v0 v1 v2 : Value} {cs : List Value}
theorem settleS1 (hp : p ≠ sb) (hb : bb ≠ sb) (ds : List Value) (h : w.cell? ⟨p, 0, none⟩ = some v0 ∧ w.cell? ⟨p, 1, none⟩ = some v1 ∧ w.cell? ⟨bb, 0, none⟩ = some v2 ∧ w.rangeAt bb 1 cs ∧ w.there sb o 64) :
    (w.setCells sb o ds).cell? ⟨p, 0, none⟩ = some v0 ∧ (w.setCells sb o ds).cell? ⟨p, 1, none⟩ = some v1 ∧ (w.setCells sb o ds).cell? ⟨bb, 0, none⟩ = some v2 ∧ (w.setCells sb o ds).rangeAt bb 1 cs ∧ (w.setCells sb o ds).there sb o 64 :=
  ⟨cell_setCells_ne h.1 hp, cell_setCells_ne h.2.1 hp, cell_setCells_ne h.2.2.1 hb, World.rangeAt_setCells_apart h.2.2.2.1 _ _ _ (.inl hb), World.there_setCells h.2.2.2.2 _ _ _⟩
theorem settleS2 {q : Addr} (hp : p ≠ q.block) (hb : bb ≠ q.block) (hs : sb ≠ q.block) (u : Value) (h : w.cell? ⟨p, 0, none⟩ = some v0 ∧ w.cell? ⟨p, 1, none⟩ = some v1 ∧ w.cell? ⟨bb, 0, none⟩ = some v2 ∧ w.rangeAt bb 1 cs ∧ w.there sb o 64) :
    (w.setCell q u).cell? ⟨p, 0, none⟩ = some v0 ∧ (w.setCell q u).cell? ⟨p, 1, none⟩ = some v1 ∧ (w.setCell q u).cell? ⟨bb, 0, none⟩ = some v2 ∧ (w.setCell q u).rangeAt bb 1 cs ∧ (w.setCell q u).there sb o 64 :=
  ⟨cell_setCell_ne h.1 hp, cell_setCell_ne h.2.1 hp, cell_setCell_ne h.2.2.1 hb, fun j v hj => cell_setCell_ne (h.2.2.2.1 j v hj) hb, fun j hj => ⟨by
    obtain ⟨u, hu⟩ := Option.isSome_iff_exists.1 (h.2.2.2.2 j hj).1
    rw [cell_setCell_ne hu hs]; rfl, by rw [World.frozen?_setCell]; exact (h.2.2.2.2 j hj).2⟩⟩
end
/-- One sector is stored anew, and its mark is taken away. -/
theorem DrvB.put {w w' : World} {p n sb sc rb rc : Nat} {A : Option Addr} {cc mb : Nat} {st : DSt} (h : DrvB w p n sb sc rb rc A cc mb st) {a : Nat} {s : List Int} {r : Bool} (ha : a < n) (hs : s.length = 64)
    (hk : ∀ k, k ≠ sb → k ≠ rb → w'.heap[k]? = w.heap[k]?) (hso : w'.ownsRow 0 198 64 (.slice (some ⟨sb, 0, none⟩) n sc) n ((st.stored.map secCells).set a (secCells s)).flatten)
    (hro : w'.ownsRow 0 4 1 (.slice (some ⟨rb, 0, none⟩) n rc) n ((st.rotten.map Value.bool).set a (.bool r))) :
    DrvB w' p n sb sc rb rc A cc mb { st with stored := st.stored.set a s, rotten := st.rotten.set a r } := by
  have hok := h.ok
  refine ⟨⟨by simp [hok.sl], by simp [hok.rl], ?_, hok.c64, hok.cat⟩, h.n1, h.n600, h.box.keep (hk p h.ps h.pr), ?_, ?_, ownsRow_keep h.co (fun k hk2 => hk k (fun e => h.sc (e ▸ hk2)) (fun e => h.rc (e ▸ hk2))), ?_, h.ps, h.pr, h.pm, h.sr, h.sm, h.rm, h.pc, h.sc, h.rc, h.mc⟩
  · intro x hx
    rcases List.mem_or_eq_of_mem_set hx with h1 | h1
    · exact hok.s64 x h1
    · rw [h1]; exact hs
  · rw [List.map_set]; exact hso
  · rw [List.map_set]; exact hro
  · obtain ⟨es, h1, h2⟩ := h.ma
    exact ⟨es, h1.keep (hk mb (fun e => h.sm e.symm) (fun e => h.rm e.symm)), h2⟩

set_option maxRecDepth 100000 in
set_option maxHeartbeats 4000000 in
theorem settle_any {F : Nat → Prop} {w : World} {p n : Nat} {st : DSt} (h : Hid (DrvAt F w p n st)) (keep : Nat → Bool) (f : FuncId) (cap : Array Value)
    (hc : ∀ (k : Nat) (w' : World), k < st.cache.length → Keep F w w' → Calls Tryz.prog f (#[.int .i64 k] ++ cap) w' fun e w'' => e = .returned (.bool (keep k)) ∧ Below w'.heap.size w' w'') (hcf : ∀ args w, (callFunc f args).run Tryz.prog w = .ok (.enter f args) w) (hcl : st.cache.length < 1000000) :
    Calls Tryz.prog 129 #[.pointer (some ⟨p, 0, none⟩), .func (.func f) #[] cap] w fun e w' => e = .returned (.tuple #[]) ∧ Upd F w w' p n (st.settle keep) := by
  obtain ⟨sb, sc, rb, rc, A, cc, mb, hB, f1, f2, f3, f4, f5, lt⟩ := h.out
  obtain ⟨k0, k1, k2, k3, k4⟩ := drv_cells hB.box
  have HB := Lib.hid hB
  have HC := Lib.hid hc
  clear hB hc
  go_enter Tryz.func129, Tryz.ntmps129
  go_wp2_with fail
  clear k0 k1 k2 k3 k4
  go_loopw [11] (fun vi wr => ∃ k : Nat, k ≤ st.cache.length ∧ vi = .int .i64 k ∧ Hid (DrvB wr p n sb sc rb rc A cc mb (st.after keep k)) ∧ Hid (Keep F w wr)) (fun vi _ => st.cache.length - (intOf vi).toNat)
  case atStart => exact ⟨0, Nat.zero_le _, rfl, HB, Lib.hid (Keep.refl _ _)⟩
  case round =>
    obtain ⟨k, hk, rfl, hD, hK⟩ := hrel
    by_cases hlt : k < st.cache.length
    · have hok := hD.out.ok
      have hc65 : ∀ cs ∈ st.cache.map waitCells, cs.length = 65 := by
        intro cs hcs; obtain ⟨x, hx, rfl⟩ := List.mem_map.1 hcs; simp [waitCells, secCells, hok.c64 x hx]
      obtain ⟨g, cap2, hv, hg0, hglt⟩ := hD.out.co.form (by show 0 < st.cache.length; omega)
      obtain ⟨rfl, rfl⟩ : A = some ⟨g, 0, none⟩ ∧ cc = cap2 := by simpa using hv
      obtain ⟨a, s, hks⟩ : ∃ (a : Nat) (s : List Int), st.cache[k] = ((a : Int), s) := ⟨st.cache[k].1.toNat, st.cache[k].2, by
        have := (hok.cat _ (List.getElem_mem hlt)).1
        rw [Int.toNat_of_nonneg this]⟩
      have ha : a < n := by have := (hok.cat _ (List.getElem_mem hlt)).2; rw [hks] at this; simpa using this
      have hs64 : s.length = 64 := by have := hok.c64 _ (List.getElem_mem hlt); rw [hks] at this; exact this
      have hfit : fitC 65 (waitCells ((a : Int), s)).toArray := fit_wait hs64
      have hl : (shutLoad 244 ⟨g, k * 65, none⟩).run Tryz.prog wr = .ok (.agg (waitCells ((a : Int), s)).toArray) wr := by
        have hr := ownsRow_range hD.out.co hc65 (i := k) (cs := waitCells ((a : Int), s)) (by simp [DSt.after, hlt, hks]) (by simp [DSt.after])
        exact run_shutLoad65 hr (by simpa using hfit.1)
      have hbW := below_box wr (.cells waitZC 244) 0 (waitCells ((a : Int), s))
      have hxW := BoxAt.setAll (BoxAt.new wr waitZC 244) (waitCells ((a : Int), s)) (by rw [waitZC_size]; simpa using hfit.1)
      have hwr := hK.out.size
      have hbnew : ∀ k, F k → k < wr.heap.size := fun k hk => Nat.lt_of_lt_of_le (lt k hk) hK.out.size
      have HbW := Lib.hid hbW
      have HxW := Lib.hid hxW
      clear hok hc65 hv hbW hxW
      go_wp2_with fail
      obtain ⟨W, hW⟩ : ∃ W, (wr.alloc (Obj.cells waitZC 244)).setCells wr.heap.size 0 (waitCells ((a : Int), s)) = W := ⟨_, rfl⟩
      rw [hW] at HbW HxW ⊢
      clear hl hW
      have KW : Keep F w W := hK.out.trans (G := fun _ => False) (Keep.of_below HbW.out) (fun _ h => h.elim)
      refine (HC.out k W hlt KW).mono ?_
      rintro e w3 ⟨rfl, h3⟩
      have hB3 := (hD.out.below HbW.out).below h3
      have hK3 : Keep F w w3 := KW.trans (G := fun _ => False) (Keep.of_below h3) (fun _ h => h.elim)
      have hx3 := HxW.out.below h3
      have HB3 := Lib.hid hB3
      have HK3 := Lib.hid hK3
      clear KW HbW HxW h3 hD hK
      cases hkp : keep k with
      | false =>
        clear hB3 hK3 hx3
        go_wp2_with fail
        refine ⟨⟨k + 1, by omega, by go_num, ?_, HK3⟩, by simp [intOf]; omega⟩
        rw [DSt.after_skip hlt hkp]
        exact HB3
      | true =>
        obtain ⟨k0, k1, k2, k3, k4⟩ := drv_cells hB3.box
        have q0 : w3.cell? ⟨wr.heap.size, 0, none⟩ = some (.int .i64 a) := hx3.cell 0
        obtain ⟨bb, hbb⟩ : ∃ bb, wr.heap.size = bb := ⟨_, rfl⟩
        rw [hbb] at hx3 q0
        have hlt3 := hB3.blocks
        have hgb : w.heap.size ≤ bb := by rw [← hbb]; exact hwr
        have nbs : bb ≠ sb := fun e => by have := lt sb f2; omega
        have nbr : bb ≠ rb := fun e => by have := lt rb f3; omega
        have hr3 : w3.rangeAt bb 1 (secCells s) := fun j v hj => by
          rw [hx3.cell]; simpa [waitCells, Nat.add_comm] using hj
        have hal : a * 64 + 64 ≤ n * 64 := by have : (a + 1) * 64 ≤ n * 64 := Nat.mul_le_mul_right _ ha; omega
        have ht3 : w3.there sb (a * 64) 64 := ownsRow_there hB3.so hal
        have S0 := And.intro k0 (And.intro k1 (And.intro q0 (And.intro hr3 ht3)))
        have hrl : (st.after keep k).rotten.length = n := hB3.ok.rl
        obtain ⟨rv, r0⟩ : ∃ rv, w3.cell? ⟨rb, a, none⟩ = some rv := ⟨_, (hB3.ro.cellAt a (by omega)).trans (List.getElem?_eq_getElem (by simpa [hrl] using ha))⟩
        have r1 : w3.frozen? ⟨rb, a, none⟩ = false := hB3.ro.frozenAt a
        have r2 : ∀ o cs, (w3.drew.setCells sb o cs).cell? ⟨rb, a, none⟩ = some rv := fun o cs => cell_setCells_ne (w := w3.drew) r0 (fun e => hB3.sr e.symm)
        have r3 : ∀ o cs, (w3.drew.setCells sb o cs).frozen? ⟨rb, a, none⟩ = false := fun o cs => frozen_setCells_ne (w := w3.drew) r1
        have hps := hB3.ps
        have hpr := hB3.pr
        have hsr := hB3.sr
        have hu := secRow
        have hcs : (secCells s).length = 64 := by simp [secCells, hs64]
        have hi : (Tryz.prog.info? 198).map (·.size) = some (secCells s).length := by rw [secSize, hcs]
        have h1c : ∀ v ∈ secCells s, v.oneCell' = true := fun v hv => secCells_one v hv
        have hk0 : (0 : Int) ≤ (a : Int) := Int.natCast_nonneg _
        have hk8 : (a : Int) < (n : Int) := by omega
        clear hB3 k2 k3 k4 hlt3 hfit
        go_wp2_with fail
        clear hbb hbnew
        go_region_held3 (fun w' => w'.cell? ⟨p, 0, none⟩ = some (.slice (some ⟨sb, 0, none⟩) n sc) ∧ w'.cell? ⟨p, 1, none⟩ = some (.slice (some ⟨rb, 0, none⟩) n rc) ∧ w'.cell? ⟨bb, 0, none⟩ = some (.int .i64 a) ∧ w'.rangeAt bb 1 (secCells s) ∧ w'.there sb (a * 64) 64)
          (first
            | exact S0
            | exact settleS1 (w := World.drew _) hps nbs _ S0
            | exact settleS2 (w := World.drew _) (q := ⟨rb, a, none⟩) hpr nbr hsr _ S0
            | exact settleS2 (q := ⟨rb, a, none⟩) hpr nbr hsr _ (settleS1 (w := World.drew _) hps nbs _ S0)
            | exact settleS1 hps nbs _ (settleS2 (w := World.drew _) (q := ⟨rb, a, none⟩) hpr nbr hsr _ S0)) (fail)
        go_wp2_with fail
        refine ⟨⟨k + 1, by omega, by go_num, Lib.hid ?_, Lib.hid ?_⟩, by simp [intOf]; omega⟩
        · rw [DSt.after_put hlt hkp hks]
          have o1 := ownsRow_row (w := w3.drew) HB3.out.so (fun cs hcs => by obtain ⟨x, hx, rfl⟩ := List.mem_map.1 hcs; simp [secCells, HB3.out.ok.s64 x hx]) ha (by simp [HB3.out.ok.sl]) (cs := secCells s) hcs
          have o2 := (World.ownsRow.stored (ownsRow_keep (w' := w3.drew.setCells sb (a * 64) (secCells s)) HB3.out.ro (by rintro k ⟨⟩; exact setCells_other w3.drew sb _ rb _ (fun e => hsr e.symm))) a (.bool false)).1
          refine HB3.out.put ha hs64 (fun k h1 h2 => ?_) (ownsRow_keep o1 (by rintro k ⟨⟩; exact Below.heap_setCell _ _ _ _ hsr)) o2
          exact (Below.heap_setCell _ _ _ _ h2).trans (setCells_other w3.drew sb _ k _ h1)
        · refine HK3.out.trans (G := F) ?_ (fun k h _ => h)
          refine Keep.setCell (Keep.trans (F := F) (G := fun k => k = sb) (Keep.of_below ((Below.refl w3.heap.size w3).drew)) (setCells_keep w3.drew sb _ _) (fun k h _ => h ▸ f2)) (fun _ => f3) _
    · obtain rfl : k = st.cache.length := by omega
      obtain ⟨k0, k1, k2, k3, k4⟩ := drv_cells hD.out.box
      have z2 := hD.out.box.frozen 2
      obtain ⟨es, hm1, hm2⟩ := hD.out.ma
      obtain ⟨W, hW⟩ : ∃ W, wr.setCell ⟨p, 2, none⟩ (.slice none 0 0) = W := ⟨_, rfl⟩
      have hmW : MapAt (Value.int .i64) W mb es := by rw [← hW]; exact hm1.keep (Below.heap_setCell _ _ _ _ (fun e => hD.out.pm e.symm))
      obtain ⟨w4, r4, m4, g4, s4⟩ := run_clear (P := Tryz.prog) mapTy hmW 0
      rw [← hW] at r4
      have hsz : W.heap.size = wr.heap.size := by rw [← hW]; simp
      have HW := Lib.hid hW
      have HS := Lib.hid hsz
      clear hW hmW hm1 hm2 s4 hsz
      go_wp2_with fail
      go_end0
      have hkW : Keep F wr W := by rw [← HW.out]; exact Keep.setCell (Keep.refl F wr) (fun _ => f1) _
      refine ⟨rfl, F, ⟨sb, sc, rb, rc, none, 0, mb, hD.out.settled HW.out.symm m4 g4, f1, f2, f3, f4, by simp [Value.ownBlock], fun k hk => ?_⟩, fun k hk _ => hk, ?_⟩
      · have h1 := lt k hk
        have h2 := hK.out.size
        have h3 := g4.size
        have h4 := HS.out
        omega
      · exact (hK.out.trans hkW (fun _ h _ => h)).trans (Keep.of_grown g4) (fun k h _ => by injection h with h; exact h ▸ f4)
end
section

theorem call50 (args : Array Value) (w : World) : (callFunc 130 args).run Tryz.prog w = .ok (.enter 130 args) w := by go_simp
theorem all_kept (k : Nat) (w : World) : Calls Tryz.prog 130 #[.int .i64 k] w fun e w' => e = .returned (.bool true) ∧ Below w.heap.size w w' := by
  go_enter Tryz.func130, Tryz.ntmps130
  go_wp2_with fail
  go_ret
  exact ⟨rfl, Below.refl _ _⟩

set_option maxRecDepth 100000 in
theorem flush_good {F : Nat → Prop} {w : World} {p n : Nat} {st : DSt} (h : Hid (DrvAt F w p n st)) (hd : st.dead = false) (hcl : st.cache.length < 1000000) :
    Calls Tryz.prog 74 #[.pointer (some ⟨p, 0, none⟩)] w fun e w' => e = .returned (.int .i64 0) ∧ Upd F w w' p n (st.settle fun _ => true) := by
  obtain ⟨sb, sc, rb, rc, A, cc, mb, H⟩ := h.out.box
  rw [hd] at H
  go_enter Tryz.func74, Tryz.ntmps74
  go_wp2_with fail
  refine (dnone_any H).mono ?_
  rintro e w1 ⟨rfl, h1⟩
  have D := Lib.hid (h.out.below h1)
  obtain ⟨k0, k1, k2, k3, k4⟩ := drv_cells (H.out.below h1)
  go_wp2_with fail
  refine (settle_any D (fun _ => true) 130 #[] (fun k w' _ _ => by simpa using all_kept k w') call50 hcl).mono ?_
  rintro e w2 ⟨rfl, F', hD', hF, hK⟩
  have hKF := (Keep.of_below (F := F) h1).trans hK (fun k h _ => h)
  have s1 := h1.size
  clear k0 k1 k2 k3 k4 H h D h1 hK
  go_wp2_with fail
  go_ret
  exact ⟨rfl, F', hD', fun k hk hlt => hF k hk (by omega), hKF⟩

set_option maxRecDepth 100000 in
theorem flush_dead {F : Nat → Prop} {w : World} {p n : Nat} {st : DSt} (h : Hid (DrvAt F w p n st)) (hd : st.dead = true) :
    Calls Tryz.prog 74 #[.pointer (some ⟨p, 0, none⟩)] w fun e w' => e = .returned (.int .i64 90) ∧ Below w.heap.size w w' := by
  obtain ⟨sb, sc, rb, rc, A, cc, mb, H⟩ := h.out.box
  rw [hd] at H
  go_enter Tryz.func74, Tryz.ntmps74
  go_wp2_with fail
  refine (dnone_any H).mono ?_
  rintro e w1 ⟨rfl, h1⟩
  obtain ⟨k0, k1, k2, k3, k4⟩ := drv_cells (H.out.below h1)
  go_wp2_with fail
  go_ret
  exact ⟨rfl, h1⟩

/-- What a crash keeps. -/
def keepOf (ks : List Bool) (k : Nat) : Bool := (ks[k]?).getD false
end
section

theorem madeCells_rep (v : Value) (s n : Nat) (hs : 0 < s) : madeCells (Array.replicate s v) n = Array.replicate n v := by
  apply Array.ext
  · simp [madeCells]
  · intro i h1 h2
    simp [madeCells, Nat.mod_lt _ hs]

def secZero : Value := .agg (Array.replicate 64 (.int .u8 0))
theorem secInfo0 : (Tryz.prog.info? 198).map (fun i => (i.zero, i.size, i.bytes)) = some (some secZero, 64, 64) := by kernel_rfl
theorem makeSec (k : Nat) (hk : k ≤ 600) (w : World) : (Instr.makeSlice 185 (.int .i64 (k : Int)) (.int .i64 (k : Int))).run Tryz.prog w = .ok (.slice (some ⟨w.heap.size, 0, none⟩) k k) (w.alloc (.cells (Array.replicate (k * 64) (.int .u8 0)) 198)) := by
  obtain ⟨i, hi, hz, hs, hb⟩ := info_parts secInfo0
  have h := run_make (P := Tryz.prog) w 185 198 i secZero (by kernel_rfl) hi hz .i64 .i64 k k (by omega) (by omega) (by rw [hb]; omega) (by omega)
  simp only [Int.toNat_natCast, hs] at h
  rw [h, show secZero.cells = Array.replicate 64 (.int .u8 0) from rfl, madeCells_rep _ _ _ (by omega)]
theorem boolInfo : (Tryz.prog.info? 4).map (fun i => (i.zero, i.size, i.bytes)) = some (some (.bool false), 1, 1) := by kernel_rfl
theorem makeBools (k : Nat) (hk : k ≤ 600) (w : World) : (Instr.makeSlice 118 (.int .i64 (k : Int)) (.int .i64 (k : Int))).run Tryz.prog w = .ok (.slice (some ⟨w.heap.size, 0, none⟩) k k) (w.alloc (.cells (Array.replicate k (.bool false)) 4)) := by
  obtain ⟨i, hi, hz, hs, hb⟩ := info_parts boolInfo
  have h := run_make (P := Tryz.prog) w 118 4 i (.bool false) (by kernel_rfl) hi hz .i64 .i64 k k (by omega) (by omega) (by rw [hb]; omega) (by omega)
  simp only [Int.toNat_natCast, hs, Nat.mul_one] at h
  rw [h, show (Value.bool false).cells = Array.replicate 1 (.bool false) from rfl, madeCells_rep _ _ _ (by omega)]

/-- A drive as new, at p. -/
def Fresh (w w' : World) (p k : Nat) : Prop := ∃ F', DrvAt F' w' p k (DSt.new k) ∧ (∀ b, F' b → b = p ∨ w.heap.size ≤ b) ∧ Keep (fun b => b = p) w w'

structure Three (w w' : World) (p : Nat) (cs : Array Value) (o1 o2 o3 : Obj) : Prop where
  h1 : w'.heap[w.heap.size]? = some o1
  h2 : w'.heap[w.heap.size + 1]? = some o2
  h3 : w'.heap[w.heap.size + 1 + 1]? = some o3
  box : BoxAt w' p cs
  keep : Keep (fun b => b = p) w w'
  size : w'.heap.size = w.heap.size + 1 + 1 + 1

theorem three_of {w : World} {p : Nat} {v0 v1 v2 v3 v4 : Value} (h : BoxAt w p #[v0, v1, v2, v3, v4]) (a0 a1 a2 a3 a4 : Value) (o1 o2 o3 : Obj) :
    Three w ((((((((w.setCell ⟨p, 0, none⟩ a0).setCell ⟨p, 1, none⟩ a1).setCell ⟨p, 2, none⟩ a2).setCell ⟨p, 3, none⟩ a3).setCell ⟨p, 4, none⟩ a4).alloc o1).alloc o2).alloc o3).drew p #[a0, a1, a2, a3, a4] o1 o2 o3 := by
  obtain ⟨W, hW⟩ : ∃ W, ((((w.setCell ⟨p, 0, none⟩ a0).setCell ⟨p, 1, none⟩ a1).setCell ⟨p, 2, none⟩ a2).setCell ⟨p, 3, none⟩ a3).setCell ⟨p, 4, none⟩ a4 = W := ⟨_, rfl⟩
  have hb : BoxAt W p #[a0, a1, a2, a3, a4] := by rw [← hW]; exact ((((h.set 0 a0).set 1 a1).set 2 a2).set 3 a3).set 4 a4
  have hk : Keep (fun b => b = p) w W := by rw [← hW]; exact (((((Keep.refl (fun b => b = p) w).setCell (p := ⟨p, 0, none⟩) (fun _ => rfl) a0).setCell (p := ⟨p, 1, none⟩) (fun _ => rfl) a1).setCell (p := ⟨p, 2, none⟩) (fun _ => rfl) a2).setCell (p := ⟨p, 3, none⟩) (fun _ => rfl) a3).setCell (p := ⟨p, 4, none⟩) (fun _ => rfl) a4
  have hs : W.heap.size = w.heap.size := by rw [← hW]; simp
  rw [hW]
  have e1 : (W.alloc o1).heap.size = W.heap.size + 1 := by simp
  have e2 : ((W.alloc o1).alloc o2).heap.size = W.heap.size + 1 + 1 := by simp
  have n1 := heap_alloc_new W o1
  have n2 := heap_alloc_new (W.alloc o1) o2
  have n3 := heap_alloc_new ((W.alloc o1).alloc o2) o3
  rw [e1] at n2; rw [e2] at n3
  rw [hs] at n1 n2 n3
  refine ⟨?_, ?_, n3, ((hb.alloc o1).alloc o2).alloc o3, (((hk.alloc o1).alloc o2).alloc o3).trans (G := fun _ => False) ⟨rfl, rfl, rfl, Nat.le_refl _, fun _ _ _ => rfl⟩ (fun _ h => h.elim), by simp [hs]⟩
  · exact (Below.heap_alloc _ _ _ (by simp [hs]; omega)).trans ((Below.heap_alloc _ _ _ (by simp [hs])).trans n1)
  · exact (Below.heap_alloc _ _ _ (by simp [hs])).trans n2

theorem zeros_flat (k : Nat) : ((List.replicate k (List.replicate 64 (0 : Int))).map secCells).flatten = List.replicate (k * 64) (.int .u8 0) := by
  rw [List.map_replicate, show secCells (List.replicate 64 (0 : Int)) = List.replicate 64 (.int .u8 0) by simp [secCells, List.map_replicate, -List.reduceReplicate], List.flatten_replicate_replicate]
theorem fresh_of {w w' : World} {p k sb rb mb : Nat} (hk1 : 1 ≤ k) (hk : k ≤ 600) (hp : p < w.heap.size) (b1 : w.heap.size ≤ sb) (b2 : w.heap.size ≤ rb) (b3 : w.heap.size ≤ mb) (n1 : sb ≠ rb) (n2 : sb ≠ mb) (n3 : rb ≠ mb)
    (hb : BoxAt w' p #[.slice (some ⟨sb, 0, none⟩) k k, .slice (some ⟨rb, 0, none⟩) k k, .slice none 0 0, .map (some mb), .bool false])
    (hs : w'.heap[sb]? = some (.cells (Array.replicate (k * 64) (.int .u8 0)) 198)) (hr : w'.heap[rb]? = some (.cells (Array.replicate k (.bool false)) 4)) (hm : w'.heap[mb]? = some (.map #[] 0))
    (hK : Keep (fun b => b = p) w w') : Fresh w w' p k := by
  have lt : ∀ {b : Nat} {o : Obj}, w'.heap[b]? = some o → b < w'.heap.size := fun h => (Array.getElem?_eq_some_iff.1 h).1
  have z := zeros_flat k
  refine ⟨fun b => b = p ∨ b = sb ∨ b = rb ∨ b = mb, ⟨sb, k, rb, k, none, 0, mb, ⟨DSt.ok.new k, hk1, hk, hb, ?_, ?_, World.ownsRow_nil _ _ _ _, ?_, by omega, by omega, by omega, n1, n2, n3, by simp [Value.ownBlock], by simp [Value.ownBlock], by simp [Value.ownBlock], by simp [Value.ownBlock]⟩, .inl rfl, .inr (.inl rfl), .inr (.inr (.inl rfl)), .inr (.inr (.inr rfl)), by simp [Value.ownBlock], ?_⟩, ?_, hK⟩
  · show w'.ownsRow 0 _ 64 _ k ((List.replicate k (List.replicate 64 (0 : Int))).map secCells).flatten
    rw [z]
    refine ⟨by simp, .inr ⟨sb, k, _, rfl, Nat.zero_le _, hs, Nat.le_refl _, by unfold maxLen; omega, by simp, by simp⟩⟩
  · refine ⟨by simp [DSt.new], .inr ⟨rb, k, _, rfl, Nat.zero_le _, hr, Nat.le_refl _, by unfold maxLen; omega, by simp, ?_⟩⟩
    simp [DSt.new]
  · exact ⟨[], ⟨by simp, #[], 0, hm, by simp, by simp, by simp⟩, fun k => rfl⟩
  · rintro b (rfl | rfl | rfl | rfl)
    · exact hb.lt
    · exact lt hs
    · exact lt hr
    · exact lt hm
  · rintro b (rfl | rfl | rfl | rfl)
    · exact .inl rfl
    · exact .inr b1
    · exact .inr b2
    · exact .inr b3
section
variable {w : World} {p k : Nat} {v0 v1 v2 v3 v4 : Value} (h : BoxAt w p #[v0, v1, v2, v3, v4]) (hk1 : 1 ≤ k) (hk : k ≤ 600)
include h hk1 hk
theorem fresh_srm : Fresh w ((((((((w.setCell ⟨p, 0, none⟩ (.slice (some ⟨w.heap.size, 0, none⟩) k k)).setCell ⟨p, 1, none⟩ (.slice (some ⟨(w.heap.size + 1), 0, none⟩) k k)).setCell ⟨p, 2, none⟩ (.slice none 0 0)).setCell ⟨p, 3, none⟩ (.map (some (w.heap.size + 1 + 1)))).setCell ⟨p, 4, none⟩ (.bool false)).alloc (Obj.cells (Array.replicate (k * 64) (.int .u8 0)) 198)).alloc (Obj.cells (Array.replicate k (.bool false)) 4)).alloc (Obj.map #[] 0)).drew p k := by
  have T := three_of h (.slice (some ⟨w.heap.size, 0, none⟩) k k) (.slice (some ⟨(w.heap.size + 1), 0, none⟩) k k) (.slice none 0 0) (.map (some (w.heap.size + 1 + 1))) (.bool false) (Obj.cells (Array.replicate (k * 64) (.int .u8 0)) 198) (Obj.cells (Array.replicate k (.bool false)) 4) (Obj.map #[] 0)
  have hp := h.lt
  exact fresh_of hk1 hk hp (by omega) (by omega) (by omega) (by omega) (by omega) (by omega) T.box T.h1 T.h2 T.h3 T.keep
theorem fresh_smr : Fresh w ((((((((w.setCell ⟨p, 0, none⟩ (.slice (some ⟨w.heap.size, 0, none⟩) k k)).setCell ⟨p, 1, none⟩ (.slice (some ⟨(w.heap.size + 1 + 1), 0, none⟩) k k)).setCell ⟨p, 2, none⟩ (.slice none 0 0)).setCell ⟨p, 3, none⟩ (.map (some (w.heap.size + 1)))).setCell ⟨p, 4, none⟩ (.bool false)).alloc (Obj.cells (Array.replicate (k * 64) (.int .u8 0)) 198)).alloc (Obj.map #[] 0)).alloc (Obj.cells (Array.replicate k (.bool false)) 4)).drew p k := by
  have T := three_of h (.slice (some ⟨w.heap.size, 0, none⟩) k k) (.slice (some ⟨(w.heap.size + 1 + 1), 0, none⟩) k k) (.slice none 0 0) (.map (some (w.heap.size + 1))) (.bool false) (Obj.cells (Array.replicate (k * 64) (.int .u8 0)) 198) (Obj.map #[] 0) (Obj.cells (Array.replicate k (.bool false)) 4)
  have hp := h.lt
  exact fresh_of hk1 hk hp (by omega) (by omega) (by omega) (by omega) (by omega) (by omega) T.box T.h1 T.h3 T.h2 T.keep
theorem fresh_rsm : Fresh w ((((((((w.setCell ⟨p, 0, none⟩ (.slice (some ⟨(w.heap.size + 1), 0, none⟩) k k)).setCell ⟨p, 1, none⟩ (.slice (some ⟨w.heap.size, 0, none⟩) k k)).setCell ⟨p, 2, none⟩ (.slice none 0 0)).setCell ⟨p, 3, none⟩ (.map (some (w.heap.size + 1 + 1)))).setCell ⟨p, 4, none⟩ (.bool false)).alloc (Obj.cells (Array.replicate k (.bool false)) 4)).alloc (Obj.cells (Array.replicate (k * 64) (.int .u8 0)) 198)).alloc (Obj.map #[] 0)).drew p k := by
  have T := three_of h (.slice (some ⟨(w.heap.size + 1), 0, none⟩) k k) (.slice (some ⟨w.heap.size, 0, none⟩) k k) (.slice none 0 0) (.map (some (w.heap.size + 1 + 1))) (.bool false) (Obj.cells (Array.replicate k (.bool false)) 4) (Obj.cells (Array.replicate (k * 64) (.int .u8 0)) 198) (Obj.map #[] 0)
  have hp := h.lt
  exact fresh_of hk1 hk hp (by omega) (by omega) (by omega) (by omega) (by omega) (by omega) T.box T.h2 T.h1 T.h3 T.keep
theorem fresh_rms : Fresh w ((((((((w.setCell ⟨p, 0, none⟩ (.slice (some ⟨(w.heap.size + 1 + 1), 0, none⟩) k k)).setCell ⟨p, 1, none⟩ (.slice (some ⟨w.heap.size, 0, none⟩) k k)).setCell ⟨p, 2, none⟩ (.slice none 0 0)).setCell ⟨p, 3, none⟩ (.map (some (w.heap.size + 1)))).setCell ⟨p, 4, none⟩ (.bool false)).alloc (Obj.cells (Array.replicate k (.bool false)) 4)).alloc (Obj.map #[] 0)).alloc (Obj.cells (Array.replicate (k * 64) (.int .u8 0)) 198)).drew p k := by
  have T := three_of h (.slice (some ⟨(w.heap.size + 1 + 1), 0, none⟩) k k) (.slice (some ⟨w.heap.size, 0, none⟩) k k) (.slice none 0 0) (.map (some (w.heap.size + 1))) (.bool false) (Obj.cells (Array.replicate k (.bool false)) 4) (Obj.map #[] 0) (Obj.cells (Array.replicate (k * 64) (.int .u8 0)) 198)
  have hp := h.lt
  exact fresh_of hk1 hk hp (by omega) (by omega) (by omega) (by omega) (by omega) (by omega) T.box T.h3 T.h1 T.h2 T.keep
theorem fresh_msr : Fresh w ((((((((w.setCell ⟨p, 0, none⟩ (.slice (some ⟨(w.heap.size + 1), 0, none⟩) k k)).setCell ⟨p, 1, none⟩ (.slice (some ⟨(w.heap.size + 1 + 1), 0, none⟩) k k)).setCell ⟨p, 2, none⟩ (.slice none 0 0)).setCell ⟨p, 3, none⟩ (.map (some w.heap.size))).setCell ⟨p, 4, none⟩ (.bool false)).alloc (Obj.map #[] 0)).alloc (Obj.cells (Array.replicate (k * 64) (.int .u8 0)) 198)).alloc (Obj.cells (Array.replicate k (.bool false)) 4)).drew p k := by
  have T := three_of h (.slice (some ⟨(w.heap.size + 1), 0, none⟩) k k) (.slice (some ⟨(w.heap.size + 1 + 1), 0, none⟩) k k) (.slice none 0 0) (.map (some w.heap.size)) (.bool false) (Obj.map #[] 0) (Obj.cells (Array.replicate (k * 64) (.int .u8 0)) 198) (Obj.cells (Array.replicate k (.bool false)) 4)
  have hp := h.lt
  exact fresh_of hk1 hk hp (by omega) (by omega) (by omega) (by omega) (by omega) (by omega) T.box T.h2 T.h3 T.h1 T.keep
theorem fresh_mrs : Fresh w ((((((((w.setCell ⟨p, 0, none⟩ (.slice (some ⟨(w.heap.size + 1 + 1), 0, none⟩) k k)).setCell ⟨p, 1, none⟩ (.slice (some ⟨(w.heap.size + 1), 0, none⟩) k k)).setCell ⟨p, 2, none⟩ (.slice none 0 0)).setCell ⟨p, 3, none⟩ (.map (some w.heap.size))).setCell ⟨p, 4, none⟩ (.bool false)).alloc (Obj.map #[] 0)).alloc (Obj.cells (Array.replicate k (.bool false)) 4)).alloc (Obj.cells (Array.replicate (k * 64) (.int .u8 0)) 198)).drew p k := by
  have T := three_of h (.slice (some ⟨(w.heap.size + 1 + 1), 0, none⟩) k k) (.slice (some ⟨(w.heap.size + 1), 0, none⟩) k k) (.slice none 0 0) (.map (some w.heap.size)) (.bool false) (Obj.map #[] 0) (Obj.cells (Array.replicate k (.bool false)) 4) (Obj.cells (Array.replicate (k * 64) (.int .u8 0)) 198)
  have hp := h.lt
  exact fresh_of hk1 hk hp (by omega) (by omega) (by omega) (by omega) (by omega) (by omega) T.box T.h3 T.h2 T.h1 T.keep
end

set_option maxRecDepth 100000 in
set_option maxHeartbeats 4000000 in
theorem empty_any (p k : Nat) (hk1 : 1 ≤ k) (hk : k ≤ 600) (w : World) (v0 v1 v2 v3 v4 : Value) (h : Hid (BoxAt w p #[v0, v1, v2, v3, v4])) :
    Calls Tryz.prog 124 #[.pointer (some ⟨p, 0, none⟩), .int .i64 k] w fun e w' => e = .returned (.tuple #[]) ∧ Fresh w w' p k := by
  have m1 := makeSec k hk
  have m2 := makeBools k hk
  have m3 := @run_makeMap Tryz.prog
  have q0 : w.cell? ⟨p, 0, none⟩ = some v0 := h.out.cell 0
  have q1 : w.cell? ⟨p, 1, none⟩ = some v1 := h.out.cell 1
  have q2 : w.cell? ⟨p, 2, none⟩ = some v2 := h.out.cell 2
  have q3 : w.cell? ⟨p, 3, none⟩ = some v3 := h.out.cell 3
  have q4 : w.cell? ⟨p, 4, none⟩ = some v4 := h.out.cell 4
  have z0 := h.out.frozen 0; have z1 := h.out.frozen 1; have z2 := h.out.frozen 2; have z3 := h.out.frozen 3; have z4 := h.out.frozen 4
  have hp := h.out.lt
  have hp0 : ¬ p = w.heap.size := by omega
  have hp1 : ¬ p = w.heap.size + 1 := by omega
  have hp2 : ¬ p = w.heap.size + 1 + 1 := by omega
  have hp3 : ¬ p = w.heap.size + 2 := by omega
  have hq0 : p < w.heap.size + 1 := by omega
  have hq1 : p < w.heap.size + 1 + 1 := by omega
  go_enter Tryz.func124, Tryz.ntmps124
  go_region
  all_goals go_wp2_with fail

  all_goals go_end0
  · exact ⟨rfl, fresh_srm h.out hk1 hk⟩
  · exact ⟨rfl, fresh_smr h.out hk1 hk⟩
  · exact ⟨rfl, fresh_rsm h.out hk1 hk⟩
  · exact ⟨rfl, fresh_rms h.out hk1 hk⟩
  · exact ⟨rfl, fresh_msr h.out hk1 hk⟩
  · exact ⟨rfl, fresh_mrs h.out hk1 hk⟩
end
section

set_option maxRecDepth 100000 in
theorem new_good (n : Nat) (h1 : 1 ≤ n) (h2 : n ≤ 600) (w : World) :
    Calls Tryz.prog 132 #[.int .i64 n] w fun e w' => ∃ p F, e = .returned (.pointer (some ⟨p, 0, none⟩)) ∧ DrvAt F w' p n (DSt.new n) ∧ (∀ b, F b → w.heap.size ≤ b) ∧ Below w.heap.size w w' := by
  go_enter Tryz.func132, Tryz.ntmps132
  go_wp2_with fail
  have hb := BoxAt.new w #[.slice none 0 0, .slice none 0 0, .slice none 0 0, .map none, .bool false] 189
  refine (empty_any w.heap.size n h1 h2 _ _ _ _ _ _ (Lib.hid hb)).mono ?_
  rintro e w1 ⟨rfl, F', hD, hF, hK⟩
  have hb1 : Below w.heap.size w w1 := ((Below.refl w.heap.size w).alloc (Nat.le_refl _) _).trans (hK.below (B := w.heap.size) (by simp) (by rintro k rfl; exact Nat.le_refl _))
  have hF2 : ∀ b, F' b → w.heap.size ≤ b := fun b h => by
    rcases hF b h with h | h
    · omega
    · simp at h; omega
  clear hK hb hF
  go_wp2_with fail
  go_ret
  exact ⟨_, F', rfl, hD, hF2, hb1⟩

theorem fresh_upd {F : Nat → Prop} {w w' : World} {p n : Nat} (hp : F p) (h : Fresh w w' p n) : Upd F w w' p n (DSt.new n) := by
  obtain ⟨F', hD, hF, hK⟩ := h
  exact ⟨F', hD, fun k hk hlt => by rcases hF k hk with h | h; exact h ▸ hp; omega, hK.mono (fun k h _ => h ▸ hp)⟩
theorem DrvAt.at_ {F : Nat → Prop} {w : World} {p n : Nat} {st : DSt} (h : DrvAt F w p n st) : F p ∧ 1 ≤ n ∧ n ≤ 600 := by
  obtain ⟨sb, sc, rb, rc, A, cc, mb, hB, f1, _⟩ := h
  exact ⟨f1, hB.n1, hB.n600⟩
theorem Upd.trans {F : Nat → Prop} {w w1 w2 : World} {p n : Nat} {st : DSt} (hK : Keep F w w1) (h : Upd F w1 w2 p n st) : Upd F w w2 p n st := by
  obtain ⟨F', hD, hF, hK2⟩ := h
  exact ⟨F', hD, fun k hk hlt => hF k hk (Nat.lt_of_lt_of_le hlt hK.size), hK.trans hK2 (fun k h _ => h)⟩

set_option maxRecDepth 100000 in
theorem replace_any {F : Nat → Prop} {w : World} {p n : Nat} {st : DSt} (h : Hid (DrvAt F w p n st)) :
    Calls Tryz.prog 110 #[.pointer (some ⟨p, 0, none⟩)] w fun e w' => e = .returned (.tuple #[]) ∧ Upd F w w' p n (DSt.new n) := by
  obtain ⟨sb, sc, rb, rc, A, cc, mb, H⟩ := h.out.box
  obtain ⟨f1, n1, n2⟩ := h.out.at_
  go_enter Tryz.func110, Tryz.ntmps110
  go_wp2_with fail
  refine (dnone_any H).mono ?_
  rintro e w1 ⟨rfl, h1⟩
  have HB := Lib.hid (H.out.below h1)
  obtain ⟨k0, k1, k2, k3, k4⟩ := drv_cells HB.out
  have HK := Lib.hid (Keep.of_below (F := F) h1)
  clear H h h1
  go_wp2_with fail
  refine (empty_any p n n1 n2 _ _ _ _ _ _ HB).mono ?_
  rintro e w2 ⟨rfl, hf⟩
  have hu := Lib.hid (Upd.trans HK.out (fresh_upd f1 hf))
  clear hf HB HK k0 k1 k2 k3 k4
  go_wp2_with fail
  go_end0
  exact ⟨rfl, hu.out⟩

theorem DrvAt.setDead {F : Nat → Prop} {w : World} {p n : Nat} {st : DSt} (h : DrvAt F w p n st) (d : Bool) : DrvAt F (w.setCell ⟨p, 4, none⟩ (.bool d)) p n { st with dead := d } := by
  obtain ⟨sb, sc, rb, rc, A, cc, mb, hB, f1, f2, f3, f4, f5, lt⟩ := h
  have hs : ∀ k, k ≠ p → (w.setCell ⟨p, 4, none⟩ (.bool d)).heap[k]? = w.heap[k]? := fun k hk => Below.heap_setCell _ _ _ _ hk
  refine ⟨sb, sc, rb, rc, A, cc, mb, ⟨⟨hB.ok.sl, hB.ok.rl, hB.ok.s64, hB.ok.c64, hB.ok.cat⟩, hB.n1, hB.n600, hB.box.set 4 _, ownsRow_keep hB.so (by rintro k ⟨⟩; exact hs sb (fun e => hB.ps e.symm)), ownsRow_keep hB.ro (by rintro k ⟨⟩; exact hs rb (fun e => hB.pr e.symm)), ownsRow_keep hB.co (fun k hk => hs k (fun e => hB.pc (e ▸ hk))), ?_, hB.ps, hB.pr, hB.pm, hB.sr, hB.sm, hB.rm, hB.pc, hB.sc, hB.rc, hB.mc⟩, f1, f2, f3, f4, f5, fun k hk => by simpa using lt k hk⟩
  obtain ⟨es, h1, h2⟩ := hB.ma
  exact ⟨es, h1.keep (hs mb (fun e => hB.pm e.symm)), h2⟩
def DSt.gone (n : Nat) : DSt := { DSt.new n with dead := true }

set_option maxRecDepth 100000 in
theorem fail_any {F : Nat → Prop} {w : World} {p n : Nat} {st : DSt} (h : Hid (DrvAt F w p n st)) :
    Calls Tryz.prog 60 #[.pointer (some ⟨p, 0, none⟩)] w fun e w' => e = .returned (.tuple #[]) ∧ Upd F w w' p n (DSt.gone n) := by
  obtain ⟨sb, sc, rb, rc, A, cc, mb, H⟩ := h.out.box
  obtain ⟨f1, n1, n2⟩ := h.out.at_
  go_enter Tryz.func60, Tryz.ntmps60
  go_wp2_with fail
  refine (dnone_any H).mono ?_
  rintro e w1 ⟨rfl, h1⟩
  have HB := Lib.hid (H.out.below h1)
  obtain ⟨k0, k1, k2, k3, k4⟩ := drv_cells HB.out
  have HK := Lib.hid (Keep.of_below (F := F) h1)
  clear H h h1
  go_wp2_with fail
  refine (empty_any p n n1 n2 _ _ _ _ _ _ HB).mono ?_
  rintro e w2 ⟨rfl, hf⟩
  obtain ⟨F', hD, hF, hK⟩ := Upd.trans HK.out (fresh_upd f1 hf)
  obtain ⟨sb2, sc2, rb2, rc2, A2, cc2, mb2, H2⟩ := hD.box
  have q4 := (drv_cells H2.out).2.2.2.2
  have z4 := H2.out.frozen 4
  have HD := Lib.hid hD
  have HK2 := Lib.hid hK
  clear hf HB HK k0 k1 k2 k3 k4 H2 hK hD
  go_wp2_with fail
  go_end0
  exact ⟨rfl, F', HD.out.setDead true, hF, HK2.out.setCell (fun _ => f1) _⟩
end
section

/-- One byte's rot. -/
def rotV (v mask : Int) (i : Nat) : Int := bits BinOp.xor IntKind.u8 v (IntKind.u8.wrap (mask / 2 ^ (8 * (i : Int)).toNat))
def rotTo (x : List Int) (off : Nat) (mask : Int) : Nat → List Int
  | 0 => x
  | i + 1 => (rotTo x off mask i).set (off + i) (rotV (((rotTo x off mask i)[off + i]?).getD 0) mask i)
theorem rotTo_len (x : List Int) (off : Nat) (mask : Int) : ∀ i, (rotTo x off mask i).length = x.length
  | 0 => rfl
  | i + 1 => by rw [rotTo, List.length_set, rotTo_len x off mask i]
def DSt.rotAt (st : DSt) (a off : Nat) (mask : Int) (i : Nat) : DSt := { st with stored := st.stored.set a (rotTo ((st.stored[a]?).getD []) off mask i) }
def DSt.rot (st : DSt) (a off : Nat) (mask : Int) : DSt := { st.rotAt a off mask 4 with rotten := st.rotten.set a true }
theorem rotAt_zero (st : DSt) (a off : Nat) (mask : Int) : st.rotAt a off mask 0 = st := by
  simp only [DSt.rotAt, rotTo]
  by_cases h : a < st.stored.length
  · rw [List.getElem?_eq_getElem h]; simp
  · rw [List.set_eq_of_length_le (by omega)]
theorem flatten_setOne {α : Type} {s : Nat} : ∀ (css : List (List α)) (_ : ∀ cs ∈ css, cs.length = s) (i : Nat) (cs : List α) (j : Nat) (u : α), css[i]? = some cs → j < s → css.flatten.set (i * s + j) u = (css.set i (cs.set j u)).flatten
  | [], _, i, cs, j, u, h, _ => by simp at h
  | c :: css, hl, 0, cs, j, u, h, hj => by
    have h1 : c.length = s := hl c (by simp)
    simp only [List.getElem?_cons_zero, Option.some.injEq] at h
    subst h
    rw [List.flatten_cons, Nat.zero_mul, Nat.zero_add, List.set_append_left _ _ (by omega)]; rfl
  | c :: css, hl, i + 1, cs, j, u, h, hj => by
    have h1 : c.length = s := hl c (by simp)
    have ih := flatten_setOne css (fun x hx => hl x (List.mem_cons_of_mem _ hx)) i cs j u (by simpa using h) hj
    have e : (i + 1) * s + j - c.length = i * s + j := by rw [Nat.add_mul]; omega
    rw [List.flatten_cons, List.set_append_right _ _ (by rw [Nat.add_mul]; omega), e, ih]; rfl
/-- One byte of a sector is set. -/
theorem DrvB.byte {w w' : World} {p n sb sc rb rc : Nat} {A : Option Addr} {cc mb : Nat} {st : DSt} (h : DrvB w p n sb sc rb rc A cc mb st) {a j : Nat} {x : List Int} {v : Int} (ha : a < n) (hx : st.stored[a]? = some x) (hj : j < 64)
    (hw : w' = (w.setCell ⟨sb, a * 64 + j, none⟩ (.int .u8 v)).drew) : DrvB w' p n sb sc rb rc A cc mb { st with stored := st.stored.set a (x.set j v) } := by
  have hok := h.ok
  have hl : x.length = 64 := hok.s64 x (List.mem_of_getElem? hx)
  have hc64 : ∀ cs ∈ st.stored.map secCells, cs.length = 64 := fun cs hcs => by obtain ⟨y, hy, rfl⟩ := List.mem_map.1 hcs; simp [secCells, hok.s64 y hy]
  have o1 := (h.so.stored (a * 64 + j) (.int .u8 v)).1
  rw [flatten_setOne _ hc64 a (secCells x) j _ (by simp [hx]) hj] at o1
  have e1 : (secCells x).set j (.int .u8 v) = secCells (x.set j v) := by simp [secCells, List.map_set]
  rw [e1] at o1
  have hr : st.rotten.set a ((st.rotten[a]?).getD false) = st.rotten := by
    rw [List.getElem?_eq_getElem (by rw [hok.rl]; exact ha)]; simp
  have hr2 : (st.rotten.map Value.bool).set a (.bool ((st.rotten[a]?).getD false)) = st.rotten.map Value.bool := by rw [← List.map_set, hr]
  have := h.put (w' := w') (s := x.set j v) (r := (st.rotten[a]?).getD false) ha (by simp [hl]) (fun k h1 h2 => by rw [hw]; exact Below.heap_setCell _ _ _ _ h1) (by rw [hw]; exact o1) (by
    rw [hr2, hw]; exact ownsRow_keep h.ro (by rintro k ⟨⟩; exact Below.heap_setCell _ _ _ _ (fun e => h.sr e.symm)))
  rw [hr] at this
  exact this
theorem DrvB.mark {w : World} {p n sb sc rb rc : Nat} {A : Option Addr} {cc mb : Nat} {st : DSt} (h : DrvB w p n sb sc rb rc A cc mb st) {a : Nat} (ha : a < n) (r : Bool) : DrvB (w.setCell ⟨rb, a, none⟩ (.bool r)) p n sb sc rb rc A cc mb { st with rotten := st.rotten.set a r } := by
  have hok := h.ok
  have hal : a < st.stored.length := by rw [hok.sl]; exact ha
  have hs : st.stored.set a st.stored[a] = st.stored := by simp
  have hs2 : (st.stored.map secCells).set a (secCells st.stored[a]) = st.stored.map secCells := by rw [← List.map_set, hs]
  have := h.put (w' := w.setCell ⟨rb, a, none⟩ (.bool r)) (s := st.stored[a]) (r := r) ha (hok.s64 _ (List.getElem_mem _)) (fun k h1 h2 => Below.heap_setCell _ _ _ _ h2) (by
    rw [hs2]; exact ownsRow_keep h.so (by rintro k ⟨⟩; exact Below.heap_setCell _ _ _ _ h.sr)) ((h.ro.stored a (.bool r)).1)
  rw [hs] at this
  exact this

set_option maxRecDepth 100000 in
set_option maxHeartbeats 4000000 in
theorem rot_good {F : Nat → Prop} {w : World} {p n : Nat} {st : DSt} (h : Hid (DrvAt F w p n st)) (hd : st.dead = false) (a : Nat) (ha : a < n) (off : Nat) (hoff : off ≤ 60) (mask : Int) (hm : ¬ mask = 0) (hr : st.rotten[a]? = some false) :
    Calls Tryz.prog 78 #[.pointer (some ⟨p, 0, none⟩), .int .i64 a, .int .i64 off, .int .u32 mask] w fun e w' => e = .returned (.int .i64 0) ∧ Upd F w w' p n (st.rot a off mask) := by
  obtain ⟨sb, sc, rb, rc, A, cc, mb, H⟩ := h.out.box
  rw [hd] at H
  go_enter Tryz.func78, Tryz.ntmps78
  go_wp2_with fail
  refine (dready_any a H).mono ?_
  rintro e w1 ⟨rfl, h1⟩
  have e1 : readyE false n a = 0 := by simp [readyE, ha]
  rw [e1]
  clear e1 H
  have D := Lib.hid (h.out.below h1)
  have U := Lib.hid (Keep.of_below (F := F) h1)
  have s1 := h1.size
  clear h h1
  obtain ⟨sb, sc, rb, rc, A, cc, mb, hB, f1, f2, f3, f4, f5, lt⟩ := D.out
  obtain ⟨k0, k1, k2, k3, k4⟩ := drv_cells hB.box
  have r0 : w1.cell? ⟨rb, a, none⟩ = some (.bool false) := by rw [hB.ro.cellAt a (by omega)]; simp [hr]
  have hk0 : (0 : Int) ≤ (a : Int) := Int.natCast_nonneg _
  have hk1 : (a : Int) < (n : Int) := by omega
  have ho0 : (0 : Int) ≤ (off : Int) := Int.natCast_nonneg _
  have ho1 : ¬ (off : Int) < 0 := by omega
  have ho2 : ¬ (60 : Int) < (off : Int) := by omega
  have ho3 : (off : Int) ≤ 60 := by omega
  have hmb : (mask == 0) = false := by simpa using hm
  have HB := Lib.hid hB
  clear hB
  go_wp2_with fail
  clear k0 k1 k2 k3 k4 r0
  go_loopw [36] (fun vi wr => ∃ i : Nat, i ≤ 4 ∧ vi = .int .i64 i ∧ Hid (DrvB wr p n sb sc rb rc A cc mb (st.rotAt a off mask i)) ∧ Hid (Keep F w1 wr)) (fun vi _ => 4 - (intOf vi).toNat)
  case atStart => exact ⟨0, by omega, rfl, by rw [rotAt_zero]; exact HB, Lib.hid (Keep.refl _ _)⟩
  case round =>
    obtain ⟨i, hi, rfl, hD, hK⟩ := hrel
    by_cases hlt : i < 4
    · obtain ⟨k0, k1, k2, k3, k4⟩ := drv_cells hD.out.box
      have hal : a < st.stored.length := by rw [HB.out.ok.sl]; exact ha
      obtain ⟨y, hy⟩ : ∃ y, (st.rotAt a off mask i).stored[a]? = some y := ⟨_, List.getElem?_eq_getElem (by simpa [DSt.rotAt] using hal)⟩
      have hyr : y = rotTo ((st.stored[a]?).getD []) off mask i := by simpa [DSt.rotAt, hal] using hy.symm
      have hyl : y.length = 64 := hD.out.ok.s64 y (List.mem_of_getElem? hy)
      obtain ⟨v, hvy⟩ : ∃ v, y[off + i]? = some v := ⟨_, List.getElem?_eq_getElem (by omega)⟩
      have hv : wr.cell? ⟨sb, a * 64 + (off + i), none⟩ = some (.int .u8 v) := by
        have hc64 : ∀ cs ∈ (st.rotAt a off mask i).stored.map secCells, cs.length = 64 := fun cs hcs => by obtain ⟨u, hu, rfl⟩ := List.mem_map.1 hcs; simp [secCells, hD.out.ok.s64 u hu]
        exact ownsRow_range hD.out.so hc64 (i := a) (cs := secCells y) (by simp [hy]) (by simp [hD.out.ok.sl]) (off + i) _ (by simp [secCells, hvy])
      have HY := Lib.hid (And.intro hy (And.intro hyr hvy))
      clear hy hyr hvy hyl hal
      have hps : p ≠ sb := hD.out.ps
      have z1 : wr.frozen? ⟨sb, a * 64 + (off + i), none⟩ = false := hD.out.so.frozenAt _
      have hoi : IntKind.i64.wrap ((off : Int) + (i : Int)) = (off : Int) + (i : Int) := by rw [IntKind.wrap_i64]; omega
      have hoj : (0 : Int) ≤ (off : Int) + (i : Int) := by omega
      have hok : (off : Int) + (i : Int) < 64 := by omega
      have hot : ((off : Int) + (i : Int)).toNat = off + i := by omega
      have h8 : IntKind.i64.wrap (8 * (i : Int)) = ((8 * i : Nat) : Int) := by rw [IntKind.wrap_i64]; omega
      have h80 : (0 : Int) ≤ ((8 * i : Nat) : Int) := Int.natCast_nonneg _
      go_wp2_with fail
      refine wp_region_held_drew (S := (fun w' => w'.cell? ⟨p, 0, none⟩ = some (.slice (some ⟨sb, 0, none⟩) n sc))) (by kernel_rfl) (by first | exact k0 | (exact cell_setCell_ne (w := World.drew _) k0 hps)) (fun hHeld => ?_)
      refine wpAnyH_take (i := 0) (v := ?_) rfl (by kernel_rfl) (by kernel_rfl) (by kernel_rfl) (fun _ _ _ h => h) (Or.inl ⟨by rfl, ?_⟩) (by assumption) ?_
      rotate_left
      · (intro wq hSw; (try dsimp only at hSw); (try simp only [zz1, zz2, zz3]); go_simp); try with_reducible rfl
      try simp only [zz1, zz2, zz3, Act.put, zz4, zz5, zz6]
      refine wpAnyH_take (i := 1) (v := ?_) rfl (by kernel_rfl) (by kernel_rfl) (by kernel_rfl) (fun _ _ _ h => h) (Or.inl ⟨by rfl, ?_⟩) (by assumption) ?_
      rotate_left
      · (intro wq hSw; (try dsimp only at hSw); (try simp only [zz1, zz2, zz3]); go_simp); try with_reducible rfl
      try simp only [zz1, zz2, zz3, Act.put, zz4, zz5, zz6]
      refine wpAnyH_take (i := 2) (v := ?_) rfl (by kernel_rfl) (by kernel_rfl) (by kernel_rfl) (fun _ _ _ h => h) (Or.inl ⟨by rfl, ?_⟩) (by assumption) ?_
      rotate_left
      · (intro wq hSw; (try dsimp only at hSw); (try simp only [zz1, zz2, zz3]); go_simp); try with_reducible rfl
      try simp only [zz1, zz2, zz3, Act.put, zz4, zz5, zz6]
      refine wpAnyH_take (i := 3) (v := ?_) rfl (by kernel_rfl) (by kernel_rfl) (by kernel_rfl) (fun _ _ _ h => h) (Or.inl ⟨by rfl, ?_⟩) (by assumption) ?_
      rotate_left
      · (intro wq hSw; (try dsimp only at hSw); (try simp only [zz1, zz2, zz3]); go_simp); try with_reducible rfl
      try simp only [zz1, zz2, zz3, Act.put, zz4, zz5, zz6]
      refine wpAnyH_take (i := 4) (v := ?_) rfl (by kernel_rfl) (by kernel_rfl) (by kernel_rfl) (fun _ _ _ h => h) (Or.inl ⟨by rfl, ?_⟩) (by assumption) ?_
      rotate_left
      · (intro wq hSw; (try dsimp only at hSw); (try simp only [zz1, zz2, zz3]); go_simp); try with_reducible rfl
      try simp only [zz1, zz2, zz3, Act.put, zz4, zz5, zz6]
      refine wpAnyH_take (i := 5) (v := ?_) rfl (by kernel_rfl) (by kernel_rfl) (by kernel_rfl) (fun _ _ _ h => h) (Or.inl ⟨by rfl, ?_⟩) (by assumption) ?_
      rotate_left
      · (intro wq hSw; (try dsimp only at hSw); (try simp only [zz1, zz2, zz3]); go_simp); try with_reducible rfl
      try simp only [zz1, zz2, zz3, Act.put, zz4, zz5, zz6]
      refine wpAnyH_take (i := 6) (v := ?_) rfl (by kernel_rfl) (by kernel_rfl) (by kernel_rfl) (fun _ _ _ h => h) (Or.inl ⟨by rfl, ?_⟩) (by assumption) ?_
      rotate_left
      · (intro wq hSw; (try dsimp only at hSw); (try simp only [zz1, zz2, zz3]); go_simp); try with_reducible rfl
      try simp only [zz1, zz2, zz3, Act.put, zz4, zz5, zz6]
      refine wpAnyH_take (i := 7) (v := ?_) rfl (by kernel_rfl) (by kernel_rfl) (by kernel_rfl) (fun _ _ _ h => h) (Or.inl ⟨by rfl, ?_⟩) (by assumption) ?_
      rotate_left
      · (intro wq hSw; (try dsimp only at hSw); (try simp only [zz1, zz2, zz3]); go_simp); try with_reducible rfl
      try simp only [zz1, zz2, zz3, Act.put, zz4, zz5, zz6]
      refine wpAnyH_take (i := 8) (v := ?_) rfl (by kernel_rfl) (by kernel_rfl) (by kernel_rfl) (fun _ _ _ h => h) (Or.inl ⟨by rfl, ?_⟩) (by assumption) ?_
      rotate_left
      · (intro wq hSw; (try dsimp only at hSw); (try simp only [zz1, zz2, zz3]); go_simp); try with_reducible rfl
      try simp only [zz1, zz2, zz3, Act.put, zz4, zz5, zz6]
      refine wpAnyH_take (i := 11) (v := ?_) rfl (by kernel_rfl) (by kernel_rfl) (by kernel_rfl) (fun _ _ _ h => h) (Or.inl ⟨by rfl, ?_⟩) (by assumption) ?_
      rotate_left
      · (intro wq hSw; (try dsimp only at hSw); (try simp only [zz1, zz2, zz3]); go_simp); try with_reducible rfl
      try simp only [zz1, zz2, zz3, Act.put, zz4, zz5, zz6]
      refine wpAnyH_take (i := 12) (v := ?_) rfl (by kernel_rfl) (by kernel_rfl) (by kernel_rfl) (fun _ _ _ h => h) (Or.inl ⟨by rfl, ?_⟩) (by assumption) ?_
      rotate_left
      · (intro wq hSw; (try dsimp only at hSw); (try simp only [zz1, zz2, zz3]); go_simp); try with_reducible rfl
      try simp only [zz1, zz2, zz3, Act.put, zz4, zz5, zz6]
      refine wpAnyH_take (i := 13) (v := ?_) rfl (by kernel_rfl) (by kernel_rfl) (by kernel_rfl) (fun _ _ _ h => h) (Or.inl ⟨by rfl, ?_⟩) (by assumption) ?_
      rotate_left
      · (intro wq hSw; (try dsimp only at hSw); (try simp only [zz1, zz2, zz3]); go_simp); try with_reducible rfl
      try simp only [zz1, zz2, zz3, Act.put, zz4, zz5, zz6]
      refine wpAnyH_take (i := 14) (v := ?_) rfl (by kernel_rfl) (by kernel_rfl) (by kernel_rfl) (fun _ _ _ h => h) (Or.inl ⟨by rfl, ?_⟩) (by assumption) ?_
      rotate_left
      · (intro wq hSw; (try dsimp only at hSw); (try simp only [zz1, zz2, zz3]); go_simp); try with_reducible rfl
      try simp only [zz1, zz2, zz3, Act.put, zz4, zz5, zz6]
      refine wpAnyH_take (i := 15) (v := ?_) rfl (by kernel_rfl) (by kernel_rfl) (by kernel_rfl) (fun _ _ _ h => h) (Or.inl ⟨by rfl, ?_⟩) (by assumption) ?_
      rotate_left
      · (intro wq hSw; (try dsimp only at hSw); (try simp only [zz1, zz2, zz3]); go_simp); try with_reducible rfl
      try simp only [zz1, zz2, zz3, Act.put, zz4, zz5, zz6]
      refine wpAnyH_take (i := 17) (v := ?_) rfl (by kernel_rfl) (by kernel_rfl) (by kernel_rfl) (fun _ _ _ h => h) (Or.inl ⟨by rfl, ?_⟩) (by assumption) ?_
      rotate_left
      · (intro wq hSw; (try dsimp only at hSw); (try simp only [zz1, zz2, zz3]); go_simp); try with_reducible rfl
      try simp only [zz1, zz2, zz3, Act.put, zz4, zz5, zz6]
      refine rdH 9 rfl fun K hK => ?_
      try simp only [zz1, zz2, zz3]
      go_simp
      refine hK.out _ _ (by first | exact k0 | (exact cell_setCell_ne (w := World.drew _) k0 hps)) (fun hHeld => ?_)
      clear hK K
      try simp only [zz1, zz2, zz3, Act.put, zz4, zz5, zz6]
      refine rdH 10 rfl fun K hK => ?_
      try simp only [zz1, zz2, zz3]
      go_simp
      refine hK.out _ _ (by first | exact k0 | (exact cell_setCell_ne (w := World.drew _) k0 hps)) (fun hHeld => ?_)
      clear hK K
      try simp only [zz1, zz2, zz3, Act.put, zz4, zz5, zz6]
      refine wpAnyH_take (i := 16) (v := ?_) rfl (by kernel_rfl) (by kernel_rfl) (by kernel_rfl) (fun _ _ _ h => h) (Or.inl ⟨by rfl, ?_⟩) (by assumption) ?_
      rotate_left
      · (intro wq hSw; (try dsimp only at hSw); (try simp only [zz1, zz2, zz3]); go_simp); try with_reducible rfl
      try simp only [zz1, zz2, zz3, Act.put, zz4, zz5, zz6]
      refine wpAnyH_take (i := 18) (v := ?_) rfl (by kernel_rfl) (by kernel_rfl) (by kernel_rfl) (fun _ _ _ h => h) (Or.inl ⟨by rfl, ?_⟩) (by assumption) ?_
      rotate_left
      · (intro wq hSw; (try dsimp only at hSw); (try simp only [zz1, zz2, zz3]); go_simp); try with_reducible rfl
      try simp only [zz1, zz2, zz3, Act.put, zz4, zz5, zz6]
      refine rdH 19 rfl fun K hK => ?_
      try simp only [zz1, zz2, zz3]
      go_simp
      refine hK.out _ _ (by first | exact k0 | (exact cell_setCell_ne (w := World.drew _) k0 hps)) (fun hHeld => ?_)
      clear hK K
      try simp only [zz1, zz2, zz3, Act.put, zz4, zz5, zz6]
      refine wpAnyH_done (by kernel_rfl) ?_ _
      go_wp2_with fail
      obtain ⟨hy, hyr, hvy⟩ := HY.out
      refine ⟨⟨i + 1, by omega, by go_num, Lib.hid ?_, Lib.hid ?_⟩, by simp [intOf]; omega⟩
      · have := hD.out.byte (j := off + i) (v := rotV v mask i) ha hy (by omega) rfl
        have e : { st.rotAt a off mask i with stored := (st.rotAt a off mask i).stored.set a (y.set (off + i) (rotV v mask i)) } = st.rotAt a off mask (i + 1) := by
          simp only [DSt.rotAt, rotTo, List.set_set, hyr] at hvy ⊢
          rw [hvy]; rfl
        rw [e] at this
        exact this
      · refine hK.out.trans (G := F) (Keep.trans (F := F) (G := fun _ => False) (Keep.setCell (Keep.refl F wr) (fun _ => f2) _) ⟨rfl, rfl, rfl, Nat.le_refl _, fun _ _ _ => rfl⟩ (fun _ h => h.elim)) (fun k h _ => h)
    · obtain rfl : i = 4 := by omega
      obtain ⟨k0, k1, k2, k3, k4⟩ := drv_cells hD.out.box
      have r0 : wr.cell? ⟨rb, a, none⟩ = some (.bool false) := by rw [hD.out.ro.cellAt a (by omega)]; simp [DSt.rotAt, hr]
      have z0 : wr.frozen? ⟨rb, a, none⟩ = false := hD.out.ro.frozenAt a
      go_wp2_with fail
      go_ret
      have hKF : Keep F w1 (wr.setCell ⟨rb, a, none⟩ (.bool true)) := hK.out.setCell (fun _ => f3) _
      refine ⟨rfl, F, ⟨sb, sc, rb, rc, A, cc, mb, hD.out.mark ha true, f1, f2, f3, f4, f5, fun k hk => ?_⟩, fun k hk _ => hk, U.out.trans hKF (fun k h _ => h)⟩
      exact Nat.lt_of_lt_of_le (lt k hk) hKF.size

set_option maxRecDepth 100000 in
theorem rot_again {F : Nat → Prop} {w : World} {p n : Nat} {st : DSt} (h : Hid (DrvAt F w p n st)) (hd : st.dead = false) (a : Nat) (ha : a < n) (off : Nat) (hoff : off ≤ 60) (mask : Int) (hm : ¬ mask = 0) (hr : st.rotten[a]? = some true) :
    Calls Tryz.prog 78 #[.pointer (some ⟨p, 0, none⟩), .int .i64 a, .int .i64 off, .int .u32 mask] w fun e w' => e = .returned (.int .i64 91) ∧ Below w.heap.size w w' := by
  obtain ⟨sb, sc, rb, rc, A, cc, mb, H⟩ := h.out.box
  rw [hd] at H
  go_enter Tryz.func78, Tryz.ntmps78
  go_wp2_with fail
  refine (dready_any a H).mono ?_
  rintro e w1 ⟨rfl, h1⟩
  have e1 : readyE false n a = 0 := by simp [readyE, ha]
  rw [e1]
  clear e1 H
  have D := Lib.hid (h.out.below h1)
  obtain ⟨sb, sc, rb, rc, A, cc, mb, hB, f1, f2, f3, f4, f5, lt⟩ := D.out
  obtain ⟨k0, k1, k2, k3, k4⟩ := drv_cells hB.box
  have r0 : w1.cell? ⟨rb, a, none⟩ = some (.bool true) := by rw [hB.ro.cellAt a (by omega)]; simp [hr]
  have hk0 : (0 : Int) ≤ (a : Int) := Int.natCast_nonneg _
  have hk1 : (a : Int) < (n : Int) := by omega
  have ho3 : (off : Int) ≤ 60 := by omega
  have hmb : (mask == 0) = false := by simpa using hm
  clear hB h D
  go_wp2_with fail
  go_ret
  exact ⟨rfl, h1⟩

set_option maxRecDepth 100000 in
theorem write_bad {F : Nat → Prop} {w : World} {p n : Nat} {st : DSt} (h : Hid (DrvAt F w p n st)) (z : Int) (hz : readyE st.dead n z ≠ 0) (v : Value) :
    Calls Tryz.prog 215 #[.pointer (some ⟨p, 0, none⟩), .int .i64 z, v] w fun e w' => e = .returned (.int .i64 (readyE st.dead n z)) ∧ Below w.heap.size w w' := by
  obtain ⟨sb, sc, rb, rc, A, cc, mb, H⟩ := h.out.box
  go_enter Tryz.func215, Tryz.ntmps215
  go_wp2_with fail
  refine (dready_any z H).mono ?_
  rintro e w1 ⟨rfl, h1⟩
  obtain ⟨E, hE⟩ : ∃ E, readyE st.dead n z = E := ⟨_, rfl⟩
  rw [hE] at hz ⊢
  have hz2 : (E == 0) = false := by simpa using hz
  have hz3 : (E != 0) = true := by simpa using hz
  have HE := Lib.hid hE
  clear hE H
  go_wp2_with fail
  go_ret
  exact ⟨by rw [HE.out]; rfl, h1⟩
end
section

/-! ### States -/
def rep (z : Int) : List Int := List.replicate 64 z
theorem rep_len (z : Int) : (rep z).length = 64 := by simp [rep]
theorem putL_true : ∀ (c : List (Int × List Int)) (i : Nat) (xs : List (List Int)) (k : Nat), (∀ p ∈ c, 0 ≤ p.1) → k < xs.length →
    (putL (fun _ => true) i c xs)[k]? = (match lastIx c k with | some j => (c[j]?).map (·.2) | none => xs[k]?)
  | [], i, xs, k, _, _ => by simp [putL, lastIx]
  | p :: c, i, xs, k, hc, hk => by
    rw [putL, putL_true c (i + 1) _ k (fun q hq => hc q (List.mem_cons_of_mem _ hq)) (by simpa using hk), lastIx]
    cases h : lastIx c k with
    | some j => simp
    | none =>
      have h0 := hc p (by simp)
      simp only [↓reduceIte]
      by_cases hpk : p.1 = k
      · have : p.1.toNat = k := by omega
        simp [hpk, this, hk]
      · have : p.1.toNat ≠ k := by omega
        simp [hpk, List.getElem?_set_ne this]
theorem DSt.ok.seen_flush {st : DSt} {n : Nat} (h : st.ok n) {k : Nat} (hk : k < n) : (st.settle fun _ => true).seen k = st.seen k := by
  have h1 := putL_true st.cache 0 st.stored k (fun p hp => (h.cat p hp).1) (by rw [h.sl]; exact hk)
  unfold DSt.seen
  have h2 : lastIx (st.settle fun _ => true).cache k = none := rfl
  rw [h2]
  show ((putL (fun _ => true) 0 st.cache st.stored)[k]?).getD [] = _
  rw [h1]
  cases lastIx st.cache k <;> rfl
theorem DSt.seen_nil {st : DSt} (h : st.cache = []) (k : Nat) : st.seen k = (st.stored[k]?).getD [] := by
  unfold DSt.seen; rw [h]; rfl
theorem DSt.seen_new {n k : Nat} (hk : k < n) : (DSt.new n).seen k = rep 0 := by
  rw [DSt.seen_nil rfl]; simp [DSt.new, hk, rep]

/-! ### Bytes as text -/
theorem u8_exact {S : Nat → Prop} {w : World} {A : Option Addr} {n : Nat} {bs : List Int} (h : RdL U8R 1 S w A n bs) (hn : 0 < n) : ∃ b o, A = some ⟨b, o, none⟩ ∧ S b ∧ b < w.heap.size ∧ RdL U8R 1 (· = b) w (some ⟨b, o, none⟩) n bs := by
  obtain ⟨b, o, hA, hS, hlt, hc⟩ := h.2 hn
  exact ⟨b, o, hA, hS, hlt, h.1, fun _ => ⟨b, o, rfl, rfl, hlt, hc⟩⟩
theorem not_new {F F' : Nat → Prop} {w : World} {b : Nat} (hF : ∀ k, F' k → k < w.heap.size → F k) (hb : b < w.heap.size) (h : ¬ F b) : ¬ F' b := fun h2 => h (hF b h2 hb)

theorem below_then {w0 w1 w2 : World} (h2 : Below w1.heap.size w1 w2) (h1 : Below w0.heap.size w0 w1) : Below w0.heap.size w0 w2 := h1.trans (h2.mono h1.size)
/-- The world as it is in the midst of a law, whose drive is its own. -/
structure Own (w : World) (F : Nat → Prop) (w' : World) : Prop where
  below : Below w.heap.size w w'
  own : ∀ b, F b → w.heap.size ≤ b
theorem Own.later {w w1 w2 : World} {F : Nat → Prop} (h : Own w F w1) (hb : Below w1.heap.size w1 w2) : Own w F w2 := ⟨h.below.trans (hb.mono h.below.size), h.own⟩
theorem Own.upd {w w1 w2 : World} {F F' : Nat → Prop} (h : Own w F w1) (hF : ∀ k, F' k → k < w1.heap.size → F k) (hk : Keep F w1 w2) : Own w F' w2 :=
  ⟨h.below.trans (hk.below h.below.size h.own), fun b hb => by
    by_cases hlt : b < w1.heap.size
    · exact h.own b (hF b hb hlt)
    · have := h.below.size; omega⟩

end
section

theorem run_min_as (ts : Array TypeId) (t : TypeId) (x y : Int) (w : World) : (Builtin.min_ ts t #[.int .i64 x, .int .i64 y]).run Tryz.prog w = .ok (.int .i64 (min x y)) w := by
  rw [run_min_int2, show (if y < x then y else x) = min x y by omega]
theorem run_max_as (ts : Array TypeId) (t : TypeId) (x y : Int) (w : World) : (Builtin.max_ ts t #[.int .i64 x, .int .i64 y]).run Tryz.prog w = .ok (.int .i64 (max x y)) w := by
  rw [run_max_int2]
  congr 2
  omega
attribute [local go_sem ↓] run_min_as run_max_as

/-- A put: a place and a byte. -/
def PutR (_ : Nat → Prop) (_ : World) (cs : List Value) (x : Int × Int) : Prop := cs = [.int .i64 x.1, .int .u8 x.2]
theorem PutR.stable : Stable PutR := fun _ _ _ _ _ _ h _ => h

/-- In the midst of a law: what was noted is hl, what the drive's sectors are is sl. -/
structure Mid (w : World) (F : Nat → Prop) (wr : World) (p n hb : Nat) (st : DSt) (hl sl : List Int) : Prop where
  own : Own w F wr
  drv : DrvAt F wr p n st
  live : st.dead = false
  had : BoxAt wr hb ((hl.map (Value.int .u8)).toArray)
  len : hl.length = n
  len2 : sl.length = n
  out : ¬ F hb
  new : w.heap.size ≤ hb
  sees : ∀ k (h : k < n), st.seen k = rep (sl[k]'(by omega))

theorem Mid.later {w w1 w2 : World} {F : Nat → Prop} {p n hb : Nat} {st : DSt} {hl sl : List Int} (h : Mid w F w1 p n hb st hl sl) (hb2 : Below w1.heap.size w1 w2) : Mid w F w2 p n hb st hl sl :=
  { h with own := h.own.later hb2, drv := h.drv.below hb2, had := h.had.below hb2 }
theorem Mid.upd {w w1 w2 : World} {F F' : Nat → Prop} {p n hb : Nat} {st st' : DSt} {hl sl sl' : List Int} (h : Mid w F w1 p n hb st hl sl) (hD : DrvAt F' w2 p n st') (hF : ∀ k, F' k → k < w1.heap.size → F k) (hK : Keep F w1 w2) (hd : st'.dead = false)
    (h2 : sl'.length = n) (hs : ∀ k (h : k < n), st'.seen k = rep (sl'[k]'(by omega))) : Mid w F' w2 p n hb st' hl sl' :=
  ⟨h.own.upd hF hK, hD, hd, h.had.keeps hK h.out, h.len, h2, not_new hF h.had.lt h.out, h.new, hs⟩
theorem Mid.write {w w1 w2 : World} {F F' : Nat → Prop} {p n hb : Nat} {st : DSt} {hl sl : List Int} (h : Mid w F w1 p n hb st hl sl) {k : Nat} (hk : k < n) {z : Int} (hD : DrvAt F' w2 p n (st.write k (rep z))) (hF : ∀ k, F' k → k < w1.heap.size → F k) (hK : Keep F w1 w2) :
    Mid w F' w2 p n hb (st.write k (rep z)) hl (sl.set k z) := by
  refine h.upd hD hF hK h.live (by simp [h.len2]) (fun j hj => ?_)
  rw [DSt.seen_write]
  by_cases e : k = j
  · subst e; simp
  · have : ¬ (k : Int) = j := by omega
    simp [this, List.getElem_set_ne e, h.sees j hj]
theorem Mid.flush {w w1 w2 : World} {F F' : Nat → Prop} {p n hb : Nat} {st : DSt} {hl sl : List Int} (h : Mid w F w1 p n hb st hl sl) (hD : DrvAt F' w2 p n (st.settle fun _ => true)) (hF : ∀ k, F' k → k < w1.heap.size → F k) (hK : Keep F w1 w2) :
    Mid w F' w2 p n hb (st.settle fun _ => true) hl sl :=
  h.upd hD hF hK h.live h.len2 (fun j hj => (h.drv.ok.seen_flush hj).trans (h.sees j hj))
end
end Go.Proofs.YtihnlhfngmbglaaGreat
set_option linter.unusedSimpArgs false
set_option linter.unusedVariables false
namespace Go.Cib
open Go.RowKit Go.ChangeShapes Go.WideShapes Go.Deep

section
variable {P : Program} {X : Type}

/-- What reads as data of type t reads by R. -/
def Opens (P : Program) (t : TypeId) (R : (Nat → Prop) → World → List Value → X → Prop) (s : Nat) : Prop :=
  P.cellsOf t = s ∧ 0 < s ∧ ∀ (H : Type) (enc : TypeId × Value → H) (w : World) (base : Nat) (spare : Nat → Bool) (held : Bool) (fuel : Nat) (cs : List Value) (x : DataW H × List MemPlace),
    cs.length = s → DataW.trod enc P w base spare held fuel t cs = some x → ∃ y : X, R (fun _ => True) w cs y

theorem opens_slice {R : (Nat → Prop) → World → List Value → X → Prop} {t e : TypeId} {s : Nat} (ht : P.underlying t = some (.slice e)) (ho : Opens P e R s) {H : Type} {enc : TypeId × Value → H} {w : World} {base : Nat} {spare : Nat → Bool} {held : Bool} {fuel : Nat} {cs : List Value} {x : DataW H × List MemPlace}
    (h : DataW.trod enc P w base spare held fuel t cs = some x) : ∃ A n c xs, cs = [.slice A n c] ∧ n ≤ c ∧ c ≤ maxLen ∧ RdL R s (fun _ => True) w A n xs := by
  obtain ⟨hs, hpos, hR⟩ := ho
  rcases open_slice ht h with ⟨rfl, _⟩ | ⟨a, len, cap, m, n, D, Pl, rfl, hb, hl, hm, hmm, hx, hi⟩
  · exact ⟨none, 0, 0, [], rfl, Nat.le_refl _, by simp [maxLen], RdL.nil⟩
  · have hlm : len ≤ m := by rw [hmm]; split <;> omega
    rw [hs] at hi
    have hel : ∀ i, i < len → ∃ (cs' : List Value) (y : X), cs'.length = s ∧ R (fun _ => True) w cs' y ∧ ∀ j v, cs'[j]? = some v → w.cell? ((a.add (i * s)).add j) = some v := by
      intro i hil
      obtain ⟨cs', h1, h2⟩ := hi i (by omega)
      obtain ⟨_, h3, h4⟩ := World.cells?_some h1
      obtain ⟨y, hy⟩ := hR _ _ _ _ _ _ _ _ _ h3 h2
      exact ⟨cs', y, h3, hy, fun j v hj => by
        have hjl := (List.getElem?_eq_some_iff.1 hj).1
        rw [h4 j (by omega), hj]⟩
    rcases Nat.eq_zero_or_pos len with h0 | h0
    · subst h0
      exact ⟨some a, 0, cap, [], rfl, hl, hm, RdL.nil⟩
    · have hspot : a.spot = none := by
        obtain ⟨cs', y, h1, _, h2⟩ := hel 0 h0
        have h3 := h2 0 (cs'[0]'(by omega)) (List.getElem?_eq_getElem (by omega))
        simp only [Nat.zero_mul, Addr.add, if_true] at h3
        unfold World.cell? at h3
        split at h3
        · split at h3
          · cases h3
          · rename_i hs; simpa using hs
        · cases h3
      obtain ⟨b, o, sp⟩ := a
      simp only at hspot
      subst hspot
      have hxs : ∀ k, k ≤ len → ∃ xs : List X, xs.length = k ∧ ∀ i y, xs[i]? = some y → ∃ cs' : List Value, cs'.length = s ∧ R (fun _ => True) w cs' y ∧ ∀ j v, cs'[j]? = some v → w.cell? ⟨b, o + i * s + j, none⟩ = some v := by
        intro k
        induction k with
        | zero => exact fun _ => ⟨[], rfl, by simp⟩
        | succ k ih =>
          intro hk
          obtain ⟨xs, e1, e2⟩ := ih (by omega)
          obtain ⟨cs', y, h1, h2, h3⟩ := hel k (by omega)
          refine ⟨xs ++ [y], by simp [e1], fun i y' hy' => ?_⟩
          by_cases hik : i < k
          · rw [List.getElem?_append_left (by omega)] at hy'
            exact e2 i y' hy'
          · have hie : i = k := by
              have := (List.getElem?_eq_some_iff.1 hy').1
              simp [e1] at this; omega
            subst hie
            rw [List.getElem?_append_right (by omega)] at hy'
            simp only [e1, Nat.sub_self, List.getElem?_cons_zero, Option.some.injEq] at hy'
            subst hy'
            exact ⟨cs', h1, h2, fun j v hj => by have := h3 j v hj; rw [Addr.add_lit, Addr.add_lit] at this; exact this⟩
      obtain ⟨xs, e1, e2⟩ := hxs len (Nat.le_refl _)
      obtain ⟨cs', y, h1, _, h3⟩ := hel 0 h0
      have hblt : b < w.heap.size := by
        have := h3 0 (cs'[0]'(by omega)) (List.getElem?_eq_getElem (by omega))
        have := World.block_lt_of_cell? w _ this
        simpa [Addr.add_lit] using this
      exact ⟨some ⟨b, o, none⟩, len, cap, xs, rfl, hl, hm, e1, fun _ => ⟨b, o, rfl, trivial, hblt, e2⟩⟩

/-- A slice among the arguments. -/
theorem open_rd {R : (Nat → Prop) → World → List Value → X → Prop} {t e : TypeId} {s : Nat} (ht : P.underlying t = some (.slice e)) (ho : Opens P e R s) {H : Type} {enc : TypeId × Value → H} {w : World} {base b0 : Nat} {spare : Nat → Bool} {held : Bool} {r : Reach} {v : Value} {d : DataW H} {ps : List MemPlace}
    (hval : Value.okWide P w r b0 t v) (h : DataW.Trod enc P w base spare held t v d ps) : ∃ A n c xs, v = .slice A n c ∧ n ≤ c ∧ c ≤ maxLen ∧ RdL R s (fun _ => True) w A n xs := by
  obtain ⟨A, n, c, rfl⟩ := okWide_slice ht hval
  obtain ⟨fuel, hf⟩ := h
  obtain ⟨A', n', c', xs, e1, e2, e3, e4⟩ := opens_slice ht ho hf
  simp only [Value.cells, List.cons.injEq, and_true, Value.slice.injEq] at e1
  obtain ⟨rfl, rfl, rfl⟩ := e1
  exact ⟨A, n, c, xs, rfl, e2, e3, e4⟩
end

section
variable {H : Type} {enc : TypeId × Value → H} {P : Program}

theorem trodAll_stays (hl : laidOutB P = true) {W W' : World} (hb : Below W.heap.size W W') : ∀ (ts : List TypeId) (vs : List Value) (ds : List (DataW H)) (ps : List MemPlace), (∀ t ∈ ts, P.readableRec t = true ∧ t < P.types.size) → (∀ x ∈ ps, x.block < W.heap.size) →
    DataW.TrodAll enc P W 0 (fun _ => true) true ts vs ds ps → DataW.TrodAll enc P W' 0 (fun b => decide (b < W.heap.size)) true ts vs ds ps
  | [], vs, ds, ps, _, _, h => by
    obtain ⟨rfl, rfl, rfl⟩ := trodAll_nil h
    exact trodAll_mk0
  | t :: ts, vs, ds, ps, hr, hlt, h => by
    obtain ⟨v, vs', d, ds', p, q, rfl, rfl, rfl, hd, hrest⟩ := trodAll_cons h
    have h1 := Below.trod hl (hr t (by simp)).1 (hr t (by simp)).2 hd hb (fun x hx => hlt x (by simp [hx]))
    have h2 := trodAll_stays hl hb ts vs' ds' q (fun u hu => hr u (List.mem_cons_of_mem _ hu)) (fun x hx => hlt x (by simp [hx])) hrest
    exact trodAll_cons_mk h1 h2

/-- The end of a law's proof: it answered true, and what was there is as it was. -/
theorem law_post {f : Func} {s : ChangeSpec} {W W' : World} {args : Array Value} {ds gs : List (DataW H)} {before : List MemPlace} {tb : TypeId} (hl : laidOutB P = true) (hr : ∀ t ∈ f.params.toList, P.readableRec t = true ∧ t < P.types.size)
    (hres : f.resultTypes = #[tb]) (htb : P.underlying tb = some .bool) (hvars : s.vars = []) (hfn : (s.fn H (ds ++ gs)).results = [.lit (.bool true)] ∧ (s.fn H (ds ++ gs)).args = ds ∧ (s.fn H (ds ++ gs)).vars = [])
    (hW : DataW.Whole enc P f.params.toList s.vars false W args.toList ds gs before) (hb : Below W.heap.size W W') :
    s.post enc P f false true false false W args (.bool true) W' := by
  have hlt : ∀ p ∈ before, p.block < W.heap.size := fun p hp => hW.lt p hp
  have hW2 := hW
  obtain ⟨p, q, hA, hV, rfl, hz, hn⟩ := hW2
  rw [hvars] at hV
  obtain ⟨rfl, rfl⟩ := trodVars_none hV
  simp only [List.append_nil] at hlt hfn hz hW ⊢
  have hargs := trodAll_stays hl hb _ _ _ _ hr hlt hA
  have hr1 : ∀ (b : Nat) (sp : Nat → Bool) (hd : Bool), DataW.TrodAll enc P W' b sp hd f.resultTypes.toList ((Value.bool true).resultList f.resultTypes.size) (s.fn H ds).results [] := fun b sp hd => by
    rw [hres, hfn.1]
    exact trodAll_mk1 (shut_bool htb true)
  refine ⟨ds, [], p, [], p, [], hW, by rw [List.append_nil]; exact hr1 _ _ _, by rw [List.append_nil, hfn.2.1]; exact hargs, by rw [List.append_nil, hvars, hfn.2.2]; exact rfl, World.keptBut_mono (fun x hx => ⟨hx, .inr (.inl hx)⟩) (hb.frame (· ∈ p)), fun h => by cases h⟩
end
end Go.Cib

set_option linter.unusedSimpArgs false
set_option linter.unusedVariables false
namespace Go.Proofs.YtihnlhfngmbglaaGreat
open Go.RowKit Go.Cib
attribute [local go_sem] cell_set Later.cell Later.frozen Grw.cell Grw.frozen
section
open Go.ChangeShapes Go.WideShapes Go.ChangeAt Go.Deep

theorem laidOut_ : laidOutB Tryz.prog = true := by kernel_rfl
theorem ownKnob_ : ownKnob Tryz.prog.godebug = none := by kernel_rfl
end
end Go.Proofs.YtihnlhfngmbglaaGreat
