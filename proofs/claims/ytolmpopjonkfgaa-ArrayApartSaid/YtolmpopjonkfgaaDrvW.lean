/-
  Write.
-/
import Derived.Test.YtolmpopjonkfgaaDrvSt
import Derived.Deep.RegionHeld3
import Derived.Deep.DeepMust
import Derived.Deep.RegionLaw
import Derived.Laws.Cover3
import Derived.Great.BuildSlice
set_option linter.unusedSimpArgs false
set_option linter.unusedVariables false
namespace Go.Proofs.Ytolmpopjonkfgaa
open Go.RowKit Go.Cib
attribute [local go_sem] cell_set Later.cell Later.frozen Grw.cell Grw.frozen

theorem DrvAt.upd {F : Nat → Prop} {w w' : World} {p n : Nat} {st : DSt} (h : DrvAt F w p n st) (hk : Below w.heap.size w w') : Upd F w w' p n st := ⟨F, h.below hk, fun _ hk _ => hk, Keep.of_below hk⟩

theorem ktInt : KeyTy Try.prog 3 (Value.int .i64) := keyTy_int (by kernel_rfl)
theorem mapTy : Try.prog.underlying 89 = some (.map 3 3) := by kernel_rfl
theorem waitInfo : (Try.prog.info? 96).map (fun i => (i.zero, i.size, i.bytes)) = some (some (.agg (Array.mk (.int .i64 0 :: List.replicate 64 (.int .u8 0)))), 65, 72) := by kernel_rfl
def secZ : Value := .agg (Array.replicate 64 (.int .u8 0))
theorem secRow : Try.prog.underlying 94 = some (.array 64 5) := by kernel_rfl
theorem secSize : (Try.prog.info? 94).map (·.size) = some 64 := by kernel_rfl

theorem fill_tail : ∀ (cs zs : List Value) (k : Nat) (pre : List Value), zs.length = cs.length → pre.length = k → (cs.zipIdx.foldl (fun (ar : Array Value) (p : Value × Nat) => ar.setIfInBounds (k + p.2) p.1) (pre ++ zs).toArray) = (pre ++ cs).toArray := by
  have gen : ∀ (cs zs : List Value) (i k : Nat) (pre : List Value), zs.length = cs.length → pre.length = k + i → ((cs.zipIdx i).foldl (fun (ar : Array Value) (p : Value × Nat) => ar.setIfInBounds (k + p.2) p.1) (pre ++ zs).toArray) = (pre ++ cs).toArray := by
    intro cs
    induction cs with
    | nil => intro zs i k pre h _; rw [List.length_eq_zero_iff.1 h]; rfl
    | cons c cs ih =>
      intro zs i k pre h hp
      match zs, h with
      | z :: zs, h =>
        rw [List.zipIdx_cons, List.foldl_cons]
        have e : (pre ++ z :: zs).toArray.setIfInBounds (k + i) c = ((pre ++ [c]) ++ zs).toArray := by
          simp [← hp]
        show List.foldl _ ((pre ++ z :: zs).toArray.setIfInBounds (k + i) c) _ = _
        rw [e, ih zs (i + 1) k (pre ++ [c]) (by simpa using h) (by simp; omega)]
        simp
  exact fun cs zs k pre h hp => gen cs zs 0 k pre h (by omega)
theorem fill_tailA (cs : Array Value) (zs : List Value) (k : Nat) (pre : List Value) (h : zs.length = cs.size) (hp : pre.length = k) : (cs.zipIdx.foldl (fun (ar : Array Value) (p : Value × Nat) => ar.setIfInBounds (k + p.2) p.1) (pre ++ zs).toArray) = (pre ++ cs.toList).toArray := by
  rw [← Array.foldl_toList, Array.toList_zipIdx]
  exact fill_tail cs.toList zs k pre (by simpa using h) hp
/-- The two parts of a write that waits. -/
def okW (parts : Array (Nat × Value)) : Bool := match parts.toList with
  | [(0, .int .i64 _), (1, .agg cs)] => cs.size == 64
  | _ => false
def ofW (parts : Array (Nat × Value)) : Value := match parts.toList with
  | [(0, .int .i64 z), (1, .agg cs)] => .agg (.int .i64 z :: cs.toList).toArray
  | _ => .agg #[]
theorem okW_lit (z : Int) (cs : Array Value) : okW #[(0, .int .i64 z), (1, .agg cs)] = (cs.size == 64) := rfl
theorem ofW_lit (z : Int) (cs : Array Value) : ofW #[(0, .int .i64 z), (1, .agg cs)] = .agg (.int .i64 z :: cs.toList).toArray := rfl
theorem okW_inv {parts : Array (Nat × Value)} (h : okW parts = true) : ∃ z cs, parts = #[(0, .int .i64 z), (1, .agg cs)] ∧ cs.size = 64 := by
  unfold okW at h
  split at h
  · rename_i z cs e
    exact ⟨z, cs, Array.toList_inj.1 e, by simpa using h⟩
  · cases h
theorem build_wait (parts : Array (Nat × Value)) (h : okW parts = true) (w : World) : (Instr.build 96 parts).run Try.prog w = .ok (ofW parts) w := by
  obtain ⟨z, cs, rfl, hb⟩ := okW_inv h
  refine run_build w _ _ (.int .i64 z :: cs.toList).toArray ?_
  obtain ⟨i, hi, hz, hs, hby⟩ := info_parts waitInfo
  obtain ⟨i1, hi1, hz1, hs1, hby1⟩ := info_parts (show (Try.prog.info? 3).map (fun i => (i.zero, i.size, i.bytes)) = some (some (.int .i64 0), 1, 8) by kernel_rfl)
  obtain ⟨i2, hi2, hz2, hs2, hby2⟩ := info_parts (show (Try.prog.info? 94).map (fun i => (i.zero, i.size, i.bytes)) = some (some secZ, 64, 64) by kernel_rfl)
  unfold Program.built
  rw [hi, Try.underlying96]
  simp [hz, hi1, hi2, hs1, hs2, Instr.fill, Value.cells, hb, -List.reduceReplicate, -Array.foldl_toList]
  have := fill_tailA cs (List.replicate 64 (.int .u8 0)) 1 [.int .i64 z] (by simp [hb]) rfl
  simpa [hb] using this
/-- One element laid for itself. -/
def okS (s : Nat) (parts : Array (Nat × Value)) : Bool := match parts.toList with
  | [(0, .agg cs)] => cs.size == s
  | _ => false
def ofS (parts : Array (Nat × Value)) : Array Value := match parts.toList with
  | [(0, .agg cs)] => cs
  | _ => #[]
theorem okS_lit (s : Nat) (cs : Array Value) : okS s #[(0, .agg cs)] = (cs.size == s) := rfl
theorem ofS_lit (cs : Array Value) : ofS #[(0, .agg cs)] = cs := rfl
theorem okS_inv {s : Nat} {parts : Array (Nat × Value)} (h : okS s parts = true) : ∃ cs, parts = #[(0, .agg cs)] ∧ cs.size = s := by
  unfold okS at h
  split at h
  · rename_i cs e
    exact ⟨cs, Array.toList_inj.1 e, by simpa using h⟩
  · cases h
theorem fill_all (cs zs : Array Value) (k : Nat) (hk : k = 0) (h : zs.size = cs.size) : (cs.zipIdx.foldl (fun (ar : Array Value) (p : Value × Nat) => ar.setIfInBounds (k + p.2) p.1) zs) = cs := by
  subst hk
  have := fill_tailA cs zs.toList 0 [] (by simpa using h) rfl
  simpa using this
theorem buildSlice_wait (parts : Array (Nat × Value)) (h : okS 65 parts = true) (w : World) : (Instr.buildSlice 88 1 parts).run Try.prog w = .ok (.slice (some ⟨w.heap.size, 0, none⟩) 1 1) (w.alloc (.cells (ofS parts) 96)) := by
  obtain ⟨cs, rfl, hb⟩ := okS_inv h
  obtain ⟨i, hi, hz, hs, hby⟩ := info_parts waitInfo
  refine run_buildSlice w _ _ 1 _ cs i _ Try.underlying88 hi hz (by rw [hs]; omega) (by rw [hs]; omega) ?_
  simp only [Instr.fill, hs, Value.cells, hb]
  rw [if_neg (by simp), fill_all cs _ _ (by omega) (by simp [hb])]
/-- The two operations under names of their own: the walk does not open them. -/
def shutBuild (t : TypeId) (parts : Array (Nat × Value)) : Sem Value := Instr.build t parts
def shutSlice (t : TypeId) (n : Nat) (parts : Array (Nat × Value)) : Sem Value := Instr.buildSlice t n parts
theorem shut_build (parts : Array (Nat × Value)) : Instr.build 96 parts = shutBuild 96 parts := rfl
theorem shut_slice (n : Nat) (parts : Array (Nat × Value)) : Instr.buildSlice 88 n parts = shutSlice 88 n parts := rfl
theorem run_shutBuild (parts : Array (Nat × Value)) (h : okW parts = true) (w : World) : (shutBuild 96 parts).run Try.prog w = .ok (ofW parts) w := build_wait parts h w
theorem run_shutSlice (parts : Array (Nat × Value)) (h : okS 65 parts = true) (w : World) : (shutSlice 88 1 parts).run Try.prog w = .ok (.slice (some ⟨w.heap.size, 0, none⟩) 1 1) (w.alloc (.cells (ofS parts) 96)) := buildSlice_wait parts h w
def shutLoad (t : TypeId) (a : Addr) : Sem Value := loadVar t a
theorem shut_load (a : Addr) : loadVar 94 a = shutLoad 94 a := rfl
theorem shut_load65 (a : Addr) : loadVar 96 a = shutLoad 96 a := rfl
attribute [local go_sem] okW_lit ofW_lit okS_lit ofS_lit run_shutBuild run_shutSlice
attribute [local go_sem ↓] shut_build shut_slice shut_load shut_load65

theorem range_far {w w' : World} {row : Option Nat} {b o : Nat} {cs : List Value} (h : w.rangeAt b o cs) (hg : w.grownBy w' row) (hne : some b ≠ row) : w'.rangeAt b o cs := fun j v hj => by
  have h1 := h j v hj
  exact (hg.cell_far _ (World.block_lt_of_cell? w _ h1) hne).trans h1
theorem cell_far2 {w w' : World} {row : Option Nat} {a : Addr} {v : Value} (h : w.cell? a = some v) (hg : w.grownBy w' row) (hne : some a.block ≠ row) : w'.cell? a = some v := (hg.cell_far _ (World.block_lt_of_cell? w _ h) hne).trans h
theorem frozen_far2 {w w' : World} {row : Option Nat} {a : Addr} {v : Value} (h : w.cell? a = some v) (hf : w.frozen? a = false) (hg : w.grownBy w' row) (hne : some a.block ≠ row) : w'.frozen? a = false := (hg.frozen_far _ (World.block_lt_of_cell? w _ h) hne).trans hf
theorem cell_alloc2 {w : World} {a : Addr} {v : Value} (h : w.cell? a = some v) (o : Obj) : (w.alloc o).cell? a = some v := (World.cell?_alloc_lt _ _ _ (World.block_lt_of_cell? w _ h)).trans h
theorem frozen_alloc2 {w : World} {a : Addr} {v : Value} (h : w.cell? a = some v) (hf : w.frozen? a = false) (o : Obj) : (w.alloc o).frozen? a = false := (World.frozen?_alloc_past _ _ _ (World.block_lt_of_cell? w _ h)).trans hf
theorem secCells_one {bs : List Int} : ∀ u ∈ secCells bs, u.oneCell' = true := by
  intro u hu
  obtain ⟨x, _, rfl⟩ := List.mem_map.1 hu
  rfl
theorem waitCells_one {p : Int × List Int} : ∀ u ∈ waitCells p, u.oneCell' = true := by
  intro u hu
  rcases List.mem_cons.1 hu with rfl | h
  · rfl
  · exact secCells_one u h
theorem u8_range {S : Nat → Prop} {w : World} {b o : Nat} {bs : List Int} {n : Nat} (h : RdL U8R 1 S w (some ⟨b, o, none⟩) n bs) : w.rangeAt b o (secCells bs) := by
  intro j v hj
  have hjl := (List.getElem?_eq_some_iff.1 hj).1
  have hl := h.1
  simp only [secCells, List.length_map] at hjl
  obtain ⟨_, cs, h1, h2, h3⟩ := h.at (k := j) (by omega)
  have h4 : cs = [.int .u8 bs[j]] := h2
  subst h4
  have := h3 0 _ rfl
  simp only [Nat.mul_one, Nat.add_zero] at this
  rw [this, ← hj]
  simp [secCells, hjl]

theorem grown_setCell (w : World) (p : Addr) (v : Value) : w.grownBy (w.setCell p v) (some p.block) := ⟨rfl, rfl, rfl, by simp, fun k _ hk => Below.heap_setCell _ _ _ _ (fun e => hk (by rw [e]))⟩
section
variable {w w' : World} {o : Obj} {row : Option Nat} (hg : (w.alloc o).drew.grownBy w' row)
include hg
theorem cell_far3 {p k : Nat} {v : Value} (h : w.cell? ⟨p, k, none⟩ = some v) (hne : some p ≠ row) : w'.cell? ⟨p, k, none⟩ = some v :=
  cell_far2 (w := (w.alloc o).drew) (a := ⟨p, k, none⟩) (cell_alloc2 h o) hg hne
theorem frozen_far3 {p k : Nat} {v : Value} (h : w.cell? ⟨p, k, none⟩ = some v) (hf : w.frozen? ⟨p, k, none⟩ = false) (hne : some p ≠ row) : w'.frozen? ⟨p, k, none⟩ = false :=
  frozen_far2 (w := (w.alloc o).drew) (a := ⟨p, k, none⟩) (cell_alloc2 h o) (frozen_alloc2 h hf o) hg hne
theorem range_far3 {b k : Nat} {cs : List Value} (h : w.rangeAt b k cs) (hne : some b ≠ row) : w'.rangeAt b k cs :=
  range_far (w := (w.alloc o).drew) (World.rangeAt_alloc h o) hg hne
end
def writeE (d : Bool) (n : Nat) (z : Int) (m : Nat) : Int := if readyE d n z = 0 then (if m = 64 then 0 else 2) else readyE d n z

def secZ0 := 0
theorem write_post {F : Nat → Prop} {w w1 w2 w3 : World} {p n sb sc rb rc : Nat} {A : Option Addr} {cc mb : Nat} {st : DSt} {z : Nat} {bs : List Int} {es : List (Int × Value)} {gg cap : Nat} {ob : Obj}
    (hB : DrvB w1 p n sb sc rb rc A cc mb st) (f1 : F p) (f2 : F sb) (f3 : F rb) (f4 : F mb) (f5 : ∀ k, (Value.slice A st.cache.length cc).ownBlock = some k → F k) (lt : ∀ k, F k → k < w1.heap.size)
    (U : Keep F w w1) (hz : z < n) (hb : bs.length = 64) (hm2 : ∀ k : Int, mlook es k = (lastIx st.cache k).map fun i : Nat => Value.int .i64 (i : Int))
    (m2 : MapAt (Value.int .i64) w2 mb (mput es (z : Int) (.int .i64 st.cache.length))) (g2 : w1.drew.grownBy w2 (some mb))
    (hown : w3.ownsRow 0 96 65 (.slice (some ⟨gg, 0, none⟩) (st.cache.length + 1) cap) (st.cache.length + 1) ((st.cache.map waitCells).flatten ++ waitCells ((z : Int), bs)))
    (hgrow : (w2.alloc ob).drew.grownBy w3 (Value.slice A st.cache.length cc).ownBlock) (hat : (Value.slice A st.cache.length cc).ownBlock = some gg ∨ gg = w2.heap.size + 1) (hlt : gg < w3.heap.size) :
    Upd F w (w3.setCell ⟨p, 2, none⟩ (.slice (some ⟨gg, 0, none⟩) (st.cache.length + 1) cap)) p n (st.write z bs) := by
  have s2 : w1.heap.size ≤ w2.heap.size := g2.size
  have s3 : w2.heap.size + 1 ≤ w3.heap.size := by have := hgrow.size; simp at this; exact this
  have k3 : ∀ k, k < w2.heap.size → some k ≠ (Value.slice A st.cache.length cc).ownBlock → w3.heap[k]? = w2.heap[k]? := fun k hk hn => (hgrow.block k (by simp; omega) hn).trans (Below.heap_alloc _ _ _ hk)
  have k1 : ∀ k, k < w1.heap.size → some k ≠ (Value.slice A st.cache.length cc).ownBlock → k ≠ mb → w3.heap[k]? = w1.heap[k]? := fun k hk hn hm => (k3 k (by omega) hn).trans (g2.block k hk (by simpa using hm))
  have kp := k1 p (lt p f1) (fun e => hB.pc e.symm) hB.pm
  have ks := k1 sb (lt sb f2) (fun e => hB.sc e.symm) hB.sm
  have kr := k1 rb (lt rb f3) (fun e => hB.rc e.symm) hB.rm
  have km := k3 mb (by have := lt mb f4; omega) (fun e => hB.mc e.symm)
  have hg : ∀ k, F k → gg = k → (Value.slice A st.cache.length cc).ownBlock = some k := fun k hk e => by
    rcases hat with h | h
    · rw [h, e]
    · have := lt k hk; omega
  have gp : gg ≠ p := fun e => hB.pc (hg p f1 e)
  have gs : gg ≠ sb := fun e => hB.sc (hg sb f2 e)
  have gr : gg ≠ rb := fun e => hB.rc (hg rb f3 e)
  have gm : gg ≠ mb := fun e => hB.mc (hg mb f4 e)
  have hset : ∀ k, k ≠ p → (w3.setCell ⟨p, 2, none⟩ (.slice (some ⟨gg, 0, none⟩) (st.cache.length + 1) cap)).heap[k]? = w3.heap[k]? := fun k hk => Below.heap_setCell _ _ _ _ hk
  have hcl : (st.write z bs).cache.length = st.cache.length + 1 := by simp [DSt.write]
  refine ⟨fun k => F k ∨ k = gg, ⟨sb, sc, rb, rc, some ⟨gg, 0, none⟩, cap, mb, ?_, .inl f1, .inl f2, .inl f3, .inl f4, ?_, ?_⟩, ?_, ?_⟩
  · refine ⟨hB.ok.write hb ⟨by omega, by omega⟩, hB.n1, hB.n600, ?_, ownsRow_keep hB.so ?_, ownsRow_keep hB.ro ?_, ?_, ?_, hB.ps, hB.pr, hB.pm, hB.sr, hB.sm, hB.rm, ?_, ?_, ?_, ?_⟩
    · rw [hcl]
      exact (hB.box.keep kp).set 2 _
    · rintro k ⟨⟩
      exact (hset sb (fun e => hB.ps e.symm)).trans ks
    · rintro k ⟨⟩
      exact (hset rb (fun e => hB.pr e.symm)).trans kr
    · rw [hcl]
      have h : (List.map waitCells (st.write (z : Int) bs).cache).flatten = (st.cache.map waitCells).flatten ++ waitCells ((z : Int), bs) := by simp [DSt.write]
      rw [h]
      exact ownsRow_keep hown (by rintro k ⟨⟩; exact hset gg gp)
    · refine ⟨_, m2.keep ((hset mb (fun e => hB.pm e.symm)).trans km), fun k => ?_⟩
      simp only [DSt.write]
      rw [look_put, lastIx_snoc, hm2]
      by_cases h : (z : Int) = k <;> simp [h]
    · rw [hcl]; simpa [Value.ownBlock] using gp
    · rw [hcl]; simpa [Value.ownBlock] using gs
    · rw [hcl]; simpa [Value.ownBlock] using gr
    · rw [hcl]; simpa [Value.ownBlock] using gm
  · rintro k hk
    have : gg = k := by simpa [Value.ownBlock] using hk
    exact .inr this.symm
  · rintro k (hk | rfl)
    · have := lt k hk; simp; omega
    · simpa using hlt
  · rintro k (hk | rfl) hlk
    · exact hk
    · rcases hat with h | h
      · exact f5 _ h
      · have := U.size; omega
  · refine U.trans (G := F) ?_ (fun k hk _ => hk)
    refine ⟨hgrow.os.trans g2.os, hgrow.tape.trans g2.tape, hgrow.output.trans g2.output, by simp; omega, fun k hk hf => ?_⟩
    exact (hset k (fun e => hf (e ▸ f1))).trans (k1 k hk (fun e => hf (f5 k e.symm)) (fun e => hf (e ▸ f4)))

set_option maxRecDepth 100000 in
set_option maxHeartbeats 4000000 in
theorem write_good {F : Nat → Prop} {w : World} {p n : Nat} {st : DSt} (h : Hid (DrvAt F w p n st)) (hd : st.dead = false) (z : Nat) (hz : z < n) {S : Nat → Prop} {b o c : Nat} {bs : List Int} (hb : Hid (RdL U8R 1 S w (some ⟨b, o, none⟩) 64 bs)) (hS : ¬ F b) (hcl : st.cache.length < 1000000) :
    Calls Try.prog 12 #[.pointer (some ⟨p, 0, none⟩), .int .i64 z, .slice (some ⟨b, o, none⟩) 64 c] w fun e w' => e = .returned (.int .i64 0) ∧ Upd F w w' p n (st.write z bs) := by
  obtain ⟨sb, sc, rb, rc, A, cc, mb, H⟩ := h.out.box
  rw [hd] at H
  go_enter Try.func12, Try.ntmps12
  go_wp2_with fail
  refine (ready_any z H).mono ?_
  rintro e w1 ⟨rfl, h1⟩
  have e1 : readyE false n z = 0 := by simp [readyE, hz]
  rw [e1]
  clear e1 H
  have D := Lib.hid (h.out.below h1)
  have B := Lib.hid (hb.out.below U8R.stable h1)
  have U := Keep.of_below (F := F) h1
  have s1 := h1.size
  clear h hb h1
  go_wp2_with fail
  obtain ⟨sb, sc, rb, rc, A, cc, mb, hB, f1, f2, f3, f4, f5, lt⟩ := D.out
  obtain ⟨es, hm1, hm2⟩ := hB.ma
  obtain ⟨k0, k1, k2, k3, k4⟩ := drv_cells hB.box
  obtain ⟨w2, r2, m2, g2, s2⟩ := run_mapUpdate (P := Try.prog) ktInt mapTy (w := w1.drew) hm1 (z : Int) (.int .i64 st.cache.length)
  have hne : some p ≠ some mb := by simpa using hB.pm
  have g2' : w1.grownBy w2 (some mb) := ⟨g2.os, g2.tape, g2.output, g2.size, g2.block⟩
  have hpl : p < w1.drew.heap.size := lt p f1
  have hb0 : bs.length = 64 := B.out.1
  have z2 : w1.frozen? ⟨p, 2, none⟩ = false := hB.box.frozen 2
  have own1 : w2.ownsRow 0 96 65 (.slice A st.cache.length cc) st.cache.length (st.cache.map waitCells).flatten := ownsRow_keep hB.co (fun k hk => g2.block k (lt k (f5 k hk)) (fun e => hB.mc (e ▸ hk)))
  have z2' : w2.frozen? ⟨p, 2, none⟩ = false := frozen_far2 k2 z2 g2' hne
  have k2' : w2.cell? ⟨p, 2, none⟩ = some (.slice A st.cache.length cc) := cell_far2 k2 g2' hne
  have k3' : w2.cell? ⟨p, 3, none⟩ = some (.map (some mb)) := cell_far2 k3 g2' hne
  have hcp : some p ≠ (Value.slice A st.cache.length cc).ownBlock := fun e => hB.pc e.symm
  have hcb : some b ≠ (Value.slice A st.cache.length cc).ownBlock := fun e => hS (f5 b e.symm)
  have hbm : some b ≠ some mb := fun e => hS (by injection e with e; exact e ▸ f4)
  have hbc : w2.rangeAt b o (secCells bs) := range_far (u8_range B.out) g2' hbm
  clear hm1 k0 k1 k4 z2
  go_region_held3 (fun w' => w'.cell? ⟨p, 3, none⟩ = some (.map (some mb)) ∧ w'.cell? ⟨p, 2, none⟩ = some (.slice A st.cache.length cc))
    (first | exact ⟨k3, k2⟩ | exact ⟨k3', k2'⟩) (fail)
  go_wp2_with fail
  have hsz : (secCells bs).length = 64 := by simp [secCells, hb0]
  have hu := secRow
  have hi : (Try.prog.info? 94).map (·.size) = some (secCells bs).length := by rw [secSize]; simp [secCells, hb0]
  have haa : ∀ w, (Instr.arrayAt 94 (.slice (some ⟨b, o, none⟩) 64 c)).run Try.prog w = .ok (.pointer (some ⟨b, o, none⟩)) w := fun w => run_arrayAt w _ _ 64 _ _ _ secRow (Nat.le_refl _)
  obtain ⟨i0, hi0, hz0, hz1, hz2⟩ := info_parts waitInfo
  clear k2 hb0 k3 k3' s2
  have k2a : ∀ o, (w2.alloc o).cell? ⟨p, 2, none⟩ = some (.slice A st.cache.length cc) := fun o => cell_alloc2 k2' o
  have hpb : some b ≠ some p := fun e => hS (by injection e with e; exact e ▸ f1)
  have hload : (shutLoad 94 ⟨b, o, none⟩).run Try.prog w2.drew = .ok (.agg (secCells bs).toArray) w2.drew := run_loadVar_mid (P := Try.prog) w2.drew b o _ _ _ hbc secRow rfl hi
  have hg0 : Hid (w1.drew.grownBy w2 (some mb)) := Lib.hid g2
  have hz0' := Lib.hid z2'
  clear hi hu
  have z2a : ∀ o, (w2.alloc o).frozen? ⟨p, 2, none⟩ = false := fun o => frozen_alloc2 k2' z2' o
  go_region_law ((refine step_append_lies _ (by rfl) _ _ _ (by rfl) 0 96 i0 _ 65 72 Try.underlying88 hi0 hz0 hz1 hz2 rfl (by omega) (.slice A st.cache.length cc) st.cache.length _ (by rfl) (World.ownsRow.drew (own1.alloc _)) ⟨w2.heap.size, 0, none⟩ 1 1 (waitCells ((z : Int), bs)) (by rfl) (by simp [waitCells, hsz]) (World.news_of_block (cs := (waitCells ((z : Int), bs)).toArray) (t := 96) (fr := (0, 0)) (heap_alloc_new w2 _)) (fun u hu => waitCells_one u hu) (by omega) (by unfold maxLen; omega) (by omega) (by omega) (w2.heap.size + 1) (by simp) ?_; intro gg cap w3 hown3 hgrow hat hlt; have kk : w3.cell? ⟨p, 2, none⟩ = some (.slice A st.cache.length cc) := (by exact cell_far3 hgrow k2' hcp); have zz : w3.frozen? ⟨p, 2, none⟩ = false := (by exact frozen_far3 hgrow k2' z2' hcp)))
  all_goals go_wp2_with fail
  all_goals go_ret
  all_goals exact ⟨rfl, write_post hB f1 f2 f3 f4 f5 lt U hz B.out.1 hm2 m2 g2 hown3 hgrow hat hlt⟩
end Go.Proofs.Ytolmpopjonkfgaa
