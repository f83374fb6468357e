/-
  settle.
-/
import Derived.Test.YtolmpopjonkfgaaDrvR
set_option linter.unusedSimpArgs false
set_option linter.unusedVariables false
namespace Go.Proofs.Ytolmpopjonkfgaa
open Go.RowKit Go.Cib
attribute [local go_sem] cell_set Later.cell Later.frozen Grw.cell Grw.frozen
attribute [local go_sem ↓] shut_load shut_load65 shut_zero shut_zero65 shut_store shut_store65
attribute [local go_sem] run_shutZero run_shutZero65 run_shutStore run_shutStore65 run_shutLoad_set there_new there_new65

def DSt.after (st : DSt) (keep : Nat → Bool) (k : Nat) : DSt := { st with stored := putL keep 0 (st.cache.take k) st.stored, rotten := freshL keep 0 (st.cache.take k) st.rotten }

theorem DSt.after_zero (st : DSt) (keep : Nat → Bool) : st.after keep 0 = st := rfl
theorem DSt.after_skip {st : DSt} {keep : Nat → Bool} {k : Nat} (hk : k < st.cache.length) (h : keep k = false) : st.after keep (k + 1) = st.after keep k := by
  simp only [DSt.after, List.take_succ_eq_append_getElem hk, putL_snoc, freshL_snoc, Nat.zero_add, List.length_take, Nat.min_eq_left (Nat.le_of_lt hk), h]
  simp
theorem DSt.after_put {st : DSt} {keep : Nat → Bool} {k : Nat} (hk : k < st.cache.length) (h : keep k = true) {a : Nat} {s : List Int} (hs : st.cache[k] = ((a : Int), s)) :
    st.after keep (k + 1) = { st.after keep k with stored := (st.after keep k).stored.set a s, rotten := (st.after keep k).rotten.set a false } := by
  simp only [DSt.after, List.take_succ_eq_append_getElem hk, putL_snoc, freshL_snoc, Nat.zero_add, List.length_take, Nat.min_eq_left (Nat.le_of_lt hk), h, hs]
  simp
theorem DrvB.blocks {w : World} {p n sb sc rb rc : Nat} {A : Option Addr} {cc mb : Nat} {st : DSt} (h : DrvB w p n sb sc rb rc A cc mb st) : p < w.heap.size ∧ sb < w.heap.size ∧ rb < w.heap.size ∧ mb < w.heap.size ∧ ∀ k, (Value.slice A st.cache.length cc).ownBlock = some k → k < w.heap.size := by
  obtain ⟨es, h1, _⟩ := h.ma
  exact ⟨h.box.lt, (h.so.lt sb rfl).2, (h.ro.lt rb rfl).2, h1.lt, fun k hk => (h.co.lt k hk).2⟩
theorem DrvB.below {w w' : World} {p n sb sc rb rc : Nat} {A : Option Addr} {cc mb : Nat} {st : DSt} (h : DrvB w p n sb sc rb rc A cc mb st) (hb : Below w.heap.size w w') : DrvB w' p n sb sc rb rc A cc mb st := by
  obtain ⟨h1, h2, h3, h4, h5⟩ := h.blocks
  exact h.keep (hb.block _ h1) (hb.block _ h2) (hb.block _ h3) (hb.block _ h4) (fun k hk => hb.block _ (h5 k hk))
theorem below_box (w : World) (o : Obj) (off : Nat) (vs : List Value) : Below w.heap.size w ((w.alloc o).setCells w.heap.size off vs) :=
  ((Keep.of_below (F := fun _ => False) ((Below.refl w.heap.size w).alloc (Nat.le_refl _) _)).trans (G := (· = w.heap.size)) (setCells_keep _ _ _ _) (fun k hk hlt => by subst hk; omega)).below (Nat.le_refl _) (fun _ h => h.elim)
theorem run_clear {κ : Type} [DecidableEq κ] {mk : κ → Value} {P : Program} {T K E : TypeId} {w : World} {b : Nat} {es : List (κ × Value)} (ht : P.underlying T = some (.map K E)) (hm : MapAt mk w b es) (ty : TypeId) :
    ∃ w', (Builtin.clear_ #[T] ty #[.map (some b)]).run P w = .ok (.tuple #[]) w' ∧ MapAt mk w' b [] ∧ w.grownBy w' (some b) ∧ w'.heap.size = w.heap.size := by
  have hlt := hm.lt
  obtain ⟨h0, arr, clock, h1, h2, h3, h4⟩ := hm
  refine ⟨{ w with heap := w.heap.setIfInBounds b (.map #[] clock) }, ?_, ⟨by simp, _, _, heap_setObj w b _ hlt, by simp, by simp, by simp⟩, grown_setObj w b _, by simp⟩
  simp [Builtin.clear_, run_underlying ht, run_getMap h1, run_setObj (P := P) h1 (by simp)]
theorem DrvB.settled {w w1 w' : World} {p n sb sc rb rc : Nat} {A : Option Addr} {cc mb : Nat} {st : DSt} {keep : Nat → Bool} (h : DrvB w p n sb sc rb rc A cc mb (st.after keep st.cache.length))
    (hw1 : w1 = w.setCell ⟨p, 2, none⟩ (.slice none 0 0)) (hm : MapAt (Value.int .i64) w' mb ([] : List (Int × Value))) (hg : w1.grownBy w' (some mb)) : DrvB w' p n sb sc rb rc none 0 mb (st.settle keep) := by
  subst hw1
  have hok := h.ok
  obtain ⟨l1, l2, l3, l4, _⟩ := h.blocks
  have hs : st.settle keep = { st.after keep st.cache.length with cache := [] } := by simp [DSt.settle, DSt.after]
  have hk : ∀ k, k < w.heap.size → k ≠ p → k ≠ mb → w'.heap[k]? = w.heap[k]? := fun k hk h1 h2 => (hg.block k (by simpa using hk) (by simpa using h2)).trans (Below.heap_setCell _ _ _ _ h1)
  rw [hs]
  refine ⟨⟨hok.sl, hok.rl, hok.s64, by simp, by simp⟩, h.n1, h.n600, ?_, ownsRow_keep h.so (by rintro k ⟨⟩; exact hk sb l2 (fun e => h.ps e.symm) h.sm), ownsRow_keep h.ro (by rintro k ⟨⟩; exact hk rb l3 (fun e => h.pr e.symm) h.rm), World.ownsRow_nil _ _ _ _, ⟨[], hm, fun k => rfl⟩, h.ps, h.pr, h.pm, h.sr, h.sm, h.rm, by simp [Value.ownBlock], by simp [Value.ownBlock], by simp [Value.ownBlock], by simp [Value.ownBlock]⟩
  exact (h.box.set 2 _).keep (hg.block p (by simpa using l1) (by simpa using h.pm))

theorem cell_setCells_ne {w : World} {b o : Nat} {cs : List Value} {a : Addr} {v : Value} (h : w.cell? a = some v) (hn : a.block ≠ b) : (w.setCells b o cs).cell? a = some v :=
  (World.cell?_of_block (setCells_other w b o a.block cs hn)).trans h
theorem frozen_setCells_ne {w : World} {b o : Nat} {cs : List Value} {a : Addr} (h : w.frozen? a = false) : (w.setCells b o cs).frozen? a = false := by rw [World.frozen?_setCells]; exact h
theorem cell_setCell_ne {w : World} {p a : Addr} {u v : Value} (h : w.cell? a = some v) (hn : a.block ≠ p.block) : (w.setCell p u).cell? a = some v :=
  (World.cell?_of_block (Below.heap_setCell _ _ _ _ hn)).trans h
section
variable {w : World} {p bb sb o : Nat} {v0 v1 v2 : Value} {cs : List Value}
theorem settleS1 (hp : p ≠ sb) (hb : bb ≠ sb) (ds : List Value) (h : w.cell? ⟨p, 0, none⟩ = some v0 ∧ w.cell? ⟨p, 1, none⟩ = some v1 ∧ w.cell? ⟨bb, 0, none⟩ = some v2 ∧ w.rangeAt bb 1 cs ∧ w.there sb o 64) :
    (w.setCells sb o ds).cell? ⟨p, 0, none⟩ = some v0 ∧ (w.setCells sb o ds).cell? ⟨p, 1, none⟩ = some v1 ∧ (w.setCells sb o ds).cell? ⟨bb, 0, none⟩ = some v2 ∧ (w.setCells sb o ds).rangeAt bb 1 cs ∧ (w.setCells sb o ds).there sb o 64 :=
  ⟨cell_setCells_ne h.1 hp, cell_setCells_ne h.2.1 hp, cell_setCells_ne h.2.2.1 hb, World.rangeAt_setCells_apart h.2.2.2.1 _ _ _ (.inl hb), World.there_setCells h.2.2.2.2 _ _ _⟩
theorem settleS2 {q : Addr} (hp : p ≠ q.block) (hb : bb ≠ q.block) (hs : sb ≠ q.block) (u : Value) (h : w.cell? ⟨p, 0, none⟩ = some v0 ∧ w.cell? ⟨p, 1, none⟩ = some v1 ∧ w.cell? ⟨bb, 0, none⟩ = some v2 ∧ w.rangeAt bb 1 cs ∧ w.there sb o 64) :
    (w.setCell q u).cell? ⟨p, 0, none⟩ = some v0 ∧ (w.setCell q u).cell? ⟨p, 1, none⟩ = some v1 ∧ (w.setCell q u).cell? ⟨bb, 0, none⟩ = some v2 ∧ (w.setCell q u).rangeAt bb 1 cs ∧ (w.setCell q u).there sb o 64 :=
  ⟨cell_setCell_ne h.1 hp, cell_setCell_ne h.2.1 hp, cell_setCell_ne h.2.2.1 hb, fun j v hj => cell_setCell_ne (h.2.2.2.1 j v hj) hb, fun j hj => ⟨by
    obtain ⟨u, hu⟩ := Option.isSome_iff_exists.1 (h.2.2.2.2 j hj).1
    rw [cell_setCell_ne hu hs]; rfl, by rw [World.frozen?_setCell]; exact (h.2.2.2.2 j hj).2⟩⟩
end
/-- One sector is stored anew, and its mark is taken away. -/
theorem DrvB.put {w w' : World} {p n sb sc rb rc : Nat} {A : Option Addr} {cc mb : Nat} {st : DSt} (h : DrvB w p n sb sc rb rc A cc mb st) {a : Nat} {s : List Int} {r : Bool} (ha : a < n) (hs : s.length = 64)
    (hk : ∀ k, k ≠ sb → k ≠ rb → w'.heap[k]? = w.heap[k]?) (hso : w'.ownsRow 0 94 64 (.slice (some ⟨sb, 0, none⟩) n sc) n ((st.stored.map secCells).set a (secCells s)).flatten)
    (hro : w'.ownsRow 0 4 1 (.slice (some ⟨rb, 0, none⟩) n rc) n ((st.rotten.map Value.bool).set a (.bool r))) :
    DrvB w' p n sb sc rb rc A cc mb { st with stored := st.stored.set a s, rotten := st.rotten.set a r } := by
  have hok := h.ok
  refine ⟨⟨by simp [hok.sl], by simp [hok.rl], ?_, hok.c64, hok.cat⟩, h.n1, h.n600, h.box.keep (hk p h.ps h.pr), ?_, ?_, ownsRow_keep h.co (fun k hk2 => hk k (fun e => h.sc (e ▸ hk2)) (fun e => h.rc (e ▸ hk2))), ?_, h.ps, h.pr, h.pm, h.sr, h.sm, h.rm, h.pc, h.sc, h.rc, h.mc⟩
  · intro x hx
    rcases List.mem_or_eq_of_mem_set hx with h1 | h1
    · exact hok.s64 x h1
    · rw [h1]; exact hs
  · rw [List.map_set]; exact hso
  · rw [List.map_set]; exact hro
  · obtain ⟨es, h1, h2⟩ := h.ma
    exact ⟨es, h1.keep (hk mb (fun e => h.sm e.symm) (fun e => h.rm e.symm)), h2⟩

set_option maxRecDepth 100000 in
set_option maxHeartbeats 4000000 in
theorem settle_any {F : Nat → Prop} {w : World} {p n : Nat} {st : DSt} (h : Hid (DrvAt F w p n st)) (keep : Nat → Bool) (f : FuncId) (cap : Array Value)
    (hc : ∀ (k : Nat) (w' : World), k < st.cache.length → Keep F w w' → Calls Try.prog f (#[.int .i64 k] ++ cap) w' fun e w'' => e = .returned (.bool (keep k)) ∧ Below w'.heap.size w' w'') (hcf : ∀ args w, (callFunc f args).run Try.prog w = .ok (.enter f args) w) (hcl : st.cache.length < 1000000) :
    Calls Try.prog 58 #[.pointer (some ⟨p, 0, none⟩), .func (.func f) #[] cap] w fun e w' => e = .returned (.tuple #[]) ∧ Upd F w w' p n (st.settle keep) := by
  obtain ⟨sb, sc, rb, rc, A, cc, mb, hB, f1, f2, f3, f4, f5, lt⟩ := h.out
  obtain ⟨k0, k1, k2, k3, k4⟩ := drv_cells hB.box
  have HB := Lib.hid hB
  have HC := Lib.hid hc
  clear hB hc
  go_enter Try.func58, Try.ntmps58
  go_wp2_with fail
  clear k0 k1 k2 k3 k4
  go_loopw [11] (fun vi wr => ∃ k : Nat, k ≤ st.cache.length ∧ vi = .int .i64 k ∧ Hid (DrvB wr p n sb sc rb rc A cc mb (st.after keep k)) ∧ Hid (Keep F w wr)) (fun vi _ => st.cache.length - (intOf vi).toNat)
  case atStart => exact ⟨0, Nat.zero_le _, rfl, HB, Lib.hid (Keep.refl _ _)⟩
  case round =>
    obtain ⟨k, hk, rfl, hD, hK⟩ := hrel
    by_cases hlt : k < st.cache.length
    · have hok := hD.out.ok
      have hc65 : ∀ cs ∈ st.cache.map waitCells, cs.length = 65 := by
        intro cs hcs; obtain ⟨x, hx, rfl⟩ := List.mem_map.1 hcs; simp [waitCells, secCells, hok.c64 x hx]
      obtain ⟨g, cap2, hv, hg0, hglt⟩ := hD.out.co.form (by show 0 < st.cache.length; omega)
      obtain ⟨rfl, rfl⟩ : A = some ⟨g, 0, none⟩ ∧ cc = cap2 := by simpa using hv
      obtain ⟨a, s, hks⟩ : ∃ (a : Nat) (s : List Int), st.cache[k] = ((a : Int), s) := ⟨st.cache[k].1.toNat, st.cache[k].2, by
        have := (hok.cat _ (List.getElem_mem hlt)).1
        rw [Int.toNat_of_nonneg this]⟩
      have ha : a < n := by have := (hok.cat _ (List.getElem_mem hlt)).2; rw [hks] at this; simpa using this
      have hs64 : s.length = 64 := by have := hok.c64 _ (List.getElem_mem hlt); rw [hks] at this; exact this
      have hfit : fitC 65 (waitCells ((a : Int), s)).toArray := fit_wait hs64
      have hl : (shutLoad 96 ⟨g, k * 65, none⟩).run Try.prog wr = .ok (.agg (waitCells ((a : Int), s)).toArray) wr := by
        have hr := ownsRow_range hD.out.co hc65 (i := k) (cs := waitCells ((a : Int), s)) (by simp [DSt.after, hlt, hks]) (by simp [DSt.after])
        exact run_shutLoad65 hr (by simpa using hfit.1)
      have hbW := below_box wr (.cells waitZC 96) 0 (waitCells ((a : Int), s))
      have hxW := BoxAt.setAll (BoxAt.new wr waitZC 96) (waitCells ((a : Int), s)) (by rw [waitZC_size]; simpa using hfit.1)
      have hwr := hK.out.size
      have hbnew : ∀ k, F k → k < wr.heap.size := fun k hk => Nat.lt_of_lt_of_le (lt k hk) hK.out.size
      have HbW := Lib.hid hbW
      have HxW := Lib.hid hxW
      clear hok hc65 hv hbW hxW
      go_wp2_with fail
      obtain ⟨W, hW⟩ : ∃ W, (wr.alloc (Obj.cells waitZC 96)).setCells wr.heap.size 0 (waitCells ((a : Int), s)) = W := ⟨_, rfl⟩
      rw [hW] at HbW HxW ⊢
      clear hl hW
      have KW : Keep F w W := hK.out.trans (G := fun _ => False) (Keep.of_below HbW.out) (fun _ h => h.elim)
      refine (HC.out k W hlt KW).mono ?_
      rintro e w3 ⟨rfl, h3⟩
      have hB3 := (hD.out.below HbW.out).below h3
      have hK3 : Keep F w w3 := KW.trans (G := fun _ => False) (Keep.of_below h3) (fun _ h => h.elim)
      have hx3 := HxW.out.below h3
      have HB3 := Lib.hid hB3
      have HK3 := Lib.hid hK3
      clear KW HbW HxW h3 hD hK
      cases hkp : keep k with
      | false =>
        clear hB3 hK3 hx3
        go_wp2_with fail
        refine ⟨⟨k + 1, by omega, by go_num, ?_, HK3⟩, by simp [intOf]; omega⟩
        rw [DSt.after_skip hlt hkp]
        exact HB3
      | true =>
        obtain ⟨k0, k1, k2, k3, k4⟩ := drv_cells hB3.box
        have q0 : w3.cell? ⟨wr.heap.size, 0, none⟩ = some (.int .i64 a) := hx3.cell 0
        obtain ⟨bb, hbb⟩ : ∃ bb, wr.heap.size = bb := ⟨_, rfl⟩
        rw [hbb] at hx3 q0
        have hlt3 := hB3.blocks
        have hgb : w.heap.size ≤ bb := by rw [← hbb]; exact hwr
        have nbs : bb ≠ sb := fun e => by have := lt sb f2; omega
        have nbr : bb ≠ rb := fun e => by have := lt rb f3; omega
        have hr3 : w3.rangeAt bb 1 (secCells s) := fun j v hj => by
          rw [hx3.cell]; simpa [waitCells, Nat.add_comm] using hj
        have hal : a * 64 + 64 ≤ n * 64 := by have : (a + 1) * 64 ≤ n * 64 := Nat.mul_le_mul_right _ ha; omega
        have ht3 : w3.there sb (a * 64) 64 := ownsRow_there hB3.so hal
        have S0 := And.intro k0 (And.intro k1 (And.intro q0 (And.intro hr3 ht3)))
        have hrl : (st.after keep k).rotten.length = n := hB3.ok.rl
        obtain ⟨rv, r0⟩ : ∃ rv, w3.cell? ⟨rb, a, none⟩ = some rv := ⟨_, (hB3.ro.cellAt a (by omega)).trans (List.getElem?_eq_getElem (by simpa [hrl] using ha))⟩
        have r1 : w3.frozen? ⟨rb, a, none⟩ = false := hB3.ro.frozenAt a
        have r2 : ∀ o cs, (w3.drew.setCells sb o cs).cell? ⟨rb, a, none⟩ = some rv := fun o cs => cell_setCells_ne (w := w3.drew) r0 (fun e => hB3.sr e.symm)
        have r3 : ∀ o cs, (w3.drew.setCells sb o cs).frozen? ⟨rb, a, none⟩ = false := fun o cs => frozen_setCells_ne (w := w3.drew) r1
        have hps := hB3.ps
        have hpr := hB3.pr
        have hsr := hB3.sr
        have hu := secRow
        have hcs : (secCells s).length = 64 := by simp [secCells, hs64]
        have hi : (Try.prog.info? 94).map (·.size) = some (secCells s).length := by rw [secSize, hcs]
        have h1c : ∀ v ∈ secCells s, v.oneCell' = true := fun v hv => secCells_one v hv
        have hk0 : (0 : Int) ≤ (a : Int) := Int.natCast_nonneg _
        have hk8 : (a : Int) < (n : Int) := by omega
        clear hB3 k2 k3 k4 hlt3 hfit
        go_wp2_with fail
        clear hbb hbnew
        go_region_held3 (fun w' => w'.cell? ⟨p, 0, none⟩ = some (.slice (some ⟨sb, 0, none⟩) n sc) ∧ w'.cell? ⟨p, 1, none⟩ = some (.slice (some ⟨rb, 0, none⟩) n rc) ∧ w'.cell? ⟨bb, 0, none⟩ = some (.int .i64 a) ∧ w'.rangeAt bb 1 (secCells s) ∧ w'.there sb (a * 64) 64)
          (first
            | exact S0
            | exact settleS1 (w := World.drew _) hps nbs _ S0
            | exact settleS2 (w := World.drew _) (q := ⟨rb, a, none⟩) hpr nbr hsr _ S0
            | exact settleS2 (q := ⟨rb, a, none⟩) hpr nbr hsr _ (settleS1 (w := World.drew _) hps nbs _ S0)
            | exact settleS1 hps nbs _ (settleS2 (w := World.drew _) (q := ⟨rb, a, none⟩) hpr nbr hsr _ S0)) (fail)
        go_wp2_with fail
        refine ⟨⟨k + 1, by omega, by go_num, Lib.hid ?_, Lib.hid ?_⟩, by simp [intOf]; omega⟩
        · rw [DSt.after_put hlt hkp hks]
          have o1 := ownsRow_row (w := w3.drew) HB3.out.so (fun cs hcs => by obtain ⟨x, hx, rfl⟩ := List.mem_map.1 hcs; simp [secCells, HB3.out.ok.s64 x hx]) ha (by simp [HB3.out.ok.sl]) (cs := secCells s) hcs
          have o2 := (World.ownsRow.stored (ownsRow_keep (w' := w3.drew.setCells sb (a * 64) (secCells s)) HB3.out.ro (by rintro k ⟨⟩; exact setCells_other w3.drew sb _ rb _ (fun e => hsr e.symm))) a (.bool false)).1
          refine HB3.out.put ha hs64 (fun k h1 h2 => ?_) (ownsRow_keep o1 (by rintro k ⟨⟩; exact Below.heap_setCell _ _ _ _ hsr)) o2
          exact (Below.heap_setCell _ _ _ _ h2).trans (setCells_other w3.drew sb _ k _ h1)
        · refine HK3.out.trans (G := F) ?_ (fun k h _ => h)
          refine Keep.setCell (Keep.trans (F := F) (G := fun k => k = sb) (Keep.of_below ((Below.refl w3.heap.size w3).drew)) (setCells_keep w3.drew sb _ _) (fun k h _ => h ▸ f2)) (fun _ => f3) _
    · obtain rfl : k = st.cache.length := by omega
      obtain ⟨k0, k1, k2, k3, k4⟩ := drv_cells hD.out.box
      have z2 := hD.out.box.frozen 2
      obtain ⟨es, hm1, hm2⟩ := hD.out.ma
      obtain ⟨W, hW⟩ : ∃ W, wr.setCell ⟨p, 2, none⟩ (.slice none 0 0) = W := ⟨_, rfl⟩
      have hmW : MapAt (Value.int .i64) W mb es := by rw [← hW]; exact hm1.keep (Below.heap_setCell _ _ _ _ (fun e => hD.out.pm e.symm))
      obtain ⟨w4, r4, m4, g4, s4⟩ := run_clear (P := Try.prog) mapTy hmW 0
      rw [← hW] at r4
      have hsz : W.heap.size = wr.heap.size := by rw [← hW]; simp
      have HW := Lib.hid hW
      have HS := Lib.hid hsz
      clear hW hmW hm1 hm2 s4 hsz
      go_wp2_with fail
      go_end0
      have hkW : Keep F wr W := by rw [← HW.out]; exact Keep.setCell (Keep.refl F wr) (fun _ => f1) _
      refine ⟨rfl, F, ⟨sb, sc, rb, rc, none, 0, mb, hD.out.settled HW.out.symm m4 g4, f1, f2, f3, f4, by simp [Value.ownBlock], fun k hk => ?_⟩, fun k hk _ => hk, ?_⟩
      · have h1 := lt k hk
        have h2 := hK.out.size
        have h3 := g4.size
        have h4 := HS.out
        omega
      · exact (hK.out.trans hkW (fun _ h _ => h)).trans (Keep.of_grown g4) (fun k h _ => by injection h with h; exact h ▸ f4)
end Go.Proofs.Ytolmpopjonkfgaa
