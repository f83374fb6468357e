/-
  A pool: the small questions, Free, places.
  A pool: generations; Take.
  A pool gives out places; a new pool.
  A new pool; a pool's copy.
  Blobs: how many stripes, their names, pieces.
  Places and generations for a value.
  A value is put.
  Whether a blob may be; how long its stripes should be.
  A value is got.
  A law's base: rows, and places of a pool: is it small?
  A law's base: drives, a coder and a pool are made.
  A value is put: no room, too long.
  What is taken of a pool is free no more; a value's stripes lie on the drives as they were put, and stay.
  What a region's operations keep may be sharpened on the way.
  An operation of a drawn region taken first, its slot said (for slots far behind).
  Law 31: ScrubAll: the walk.
  A geometry among the arguments; bounds of whole numbers.
  Law 31's stripes among the arguments.
-/
import Derived.Test.YtihnlhfngmbglaaGreatAl12
import Derived.Test.YtihnlhfngmbglaaGreatAl11
import Derived.Test.YtihnlhfngmbglaaGreatAl10
import Derived.Test.YtihnlhfngmbglaaGreatAl4
import Derived.Test.YtihnlhfngmbglaaGreatAl3
set_option linter.unusedSimpArgs false
set_option linter.unusedVariables false
namespace Go.Proofs.YtihnlhfngmbglaaGreat
open Go.RowKit Go.Cib
attribute [local go_sem] cell_set Later.cell Later.frozen Grw.cell Grw.frozen
section
/-- A pool in memory. -/
structure PoolAt (w : World) (p o l go gl ep ct fs n : Nat) (wo wl : List Nat) : Prop where
  box : BoxAt w p #[.int .u64 (ep : Int), .int .i64 (ct : Int), .int .i64 (fs : Int), .pointer (some ⟨o, 0, none⟩), .pointer (some ⟨l, 0, none⟩)]
  out : BmAt w o go n wo
  lim : BmAt w l gl n wl
  ne : p ≠ o ∧ p ≠ go ∧ p ≠ l ∧ p ≠ gl ∧ go ≠ l ∧ go ≠ gl ∧ gl ≠ o
  fsn : fs + n ≤ 600
  n1 : 1 ≤ n
def PoolB (p o l go gl : Nat) (j : Nat) : Prop := j = p ∨ j = o ∨ j = l ∨ j = go ∨ j = gl
section
variable {w w' : World} {p o l go gl ep ct fs n : Nat} {wo wl : List Nat}
theorem PoolAt.keep {F : Nat → Prop} (h : PoolAt w p o l go gl ep ct fs n wo wl) (hK : Keep F w w') (hF : ∀ j, PoolB p o l go gl j → ¬ F j) : PoolAt w' p o l go gl ep ct fs n wo wl :=
  ⟨h.box.keeps hK (hF p (.inl rfl)), h.out.keep hK (hF o (.inr (.inl rfl))) (hF go (.inr (.inr (.inr (.inl rfl))))), h.lim.keep hK (hF l (.inr (.inr (.inl rfl)))) (hF gl (.inr (.inr (.inr (.inr rfl))))), h.ne, h.fsn, h.n1⟩
theorem PoolAt.below (h : PoolAt w p o l go gl ep ct fs n wo wl) (hb : Below w.heap.size w w') : PoolAt w' p o l go gl ep ct fs n wo wl := ⟨h.box.below hb, h.out.below hb, h.lim.below hb, h.ne, h.fsn, h.n1⟩
theorem PoolAt.kp {X : Nat → Prop} (h : PoolAt w p o l go gl ep ct fs n wo wl) (hK : ∀ j, X j → w'.heap[j]? = w.heap[j]?) (hX : ∀ j, PoolB p o l go gl j → X j) : PoolAt w' p o l go gl ep ct fs n wo wl :=
  ⟨h.box.keep (hK p (hX p (.inl rfl))), h.out.kp hK (hX o (.inr (.inl rfl))) (hX go (.inr (.inr (.inr (.inl rfl))))), h.lim.kp hK (hX l (.inr (.inr (.inl rfl)))) (hX gl (.inr (.inr (.inr (.inr rfl))))), h.ne, h.fsn, h.n1⟩
theorem PoolAt.cells (h : PoolAt w p o l go gl ep ct fs n wo wl) : w.cell? ⟨p, 0, none⟩ = some (.int .u64 (ep : Int)) ∧ w.cell? ⟨p, 1, none⟩ = some (.int .i64 (ct : Int)) ∧ w.cell? ⟨p, 2, none⟩ = some (.int .i64 (fs : Int)) ∧ w.cell? ⟨p, 3, none⟩ = some (.pointer (some ⟨o, 0, none⟩)) ∧ w.cell? ⟨p, 4, none⟩ = some (.pointer (some ⟨l, 0, none⟩)) := ⟨h.box.cell 0, h.box.cell 1, h.box.cell 2, h.box.cell 3, h.box.cell 4⟩
end
end
section
section
variable {w w' : World} {p o l go gl ep ct fs n : Nat} {wo wl : List Nat}
/-- The count turned. -/
theorem PoolAt.count (h : PoolAt w p o l go gl ep ct fs n wo wl) (c : Nat) : PoolAt (w.setCell ⟨p, 1, none⟩ (.int .i64 (c : Int))) p o l go gl ep c fs n wo wl := by
  obtain ⟨n1, n2, n3, n4, n5, n6, n7⟩ := h.ne
  refine ⟨h.box.set 1 _, ⟨h.out.box.set_other (p := ⟨p, 1, none⟩) (fun e => n1 e.symm) _, h.out.row.set_other (p := ⟨p, 1, none⟩) (fun e => n2 e.symm) _, h.out.ok, h.out.ne, h.out.n1⟩, ⟨h.lim.box.set_other (p := ⟨p, 1, none⟩) (fun e => n3 e.symm) _, h.lim.row.set_other (p := ⟨p, 1, none⟩) (fun e => n4 e.symm) _, h.lim.ok, h.lim.ne, h.lim.n1⟩, h.ne, h.fsn, h.n1⟩
end
end
section
section
variable {w w' : World} {p o l go gl ep ct fs n : Nat} {wo wl : List Nat}
end
end
section
section
variable {w w' : World}
section
variable {p o l go gl ep ct fs n : Nat} {wo wl : List Nat}
end
end
end
section
attribute [local go_sem ↓] run_min_b
end
section
section
variable {w w' : World} {p o l go gl ep ct fs n cb bf k m : Nat} {wo wl : List Nat}
end
end
section
def bRef (ps : List Int) (gen : Nat) (i : Nat) : Ref := ⟨3, (ps.getD i 0).toNat, gen + i⟩
def bPc (k : Nat) (xs : List Nat) (i : Nat) : List Nat := (xs.drop (i * (k * 44))).take (k * 44)
/-- The drives behind the first i stripes. -/
def putB (n k N : Nat) (ps : List Int) (gen : Nat) (xs : List Nat) (sts : List DSt) : Nat → List DSt
  | 0 => sts
  | i + 1 => (putB n k N ps gen xs sts i).mapIdx (putQ n k N (bRef ps gen i) (bPc k xs i))
section
variable {P X S : Nat → Prop} {w0 w w' : World} {a p o l go gl ep ct fs np n cb bf k m : Nat} {wo wl : List Nat} {sts : List DSt}
end
end
section
section
variable {w w' : World} {cb bf k m : Nat}
attribute [local go_sem ↓] run_min_b
end
end
section
section
variable {w0 w w' : World} {a n cb bf k m : Nat} {sts : List DSt} {S : Nat → Prop}
end
end
section
end
section
end
section
section
variable {P X S : Nat → Prop} {w0 w w' : World} {a p o l go gl ep ct fs n np cb bf k m : Nat} {wo wl : List Nat} {sts : List DSt}
end
end
section
/-- Places that follow each other. -/
def plL (a M : Nat) : List Int := (List.range M).map fun i : Nat => ((a + i : Nat) : Int)
theorem plL_at {a M i : Nat} (h : i < M) : (plL a M).getD i 0 = ((a + i : Nat) : Int) := by
  unfold plL
  simp [List.getD_eq_getElem?_getD, h]
/-! ### Drives that are all alive -/
def Alv (n : Nat) (sts : List DSt) : Prop := ∀ st ∈ sts, st.dead = false ∧ st.ok n
section
variable {g : Nat → Bool} {n k N a G M0 : Nat} {xs : List Nat} {sts : List DSt}
theorem Alv.live (h : Alv n sts) {d : Nat} (hd : d < sts.length) : deadL sts d = false := by
  unfold deadL
  rw [List.getElem?_eq_getElem hd]
  exact (h _ (List.getElem_mem hd)).1
theorem Alv.new (n N : Nat) : Alv n (newS n N) := fun st hst => by
  obtain ⟨d, hd, rfl⟩ := List.mem_iff_getElem.1 hst
  rw [(newS_at (List.getElem?_eq_getElem hd)).1]
  exact ⟨rfl, DSt.ok.new n⟩
theorem Alv.count (h : Alv n sts) : cnt (aliveL sts) = sts.length := by
  have e : aliveL sts = List.replicate sts.length true := by
    unfold aliveL
    apply List.ext_getElem?
    intro d
    rw [List.getElem?_map, List.getElem?_replicate]
    by_cases hd : d < sts.length
    · rw [if_pos hd, List.getElem?_eq_getElem hd]
      simp [(h _ (List.getElem_mem hd)).1]
    · rw [if_neg hd, List.getElem?_eq_none (by omega)]; rfl
  rw [e]
  unfold cnt
  simp
theorem Alv.flush (h : Alv n sts) : Alv n (sts.map flushG) := fun st hst => by
  obtain ⟨s1, h1, rfl⟩ := List.mem_map.1 hst
  exact ⟨by rw [flushG_dead]; exact (h s1 h1).1, flushG_ok (h s1 h1).2⟩
theorem Alv.put (h : Alv n sts) {r : Ref} (hr : r.ok n) (hx : Byt xs) : Alv n (sts.mapIdx (putQ n k N r xs)) := fun st hst => by
  obtain ⟨d, hd⟩ := List.getElem?_of_mem hst
  obtain ⟨s1, h1, rfl⟩ := mapIdx_at hd
  obtain ⟨a1, a2⟩ := h s1 (List.mem_of_getElem? h1)
  rw [putQ_live hr hx a1]
  exact ⟨a1, a2.write (wrI_len (x := putX k N r xs d) (row44 hx k _).1) ⟨Int.natCast_nonneg _, by have := hr.p; omega⟩⟩
theorem bRef_pl {M i : Nat} (h : i < M) : bRef (plL a M) G i = ⟨3, a + i, G + i⟩ := by
  unfold bRef
  rw [plL_at h, Int.toNat_natCast]
theorem bPc_byt (hx : Byt xs) (i : Nat) : Byt (bPc k xs i) := fun x h => hx x (List.mem_of_mem_drop (List.mem_of_mem_take h))
theorem ref3_in {p z : Nat} (h : p < n) : Ref.ok ⟨3, p, z⟩ n := ⟨(by decide : 1 ≤ 3), (by decide : 3 ≤ 4), h⟩
theorem putB_alv (h : Alv n sts) (hx : Byt xs) {M : Nat} (ha : a + M ≤ n) : ∀ i, i ≤ M → Alv n (putB n k N (plL a M) G xs sts i)
  | 0, _ => h
  | i + 1, hi => by
    rw [putB, bRef_pl (by omega)]
    exact (putB_alv h hx ha i (by omega)).put (ref3_in (by omega)) (bPc_byt hx i)
theorem putB_old {r : Ref} {ys : List Nat} (h : Hds g k N r ys sts) (hx : Byt xs) {M : Nat} (ha : a + M ≤ n) (hd : r.place < a ∨ a + M ≤ r.place) : ∀ i, i ≤ M → Hds g k N r ys (putB n k N (plL a M) G xs sts i)
  | 0, _ => h
  | i + 1, hi => by
    rw [putB, bRef_pl (by omega)]
    exact (putB_old h hx ha hd i (by omega)).put (n := n) (ref3_in (by omega)) (bPc_byt hx i) (by show a + i ≠ r.place; omega)
theorem putB_new (h : Alv n sts) (hx : Byt xs) {M : Nat} (ha : a + M ≤ n) : ∀ i, i ≤ M → ∀ t, t < i → Hds (fun _ => true) k N ⟨3, a + t, G + t⟩ (bPc k xs t) (putB n k N (plL a M) G xs sts i)
  | 0, _, t, ht => absurd ht (by omega)
  | i + 1, hi, t, ht => by
    have hA := putB_alv (k := k) (N := N) (G := G) h hx ha i (by omega)
    rw [putB, bRef_pl (by omega)]
    by_cases e : t = i
    · subst e
      refine (Hds.new (n := n) (ref3_in (by omega)) (bPc_byt hx t) (fun st hst hd => by rw [(hA st hst).1] at hd; cases hd)).congr fun d hd => ?_
      rw [List.length_mapIdx] at hd
      rw [hA.live hd]; rfl
    · exact (putB_new h hx ha i (by omega) t (by omega)).put (n := n) (ref3_in (by omega)) (bPc_byt hx i) (by show a + i ≠ a + t; omega)
/-- A value lies on the drives g. -/
def HdB (g : Nat → Bool) (k N a G M : Nat) (xs : List Nat) (sts : List DSt) : Prop := ∀ t, t < M → Hds g k N ⟨3, a + t, G + t⟩ (bPc k xs t) sts
theorem HdB.put (h : HdB g k N a G M0 xs sts) {ys : List Nat} (hy : Byt ys) {b H M : Nat} (hb : b + M ≤ n) (hd : a + M0 ≤ b) : HdB g k N a G M0 xs (putB n k N (plL b M) H ys sts M) := fun t ht =>
  putB_old (h t ht) hy hb (.inl (by show a + t < b; omega)) M (Nat.le_refl _)
theorem HdB.new (h : Alv n sts) (hx : Byt xs) {M : Nat} (ha : a + M ≤ n) : HdB (fun _ => true) k N a G M xs (putB n k N (plL a M) G xs sts M) := fun t ht => putB_new h hx ha M (Nat.le_refl _) t ht
theorem HdB.flush (h : HdB g k N a G M0 xs sts) (ha : a + M0 ≤ n) (hA : Alv n sts) : HdB g k N a G M0 xs (sts.map flushG) := fun t ht => (h t ht).flush (n := n) (ref3_in (by omega)) fun st hst => (hA st hst).2
theorem HdB.fail (h : HdB g k N a G M0 xs sts) (ha : a + M0 ≤ n) (x : Int) : HdB (butB g x) k N a G M0 xs (failA n sts x) := fun t ht => (h t ht).fail (ref3_in (by omega)) x
end
end
section
end
section
end
section
attribute [local go_sem ↓] run_max_s run_min_s
section
variable {X : Nat → Prop} {w0 w : World} {a cb bf k m n : Nat} {sts : List DSt}
theorem fail_e (h : MX X w0 w a cb bf k m n sts) (d : Int) : Calls Tryz.prog 18 #[.pointer (some ⟨a, 0, none⟩), .int .i64 d] w fun e w' => (∃ E : Int, e = .returned (.int .i64 E)) ∧ MX X w0 w' a cb bf k m n (failA n sts d) ∧ KpX X w w' := (fail_m h d).mono fun _ _ ⟨h1, h2, h3⟩ => ⟨⟨_, h1⟩, h2, h3⟩
theorem repl_e (h : MX X w0 w a cb bf k m n sts) (d : Int) : Calls Tryz.prog 49 #[.pointer (some ⟨a, 0, none⟩), .int .i64 d] w fun e w' => (∃ E : Int, e = .returned (.int .i64 E)) ∧ MX X w0 w' a cb bf k m n (replA n sts d) ∧ KpX X w w' := (repl_m h d).mono fun _ _ ⟨h1, h2, h3⟩ => ⟨⟨_, h1⟩, h2, h3⟩
end
theorem int_at31 {S : Nat → Prop} {w : World} {A : Option Addr} {L : Nat} {ps : List Int} (h : RdL IntR 1 S w A L ps) {i : Nat} (hi : i < L) : ∃ b o x, A = some ⟨b, o, none⟩ ∧ ps[i]? = some x ∧ b < w.heap.size ∧ w.cell? ⟨b, o + i, none⟩ = some (.int .i64 x) := by
  obtain ⟨b, o, rfl, hS, hlt⟩ := h.addr hi
  obtain ⟨hl, cs, h1, h2, h3⟩ := h.at hi
  have h4 : cs = [.int .i64 (ps[i])] := h2
  subst h4
  refine ⟨b, o, ps[i], rfl, by simp [hl], hlt, ?_⟩
  simpa using h3 0 _ rfl
set_option maxRecDepth 100000 in
set_option maxHeartbeats 64000000 in
theorem all31_any {w : World} {k m s : Int} {A1 A2 A3 A4' : Option Addr} {L c1 n2 c2 n3 c3 n4 c4' : Nat} {ps : List Pt} {first dead rot : List Int} (R1 : Hid (RdL PtR 2 (fun _ => True) w A1 L ps)) (hc1 : L ≤ c1) (R2 : Hid (RdL IntR 1 (fun _ => True) w A2 n2 first)) (R3 : Hid (RdL IntR 1 (fun _ => True) w A3 n3 dead)) (R4 : Hid (RdL IntR 1 (fun _ => True) w A4' n4 rot)) :
    Calls Tryz.prog 10 #[.agg (geoC k m s), .slice A1 L c1, .slice A2 n2 c2, .slice A3 n3 c3, .slice A4' n4 c4'] w fun e w' => e = .returned (.bool true) ∧ Below w.heap.size w w' := by
  have hsm := fun w => small_any (w := w) k m s
  have bG := BoxAt.new w (geoC k m s) 23
  have hb0 : Below w.heap.size w (w.alloc (.cells (geoC k m s) 23)) := (Below.refl _ _).alloc (Nat.le_refl _) _
  obtain ⟨q, hq⟩ : ∃ q, w.heap.size = q := ⟨_, rfl⟩
  go_enter Tryz.func10, Tryz.ntmps10
  unfold geoC at hsm bG hb0 ⊢
  go_wp2_with fail
  obtain ⟨wA, hwA⟩ : ∃ wA, w.alloc (.cells #[.int .i64 k, .int .i64 m, .int .i64 s] 23) = wA := ⟨_, rfl⟩
  rw [hwA] at bG hb0 ⊢
  have HB0 := Lib.hid hb0
  rw [hq] at bG
  clear hwA hq hb0
  cases hs : smallB k m s with
  | false =>
    rw [hs] at hsm
    refine (hsm _).mono ?_
    clear hsm
    rintro e w1 ⟨rfl, hb1⟩
    have HB1 := Lib.hid (HB0.out.trans (hb1.mono HB0.out.size))
    go_wp2_with fail
    refine scrubs_any.mono ?_
    rintro e wz ⟨rfl, hbz⟩
    go_wp2_with fail
    go_ret
    exact ⟨rfl, HB1.out.trans (hbz.mono HB1.out.size)⟩
  | true =>
    rw [hs] at hsm
    refine (hsm _).mono ?_
    clear hsm
    rintro e w1 ⟨rfl, hb1⟩
    obtain ⟨k, m, s, rfl, rfl, rfl, k1, m1, km, s1, s8⟩ := small_nat hs
    clear hs
    have HB1 := Lib.hid (HB0.out.trans (hb1.mono HB0.out.size))
    have bG1 := bG.below hb1
    have c1g : w1.cell? ⟨q, 0, none⟩ = some (.int .i64 (k : Int)) ∧ w1.cell? ⟨q, 1, none⟩ = some (.int .i64 (m : Int)) ∧ w1.cell? ⟨q, 2, none⟩ = some (.int .i64 (s : Int)) := ⟨bG1.cell 0, bG1.cell 1, bG1.cell 2⟩
    have hss := ssmall_any (k := k) (m := m) (s := s) (c := c1) (R1.out.below PtR.stable HB1.out) (by omega)
    have BG1 := Lib.hid bG1
    have HBY := Lib.hid (pt_byt R1.out)
    unfold geoC at hss
    clear hb1 bG HB0 bG1
    cases hsp : smallP k (s : Int) ps with
    | false =>
      rw [hsp] at hss
      go_wp2_with fail
      refine hss.mono ?_
      clear hss c1g
      rintro e w2 ⟨rfl, hb2⟩
      have HB2 := Lib.hid (HB1.out.trans (hb2.mono HB1.out.size))
      go_wp2_with fail
      refine scrubs_any.mono ?_
      rintro e wz ⟨rfl, hbz⟩
      go_wp2_with fail
      go_ret
      exact ⟨rfl, HB2.out.trans (hbz.mono HB2.out.size)⟩
    | true =>
      rw [hsp] at hss
      have HPT := Lib.hid (ptOk_small s8 hsp (pt_gen R1.out) HBY.out)
      obtain ⟨l1, l2, _⟩ := smallP_ok s8 hsp
      rw [R1.out.1] at l1 l2
      clear hsp
      go_wp2_with fail
      refine hss.mono ?_
      clear hss c1g
      rintro e w2 ⟨rfl, hb2⟩
      have HB2 := Lib.hid (HB1.out.trans (hb2.mono HB1.out.size))
      have BG2 := Lib.hid (BG1.out.below hb2)
      clear hb2 BG1
      by_cases g2 : (n2 : Int) > 20
      · go_wp2_with fail
        refine scrubs_any.mono ?_
        rintro e wz ⟨rfl, hbz⟩
        go_wp2_with fail
        go_ret
        exact ⟨rfl, HB2.out.trans (hbz.mono HB2.out.size)⟩
      by_cases g3 : (n3 : Int) > 20
      · go_wp2_with fail
        refine scrubs_any.mono ?_
        rintro e wz ⟨rfl, hbz⟩
        go_wp2_with fail
        go_ret
        exact ⟨rfl, HB2.out.trans (hbz.mono HB2.out.size)⟩
      by_cases g4 : (n4 : Int) > 40
      · go_wp2_with fail
        refine scrubs_any.mono ?_
        rintro e wz ⟨rfl, hbz⟩
        go_wp2_with fail
        go_ret
        exact ⟨rfl, HB2.out.trans (hbz.mono HB2.out.size)⟩
      have hmd := made_m (w0 := w2) (w := w2) (k := k) (m := m) (n := s) (Below.refl _ _) k1 m1 (by omega) s1 (by omega)
      have c2g : w2.cell? ⟨q, 0, none⟩ = some (.int .i64 (k : Int)) ∧ w2.cell? ⟨q, 1, none⟩ = some (.int .i64 (m : Int)) ∧ w2.cell? ⟨q, 2, none⟩ = some (.int .i64 (s : Int)) := ⟨BG2.out.cell 0, BG2.out.cell 1, BG2.out.cell 2⟩
      unfold geoC at hmd
      go_wp2_with fail
      refine hmd.mono ?_
      clear hmd c2g
      rintro e w3 ⟨a, cb, bf, rfl, hM3, hb3⟩
      have hR3 := RdL.bound PtR.stable (R1.out.below PtR.stable HB2.out)
      have hla := laid_any (c := c1) hM3 (hR3.below PtR.stable hb3) (fun j hj => hj.2) HPT.out
      have HB3 := Lib.hid (HB2.out.trans (hb3.mono HB2.out.size))
      have BG3 := Lib.hid (BG2.out.below hb3)
      have BG2lt := Lib.hid BG2.out.lt
      have HI3 := Lib.hid (RdL.bound IntR.stable (R3.out.below IntR.stable HB2.out))
      have HI4 := Lib.hid (RdL.bound IntR.stable (R4.out.below IntR.stable HB2.out))
      have HJ3 := Lib.hid (HI3.out.below IntR.stable hb3)
      have HJ4 := Lib.hid (HI4.out.below IntR.stable hb3)
      have HP2 := Lib.hid (hR3)
      have HP3 := Lib.hid (hR3.below PtR.stable hb3)
      clear hM3 hb3 hR3 BG2
      go_wp2_with fail
      refine hla.mono ?_
      clear hla
      rintro e w4 ⟨A4, c4, sts, rfl, hc4, hM4, hK4, hR4, hQ4, hS4, hV4⟩
      have HR4 := Lib.hid hR4
      have HM4 := Lib.hid hM4
      have HQ4 := Lib.hid hQ4
      have HS4 := Lib.hid hS4
      have HV4 := Lib.hid hV4
      have HK4 := Lib.hid hK4
      have BG4 := Lib.hid (hK4.box BG3.out BG2lt.out)
      have e1 : ((L : Int) != (L : Int)) = false := by simp
      have q0 : (L : Int) ≤ 8 := by omega
      have q1 : (1 : Int) ≤ (L : Int) := by omega
      have q2 : (k : Int) + (m : Int) ≤ 10 := by omega
      have q3 : (0 : Int) ≤ (k : Int) := by omega
      have q4 : (0 : Int) ≤ (m : Int) := by omega
      have c4g : w4.cell? ⟨q, 0, none⟩ = some (.int .i64 (k : Int)) ∧ w4.cell? ⟨q, 1, none⟩ = some (.int .i64 (m : Int)) := ⟨BG4.out.cell 0, BG4.out.cell 1⟩
      have hsn := snew_any (w := w4)
      clear hM4 hK4 hR4 hQ4 hV4 hS4 BG3
      go_wp2_with fail
      refine hsn.mono ?_
      clear hsn c4g
      rintro e w7 ⟨sc, rfl, hs6, bS, hb7⟩
      obtain ⟨X, hX⟩ : ∃ X : Nat → Prop, (fun j => j < w2.heap.size ∨ RwX (.slice A4 L c4) j) = X := ⟨_, rfl⟩
      have HM4' := HM4
      rw [hX] at HM4'
      have hXs : ∀ j, X j → j < w4.heap.size := fun j hj => HM4'.out.lt hj
      have HM7 := Lib.hid ((HM4'.out.below hb7).sub (Y := fun j => X j ∨ j = sc) (fun j hj => by
        rcases hj with h | h
        · exact .inl h
        · have := bS.lt; exact .inr (by omega)))
      have HX4 := Lib.hid (show ∀ j, RwX (.slice A4 L c4) j → X j by rw [← hX]; exact fun j hj => .inr hj)
      have HXW := Lib.hid (show ∀ j, j < w2.heap.size → X j by rw [← hX]; exact fun j hj => .inl hj)
      have HSX := Lib.hid (show ¬ X sc from fun h => by have := hXs sc h; omega)
      have HS0 := Lib.hid (show w2.heap.size ≤ sc from Nat.le_trans (HM4'.out.bel.size) hs6)
      have HK7 := Lib.hid (show KpX X w4 w7 from KpX.of_below hb7 hXs)
      have BS7 := Lib.hid (show BoxAt w7 sc (scS L 0) from bS)
      have HXP := Lib.hid (show KpX (fun j => j < w2.heap.size) w3 w4 from HK4.out)
      clear hs6 bS hb7 hX hXs HM4 HM4'
      have HNN : Hid (k + m = k + m) := Lib.hid rfl
      go_wp2_with fail
      -- the first steps
      go_loopw [16] (fun vi wr => ∃ i : Nat, i ≤ n2 ∧ vi = .int .i64 i ∧ Hid (MX (fun j => X j ∨ j = sc) w2 wr a cb bf k m s sts) ∧ Hid (KpX X w4 wr) ∧ Hid (BoxAt wr sc (scS L i))) (fun vi _ => n2 - (intOf vi).toNat)
      case atStart => exact ⟨0, Nat.zero_le _, rfl, HM7, HK7, BS7⟩
      case round =>
        clear HM7 HK7 BS7
        obtain ⟨i, hi, rfl, HM, HK, HB⟩ := hrel
        have p0 : (0 : Int) ≤ (i : Int) := Int.natCast_nonneg _
        by_cases hlt : i < n2
        · have p1 : (i : Int) < (n2 : Int) := by omega
          have hst := sstep_whole (c := c4) HM.out HB.out HSX.out HS0.out (HK.out.rd RfIR.stable HR4.out HX4.out) hc4 (by omega) (by omega) (by omega) (by have := around_pt ps; rw [R1.out.1] at this; exact this) R1.out.1 HPT.out HQ4.out HV4.out
          obtain ⟨x, hxe⟩ : ∃ x, ptR ps (i % L) = x := ⟨_, rfl⟩
          rw [hxe] at hst
          obtain ⟨xk, xp, xg⟩ := x
          unfold RfI.C at hst
          dsimp only at hst
          clear hxe
          go_wp2_with fail
          refine hst.mono ?_
          clear hst
          rintro e w8 ⟨rfl, hM8, hK8, hB8⟩
          have hbW : Below w8.heap.size w8 (w8.alloc (.cells #[.int .u8 xk, .int .i64 xp, .int .u64 xg] 38)) := (Below.refl _ _).alloc (Nat.le_refl _) _
          have HM9 := Lib.hid (hM8.below' hbW)
          have HK9 := Lib.hid ((HK.out.trans hK8).trans (KpX.of_below hbW fun j hj => hM8.lt (.inl hj)))
          have HB9 := Lib.hid (hB8.below hbW)
          clear hM8 hK8 hB8 HM HK HB hbW
          go_wp2_with fail
          exact ⟨⟨i + 1, by omega, by go_num, HM9, HK9, HB9⟩, by simp [intOf]; omega⟩
        · have p1 : ¬ (i : Int) < (n2 : Int) := by omega
          obtain rfl : i = n2 := by omega
          have HL4 := Lib.hid (show ∃ gs, LsI (fun j => X j ∨ j = sc) w2 wr a cb bf k m s ps gs from ⟨_, sts, HM.out, HQ4.out, HV4.out, rtv_sld (N := k + m) HS4.out HPT.out⟩)
          clear HM HQ4 HV4 HS4
          go_wp2_with fail
          -- rot
          go_loopw [20] (fun vi wt => ∃ r : Nat, r ≤ n4 ∧ vi = .int .i64 r ∧ Hid (∃ gs, LsI (fun j => X j ∨ j = sc) w2 wt a cb bf k m s ps gs) ∧ Hid (KpX X w4 wt) ∧ Hid (BoxAt wt sc (scS L i))) (fun vi _ => n4 - (intOf vi).toNat)
          case atStart => exact ⟨0, Nat.zero_le _, rfl, HL4, HK, HB⟩
          case round =>
            clear HL4 HK HB
            obtain ⟨r, hr, rfl, HL, HK, HB⟩ := hrel
            have r0 : (0 : Int) ≤ (r : Int) := Int.natCast_nonneg _
            by_cases hrl : r < n4
            · have r1 : (r : Int) < (n4 : Int) := by omega
              obtain ⟨b, o, x, eA, hx, hxb, x0⟩ := int_at31 ((HXP.out.trans (HK.out.mono HXW.out)).rd IntR.stable HJ4.out (fun j hj => hj.2)) hrl
              subst eA
              obtain ⟨z, hz⟩ : ∃ z : Nat, max 0 (min x (8 * ((k : Int) + (m : Int)) - 1)) = (z : Int) := ⟨(max 0 (min x (8 * ((k : Int) + (m : Int)) - 1))).toNat, by omega⟩
              have hz8 : z ≤ 79 := by omega
              have hzN : z / 8 < k + m := by omega
              obtain ⟨gs, hL⟩ := HL.out
              have hrt := hL.rot HPT.out (d := z / 8) (z := z % 8) hzN
              have m1 : Int.tdiv (z : Int) 8 = ((z / 8 : Nat) : Int) := by rw [Int.tdiv_eq_ediv_of_nonneg (by omega)]; rfl
              have m2 : Int.tmod (z : Int) 8 = ((z % 8 : Nat) : Int) := by rw [Int.tmod_eq_emod_of_nonneg (by omega)]; rfl
              obtain ⟨zd, hzd⟩ : ∃ zd, z / 8 = zd := ⟨_, rfl⟩
              obtain ⟨zm, hzm⟩ : ∃ zm, z % 8 = zm := ⟨_, rfl⟩
              rw [hzd] at m1 hrt
              rw [hzm] at m2 hrt
              have z0 : (0 : Int) ≤ (z : Int) := by omega
              have z1 : (z : Int) ≤ 79 := by omega
              have d0 : (0 : Int) ≤ (zd : Int) := by omega
              have d1 : (zd : Int) ≤ 79 := by omega
              have d2 : (0 : Int) ≤ (zm : Int) := by omega
              have d3 : (zm : Int) ≤ 79 := by omega
              clear hx hzd hzm hzN hL HL
              go_wp2_with fail
              refine hrt.mono ?_
              clear hrt
              rintro e w8 ⟨⟨E, rfl⟩, hI8, hK8⟩
              have HL8 := Lib.hid (show ∃ gs, LsI (fun j => X j ∨ j = sc) w2 w8 a cb bf k m s ps gs from ⟨_, hI8⟩)
              have HB8 := Lib.hid (hK8.box HB.out (.inr rfl))
              have HK8 := Lib.hid (HK.out.trans (hK8.mono fun j hj => .inl hj))
              clear hI8 hK8 HB HK x0 hz m1 m2
              go_wp2_with fail
              exact ⟨⟨r + 1, by omega, by go_num, HL8, HK8, HB8⟩, by simp [intOf]; omega⟩
            · have r1 : ¬ (r : Int) < (n4 : Int) := by omega
              obtain rfl : r = n4 := by omega
              have HF := Lib.hid (show ∃ gs sts, MX (fun j => X j ∨ j = sc) w2 wr a cb bf k m s sts ∧ Qt s (k + m) sts ∧ Vws k (k + m) ps gs sts from by
                obtain ⟨gs, sts, h1, h2, h3, _⟩ := HL.out
                exact ⟨gs, sts, h1, h2, h3⟩)
              clear HL
              go_wp2_with fail
              -- the dead
              go_loopw [22] (fun vi wt => ∃ d : Nat, d ≤ n3 ∧ vi = .int .i64 d ∧ Hid (∃ gs sts, MX (fun j => X j ∨ j = sc) w2 wt a cb bf k m s sts ∧ Qt s (k + m) sts ∧ Vws k (k + m) ps gs sts) ∧ Hid (KpX X w4 wt) ∧ Hid (BoxAt wt sc (scS L i))) (fun vi _ => n3 - (intOf vi).toNat)
              case atStart => exact ⟨0, Nat.zero_le _, rfl, HF, HK, HB⟩
              case round =>
                clear HF HK HB
                obtain ⟨d, hd, rfl, HF, HK, HB⟩ := hrel
                have d0 : (0 : Int) ≤ (d : Int) := Int.natCast_nonneg _
                by_cases hdl : d < n3
                · have d1 : (d : Int) < (n3 : Int) := by omega
                  obtain ⟨b, o, x, eA, hx, hxb, x0⟩ := int_at31 ((HXP.out.trans (HK.out.mono HXW.out)).rd IntR.stable HJ3.out (fun j hj => hj.2)) hdl
                  subst eA
                  obtain ⟨gs, sts', hM, hQ, hV⟩ := HF.out
                  have HFS := Lib.hid (fr_step hQ hV HPT.out x)
                  have hf := fail_e hM x
                  have HBX := Lib.hid (show X b from by
                    obtain ⟨b', o', e, hS, _⟩ := HI3.out.addr hdl
                    injection e with e
                    injection e with e _ _
                    subst e
                    exact HXW.out _ hS.2)
                  clear hx hQ hV hM HF
                  go_wp2_with fail
                  refine hf.mono ?_
                  clear hf
                  rintro e w8 ⟨⟨E8, rfl⟩, hM8, hK8⟩
                  have x1 : w8.cell? ⟨b, o + d, none⟩ = some (.int .i64 x) := (World.cell?_of_block (hK8.1 b (.inl HBX.out))).trans x0
                  have hrp := repl_e hM8 x
                  have HB8 := Lib.hid (hK8.box HB.out (.inr rfl))
                  have HK8 := Lib.hid (HK.out.trans (hK8.mono fun j hj => .inl hj))
                  clear x0 hM8 hK8 HB HK hxb
                  go_wp2_with fail
                  refine hrp.mono ?_
                  clear hrp x1
                  rintro e w9 ⟨⟨E9, rfl⟩, hM9, hK9⟩
                  have HF9 := Lib.hid (show ∃ gs sts, MX (fun j => X j ∨ j = sc) w2 w9 a cb bf k m s sts ∧ Qt s (k + m) sts ∧ Vws k (k + m) ps gs sts from ⟨_, _, hM9, HFS.out.1, HFS.out.2⟩)
                  have HB9 := Lib.hid (hK9.box HB8.out (.inr rfl))
                  have HK9 := Lib.hid (HK8.out.trans (hK9.mono fun j hj => .inl hj))
                  clear hM9 hK9 HB8 HK8 HFS
                  go_wp2_with fail
                  exact ⟨⟨d + 1, by omega, by go_num, HF9, HK9, HB9⟩, by simp [intOf]; omega⟩
                · have d1 : ¬ (d : Int) < (n3 : Int) := by omega
                  obtain rfl : d = n3 := by omega
                  obtain ⟨gs, sts, hM, hQ, hV⟩ := HF.out
                  have HM := Lib.hid hM
                  have HQ := Lib.hid hQ
                  have HV := Lib.hid hV
                  have HRr := Lib.hid (HK.out.rd RfIR.stable HR4.out HX4.out)
                  have HWH := Lib.hid (show ∀ j r, (ptRs ps)[j]? = some r → WhC wr (.pointer (some ⟨a, 0, none⟩)) (.pointer (some ⟨cb, 0, none⟩)) r (gs j) (k + m) from fun j r hj => by
                    have hjl : j < ps.length := by rw [← ptRs_len]; exact (List.getElem?_eq_some_iff.1 hj).1
                    rw [ptRs_at ps hjl] at hj
                    obtain rfl := Option.some.inj hj
                    obtain ⟨p, hpj⟩ : ∃ p, ps[j]? = some p := ⟨_, List.getElem?_eq_getElem hjl⟩
                    exact hM.whc (HPT.out.ref hpj) (HPT.out.hgen hpj) (HPT.out.byt p (List.mem_of_getElem? hpj)) (HPT.out.sz p (List.mem_of_getElem? hpj)) (hV j p hpj) (ptR_C hpj) rfl)
                  have HCN := Lib.hid hM.cnt
                  have hwi := lwithin_any (c := c4) HRr.out (by omega) HCN.out (by omega) HWH hM.cmt
                  have hwt := fun W (hW : Below wr.heap.size wr W) => ltotal_any (c := c4) (HRr.out.below RfIR.stable hW) (by omega) (HCN.out.below hW) (show k + m ≤ 255 by omega) (Lib.hid fun j r hj => (HWH.out j r hj).below hW)
                  have HWT := Lib.hid hwt
                  clear hM hQ hV HF hwt HWH HCN
                  by_cases hwn : maxM gs (k + m) L ≤ m
                  · rw [decide_eq_true hwn] at hwi
                    have HMX := Lib.hid (show ∀ p, p < L → misN gs (k + m) p ≤ m from fun p hp => Nat.le_trans (maxM_at hp) hwn)
                    clear hwn
                    go_wp2_with fail
                    refine hwi.mono ?_
                    clear hwi
                    rintro e w8 ⟨rfl, hb8⟩
                    have hto := HWT.out w8 hb8
                    have HM8 := Lib.hid (HM.out.below' hb8)
                    have HK8 := Lib.hid (HK.out.trans (KpX.of_below hb8 fun j hj => HM.out.lt (.inl hj)))
                    have HB8 := Lib.hid (HB.out.below hb8)
                    clear hb8 HM HK HB HWT
                    go_wp2_with fail
                    refine hto.mono ?_
                    clear hto
                    rintro e w9 ⟨rfl, hb9⟩
                    have HM9 := Lib.hid (HM8.out.below' hb9)
                    have HK9 := Lib.hid (HK8.out.trans (KpX.of_below hb9 fun j hj => HM8.out.lt (.inl hj)))
                    have HB9 := Lib.hid (HB8.out.below hb9)
                    obtain ⟨T, hT⟩ : ∃ T, sumM gs (k + m) L = T := ⟨_, rfl⟩
                    rw [hT]
                    have HT := Lib.hid (show partM gs (k + m) L i L = T by rw [partM_all gs (k + m) l1 i]; exact hT)
                    have hTl : T ≤ 80 := by
                      have h1 := sumM_le gs (k + m) L
                      have h2 : L * (k + m) ≤ 8 * 10 := Nat.mul_le_mul (by omega) (by omega)
                      omega
                    have hTi : (T : Int) ≤ 80 := by omega
                    clear hb9 HM8 HK8 HB8 hT
                    go_wp2_with fail
                    have hscl : sc < w9.heap.size := HB9.out.lt
                    have HBS := Lib.hid (show ∃ B, w9.heap.size = B from ⟨_, rfl⟩)
                    obtain ⟨B, hBe⟩ := HBS.out
                    have HBE := Lib.hid hBe
                    have HSB := Lib.hid (show sc < B by omega)
                    have HXB := Lib.hid (show ∀ j, X j → j < B from fun j hj => by rw [← hBe]; exact HM9.out.lt (.inl hj))
                    have H0 := Lib.hid (show ∃ sts, MX (fun j => (X j ∨ RwX (.slice none 0 0) j) ∨ j = sc) w2 w9 a cb bf k m s sts ∧ Qt s (k + m) sts ∧ Vws k (k + m) ps (visG gs L i 0) sts from ⟨sts, HM9.out.sub fun j hj => by
                      rcases hj with (h | h) | h
                      · exact .inl h
                      · cases h
                      · exact .inr h, HQ.out, HV.out⟩)
                    clear hscl hBe HM9
                    -- once round
                    go_loopw [23, 24, 25] (fun vm vo vj wt => ∃ (j : Nat) (A6 : Option Addr) (c6 : Nat), j ≤ L ∧ vj = .int .i64 j ∧ vo = .slice A6 j c6 ∧ j ≤ c6 ∧ vm = .int .i64 ((T : Int) - (partM gs (k + m) L i j : Nat)) ∧ Hid (∃ sts, MX (fun j2 => (X j2 ∨ RwX (.slice A6 j c6) j2) ∨ j2 = sc) w2 wt a cb bf k m s sts ∧ Qt s (k + m) sts ∧ Vws k (k + m) ps (visG gs L i j) sts) ∧ Hid (KpX X w4 wt) ∧ Hid (BoxAt wt sc (scS L (i + j))) ∧ Hid (OwnL RfIR 38 3 B NoB wt (.slice A6 j c6) j (metL ps L i j)) ∧ Hid (B ≤ wt.heap.size)) (fun _ _ vj _ => L - (intOf vj).toNat)
                    case atStart => exact ⟨0, none, 0, Nat.zero_le _, rfl, rfl, Nat.le_refl _, by simp [partM], H0, HK9, HB9, Lib.hid (by exact OwnL.nil_), Lib.hid (by rw [HBE.out]; exact Nat.le_refl _)⟩
                    case round =>
                      clear H0 HK9 HB9
                      obtain ⟨j, A6, c6, hj, rfl, rfl, hjc, rfl, HS, HK, HB, HO, HBW⟩ := hrel
                      have j0 : (0 : Int) ≤ (j : Int) := Int.natCast_nonneg _
                      have hpm := partM_mono gs (k + m) L i j L hj
                      rw [HT.out] at hpm
                      obtain ⟨pj, hpj⟩ : ∃ pj, partM gs (k + m) L i j = pj := ⟨_, rfl⟩
                      rw [hpj] at hpm ⊢
                      have HPJ := Lib.hid hpj
                      have t0 : (0 : Int) ≤ (pj : Int) := by omega
                      have t1 : (pj : Int) ≤ (T : Int) := by omega
                      clear hpj
                      by_cases hjl : j < L
                      · have j1 : (j : Int) < (L : Int) := by omega
                        obtain ⟨sts, hM, hQ, hV⟩ := HS.out
                        have hol := HO.out.lt
                        have hst := sstep_mend (X := fun j2 => X j2 ∨ RwX (.slice A6 j c6) j2) (c := c4) hM HB.out (fun h => h.elim HSX.out (fun h => by have := (hol sc h.symm).1; have := HSB.out; omega)) HS0.out (HK.out.rd RfIR.stable HR4.out HX4.out) hc4 (by omega) (by omega) (by omega) (by have := around_pt ps; rw [R1.out.1] at this; exact this) R1.out.1 HPT.out hQ hV (by
                          rw [← home_add]
                          have h1 := mis_cnt (visG gs L i j) (k + m) (homeN L i j)
                          have h2 := mis_congr (gs := visG gs L i j) (gs' := gs) (N := k + m) (p := homeN L i j) (fun x _ => visG_at hjl x)
                          have h3 := HMX.out (homeN L i j) (homeN_lt (by omega))
                          omega)
                        rw [← home_add, mis_congr (gs := visG gs L i j) (gs' := gs) (N := k + m) (p := homeN L i j) (fun x _ => visG_at hjl x)] at hst
                        have HPN := Lib.hid (show partM gs (k + m) L i (j + 1) = pj + misN gs (k + m) (homeN L i j) by rw [partM, HPJ.out])
                        have hpm2 := partM_mono gs (k + m) L i (j + 1) L (by omega)
                        rw [HT.out, HPN.out] at hpm2
                        obtain ⟨mm, hmm⟩ : ∃ mm, misN gs (k + m) (homeN L i j) = mm := ⟨_, rfl⟩
                        rw [hmm] at hst HPN hpm2
                        obtain ⟨x, hxe⟩ : ∃ x, ptR ps (homeN L i j) = x := ⟨_, rfl⟩
                        have hx3 : x.kind = 3 ∧ x.place = ((homeN L i j : Nat) : Int) := by rw [← hxe]; exact ⟨rfl, rfl⟩
                        rw [hxe] at hst
                        have HXE := Lib.hid hxe
                        obtain ⟨xk, xp, xg⟩ := x
                        obtain ⟨rfl, rfl⟩ := hx3
                        obtain ⟨h, hh⟩ : ∃ h, homeN L i j = h := ⟨_, rfl⟩
                        rw [hh] at hst HXE
                        have HH := Lib.hid hh
                        unfold RfI.C at hst
                        dsimp only at hst
                        have mm0 : (0 : Int) ≤ (mm : Int) := by omega
                        have mm1 : (mm : Int) ≤ (T : Int) - (pj : Int) := by omega
                        clear hxe hM hQ hV HS hol hmm hh
                        go_wp2_with fail
                        refine hst.mono ?_
                        clear hst
                        rintro e w8 ⟨sts', rfl, hM8, hK8, hB8, hQ8, hV8⟩
                        obtain ⟨W, hW⟩ : ∃ W, w8.alloc (.cells #[.int .u8 3, .int .i64 (h : Int), .int .u64 xg] 38) = W := ⟨_, rfl⟩
                        obtain ⟨y, hy⟩ : ∃ y, w8.heap.size = y := ⟨_, rfl⟩
                        have hbW : Below w8.heap.size w8 W := by rw [← hW]; exact (Below.refl _ _).alloc (Nat.le_refl _) _
                        have BY := Lib.hid (show BoxAt W y #[.int .u8 3, .int .i64 (h : Int), .int .u64 xg] by rw [← hW, ← hy]; exact BoxAt.new _ _ _)
                        have hO8 := OwnL.kpL (S' := NoB) RfIR.stable HO.out (hK8.mono (Y := RwX (.slice A6 j c6)) fun j hj => .inr hj) (fun g hg => hg.symm) (fun b hb hl => hb.elim)
                        have HOW := Lib.hid (hO8.keep RfIR.stable hbW)
                        have HMW := Lib.hid (hM8.below' hbW)
                        have HVW := Lib.hid (show Qt s (k + m) sts' ∧ Vws k (k + m) ps (visG gs L i (j + 1)) sts' from ⟨hQ8, fun i2 p hi2 => (hV8 i2 p hi2).congr fun x _ => by have := visG_next gs L i j i2 x; rw [HH.out] at this; exact this.symm⟩)
                        have HKW := Lib.hid ((HK.out.trans (hK8.mono fun j hj => .inl hj)).trans (KpX.of_below hbW fun j hj => hM8.lt (.inl (.inl hj))))
                        have HBB := Lib.hid (hB8.below hbW)
                        have HZW := Lib.hid (Nat.le_trans HBW.out (Nat.le_trans hK8.2 hbW.size))
                        clear hM8 hK8 hB8 hQ8 hV8 hbW hO8 HK HB HO HBW
                        go_wp2_with fail
                        -- is it new?
                        go_loopw [29] (fun vi wt => ∃ u : Nat, u ≤ j ∧ vi = .int .i64 u ∧ Hid (Below W.heap.size W wt)) (fun vi _ => j - (intOf vi).toNat)
                        case atStart => exact ⟨0, Nat.zero_le _, rfl, Lib.hid (Below.refl _ _)⟩
                        case round =>
                          obtain ⟨u, hu, rfl, HBI⟩ := hrel
                          have u0 : (0 : Int) ≤ (u : Int) := Int.natCast_nonneg _
                          have bYi := BY.out.below HBI.out
                          have y0 : wr.cell? ⟨y, 0, none⟩ = some (.int .u8 3) := bYi.cell 0
                          have y1 : wr.cell? ⟨y, 1, none⟩ = some (.int .i64 (h : Int)) := bYi.cell 1
                          have y2 : wr.cell? ⟨y, 2, none⟩ = some (.int .u64 xg) := bYi.cell 2
                          have hyl := bYi.lt
                          by_cases hul : u < j
                          · have u1 : (u : Int) < (j : Int) := by omega
                            obtain ⟨A9, c9, e9, _, hr9⟩ := OwnL.rd (S' := fun _ => True) (HOW.out.keep RfIR.stable HBI.out) (fun _ _ => trivial) (fun cs x hx => hx)
                            injection e9 with e91 _ e92
                            subst e91; subst e92
                            obtain ⟨b9, o9, x, eA, hx, hbl, _, x0, x1, x2⟩ := rfi_at hr9 hul
                            subst eA
                            rw [metL_at ps L i hul] at hx
                            have hx9 : x.kind = 3 ∧ x.place = ((homeN L i u : Nat) : Int) := by rw [← Option.some.inj hx]; exact ⟨rfl, rfl⟩
                            have hne : homeN L i u ≠ h := by rw [← HH.out]; exact fun e => by have := home_inj (show u < L by omega) hjl e; omega
                            obtain ⟨h9, hh9⟩ : ∃ h9, homeN L i u = h9 := ⟨_, rfl⟩
                            rw [hh9] at hx9 hne
                            obtain ⟨xk, xp, xg9⟩ := x
                            obtain ⟨rfl, rfl⟩ := hx9
                            dsimp only at x0 x1 x2
                            have f1 : ((h9 : Int) == (h : Int)) = false := by
                              have : (h9 : Int) ≠ (h : Int) := by omega
                              simpa using this
                            clear hx hh9 hr9 bYi
                            go_wp2_with fail
                            refine wp_region_later (by kernel_rfl) (by kernel_rfl) ?_
                            repeat (go_big_quiet_step (fail))
                            refine wpQuiet_nil ?_
                            rintro _ ⟨z, rfl⟩
                            have HBz := Lib.hid (HBI.out.trans (z.ok.mono HBI.out.size))
                            clear y0 y1 y2 x0 x1 x2
                            go_wp2_with fail
                            exact ⟨⟨u + 1, by omega, by go_num, HBz⟩, by simp [intOf]; omega⟩
                          · have u1 : ¬ (u : Int) < (j : Int) := by omega
                            obtain rfl : u = j := by omega
                            have HOi := Lib.hid (HOW.out.keep RfIR.stable HBI.out)
                            have HMi := Lib.hid (HMW.out.below' HBI.out)
                            have HKi := Lib.hid (HKW.out.trans (KpX.of_below HBI.out fun j hj => HMW.out.lt (.inl (.inl hj))))
                            have HBi := Lib.hid (HBB.out.below HBI.out)
                            have hbs : B ≤ wr.heap.size := Nat.le_trans HZW.out HBI.out.size
                            clear bYi HOW HMW HKW HBB HBI
                            go_wp2_with (at_builtin; go_must (refine wpList_push1 RfIR.stable RfIR.one sl_rfi (by rfl) (by rfl) (base := B) (S := NoB) (cs := #[.int .u8 3, .int .i64 (h : Int), .int .u64 xg]) (y := ⟨3, h, xg⟩) (by rfl) (by rfl) HOi.out (by rfl) (by rfl) (by unfold maxLen; omega) (by omega) hbs ?_); intro A8 c8 ug hc8 own9 hlt8 hb8 hat8; have HO9 := Lib.hid own9; have HU9 := Lib.hid ug.ok; have HA9 := Lib.hid hat8; have HL9 := Lib.hid hlt8; clear own9 hb8 hat8 hlt8)
                            have hlo := HOi.out.lt
                            have hscn : some sc ≠ Value.ownBlock (.slice A6 u c6) := fun e => by have := (hlo sc e.symm).1; have := HSB.out; omega
                            have hM9 := (HMi.out.ownN (Keep.of_grown HU9.out) (fun j hj => ⟨.inl (.inr hj), by have := (hlo j hj.symm).1; have := HSB.out; have := HS0.out; omega⟩)).sub (Y := fun j => (X j ∨ RwX (.slice A8 (u + 1) c8) j) ∨ j = sc) (fun j hj => by
                              rcases hj with (h | h) | h
                              · exact .inl (.inl (.inl h))
                              · have h1 := HO9.out.lt j h.symm
                                rcases HA9.out with e | e
                                · exact .inl (.inl (.inr (by unfold RwX at h ⊢; rw [h, e])))
                                · have h2 : some j = some (wr.heap.size + 1) := by rw [← e]; exact h
                                  injection h2 with h2
                                  exact .inr ⟨by omega, h1.2⟩
                              · exact .inl (.inr h))
                            have hK9 : KpX X w4 ug.to := HKi.out.trans ⟨fun j hj => HU9.out.block j (HMi.out.lt (.inl (.inl hj))) (fun e => by
                              have h1 := (hlo j e.symm).1
                              have h2 := HXB.out j hj
                              omega), HU9.out.size⟩
                            have e2 : metL ps L i (u + 1) = metL ps L i u ++ [⟨3, (h : Int), xg⟩] := by
                              rw [metL_next, HH.out, HXE.out]
                            have e3 : i + (u + 1) = i + u + 1 := rfl
                            refine ⟨⟨u + 1, A8, c8, by omega, by go_num, rfl, hc8, ?_, Lib.hid ⟨sts', hM9, HVW.out⟩, Lib.hid hK9, Lib.hid ?_, Lib.hid (by rw [e2]; exact HO9.out), Lib.hid (by have := HU9.out.size; omega)⟩, by simp [intOf]; omega⟩
                            · rw [HPN.out]; push_cast; congr 1; omega
                            · rw [e3]
                              exact HBi.out.grw HU9.out hscn
                      · have j1 : ¬ (j : Int) < (L : Int) := by omega
                        obtain rfl : j = L := by omega
                        obtain rfl : pj = T := by have h1 := HPJ.out; have h2 := HT.out; omega
                        obtain ⟨sts, hM, hQ, hV⟩ := HS.out
                        have hMX := hM.sub (Y := X) fun j hj => .inl (.inl hj)
                        have hcr := crash_m hMX (hQ.cache (by omega)) (S := NoB) (A := none) (g := 0) (c := 0) (ks := []) RdL.nil (fun j hj => hj.elim)
                        rw [hQ.crash] at hcr
                        have HV := Lib.hid (show Vws k (k + m) ps (fun _ _ => true) sts from fun i2 p hi2 => (hV i2 p hi2).congr fun x _ => (visG_all (by rw [← R1.out.1]; exact (List.getElem?_eq_some_iff.1 hi2).1) x).symm)
                        have HQ := Lib.hid hQ
                        clear hM hQ hV hMX HS HO HB
                        go_wp2_with fail
                        refine hcr.mono ?_
                        clear hcr
                        rintro e w8 ⟨rfl, hM8, hK8⟩
                        have HM8 := Lib.hid hM8
                        have HK8 := Lib.hid (HK.out.trans hK8)
                        clear hM8 hK8 HK
                        go_wp2_with fail
                        -- what was put is got
                        go_loopw [30] (fun vi wt => ∃ u : Nat, u ≤ j ∧ vi = .int .i64 u ∧ Hid (MX X w2 wt a cb bf k m s sts) ∧ Hid (KpX X w4 wt)) (fun vi _ => j - (intOf vi).toNat)
                        case atStart => exact ⟨0, Nat.zero_le _, rfl, HM8, HK8⟩
                        case round =>
                          clear HM8 HK8
                          obtain ⟨u, hu, rfl, HM, HK⟩ := hrel
                          have u0 : (0 : Int) ≤ (u : Int) := Int.natCast_nonneg _
                          by_cases hul : u < j
                          · have u1 : (u : Int) < (j : Int) := by omega
                            obtain ⟨p, hpu⟩ : ∃ p, ps[u]? = some p := ⟨_, List.getElem?_eq_getElem (by rw [R1.out.1]; exact hul)⟩
                            obtain ⟨b5, o5, x, e5, hx, hbl, _, x0, x1, x2⟩ := rfi_at (HK.out.rd RfIR.stable HR4.out HX4.out) hul
                            subst e5
                            rw [ptRs_at ps (by rw [R1.out.1]; exact hul)] at hx
                            have hgt := get_view (g := fun _ => true) (xs := p.2) HM.out.mid (HPT.out.ref hpu) (HPT.out.hgen hpu) (HPT.out.byt p (List.mem_of_getElem? hpu)) (HPT.out.sz p (List.mem_of_getElem? hpu)) (HV.out u p hpu)
                            rw [cntP_all, ← ptR_C hpu, Option.some.inj hx] at hgt
                            have HRP := Lib.hid ((HXP.out.trans (HK.out.mono HXW.out)).rd PtR.stable HP3.out (fun j hj => hj.2))
                            obtain ⟨xk, xp, xg⟩ := x
                            unfold RfI.C at hgt
                            dsimp only at hgt x0 x1 x2
                            obtain ⟨pl, hpl⟩ : ∃ pl, p.2.length = pl := ⟨_, rfl⟩
                            rw [hpl] at hgt
                            clear hx hpl
                            go_wp2_with fail
                            refine hgt.mono ?_
                            clear hgt x0 x1 x2
                            rintro e w9 ⟨hb9, ⟨hlt9, _⟩ | ⟨_, A9, c9, rfl, hc9, hr9⟩⟩
                            · omega
                            · obtain ⟨b, o, p2, A3', n3', c3', eA, hp2, hbl3, _, v0, v1, hc3', hr3'⟩ := pt_at (HRP.out.below PtR.stable hb9) hul
                              subst eA
                              rw [hpu] at hp2
                              obtain rfl := Option.some.inj hp2
                              have t1 := fun (y : Later w9.heap.size w9) => text_run (c := c9) (hr9.below ByR.stable y.ok)
                              have t2 := fun (y : Later w9.heap.size w9) => text_run (c := c3') (hr3'.below ByR.stable y.ok)
                              have HM9 := Lib.hid (HM.out.below' hb9)
                              have HK9 := Lib.hid (HK.out.trans (KpX.of_below hb9 fun j hj => HM.out.lt hj))
                              clear hb9 hr9 hr3' hp2 HM HK
                              go_wp2_with fail
                              refine wp_region_later (by kernel_rfl) (by kernel_rfl) ?_
                              repeat (go_big_quiet_step (fail))
                              refine wpQuiet_nil ?_
                              rintro _ ⟨z, rfl⟩
                              have HMz := Lib.hid (HM9.out.below' z.ok)
                              have HKz := Lib.hid (HK9.out.trans (KpX.of_below z.ok fun j hj => HM9.out.lt hj))
                              clear t1 t2 v0 v1
                              go_wp2_with fail
                              exact ⟨⟨u + 1, by omega, by go_num, HMz, HKz⟩, by simp [intOf]; omega⟩
                          · have u1 : ¬ (u : Int) < (j : Int) := by omega
                            obtain rfl : u = j := by omega
                            have hto := ltotal_any (c := c4) (gs := fun _ _ => true) (HK.out.rd RfIR.stable HR4.out HX4.out) (by omega) HM.out.cnt (show k + m ≤ 255 by omega) (Lib.hid fun j r hj => by
                              have hjl : j < ps.length := by rw [← ptRs_len]; exact (List.getElem?_eq_some_iff.1 hj).1
                              rw [ptRs_at ps hjl] at hj
                              obtain rfl := Option.some.inj hj
                              obtain ⟨p, hpj⟩ : ∃ p, ps[j]? = some p := ⟨_, List.getElem?_eq_getElem hjl⟩
                              exact HM.out.whc (HPT.out.ref hpj) (HPT.out.hgen hpj) (HPT.out.byt p (List.mem_of_getElem? hpj)) (HPT.out.sz p (List.mem_of_getElem? hpj)) (HV.out j p hpj) (ptR_C hpj) rfl)
                            rw [sum_all (k + m) (fun _ _ _ => rfl)] at hto
                            have hz : (((pj : Int) - (pj : Int)) == 0) = true := by simp
                            go_wp2_with fail
                            refine hto.mono ?_
                            clear hto
                            rintro e w9 ⟨rfl, hb9⟩
                            have HBE := Lib.hid (HB2.out.trans ((HM.out.below' hb9).bel.mono HB2.out.size))
                            clear hb9
                            go_wp2_with fail
                            refine scrubs_any.mono ?_
                            rintro e wz ⟨rfl, hbz⟩
                            go_wp2_with fail
                            go_ret
                            exact ⟨rfl, HBE.out.trans (hbz.mono HBE.out.size)⟩
                  · rw [decide_eq_false hwn] at hwi
                    go_wp2_with fail
                    refine hwi.mono ?_
                    clear hwi
                    rintro e w8 ⟨rfl, hb8⟩
                    have HB8 := Lib.hid (HB2.out.trans ((HM.out.below' hb8).bel.mono HB2.out.size))
                    go_wp2_with fail
                    refine scrubs_any.mono ?_
                    rintro e wz ⟨rfl, hbz⟩
                    go_wp2_with fail
                    go_ret
                    exact ⟨rfl, HB8.out.trans (hbz.mono HB8.out.size)⟩
end
section
open Go.ChangeShapes Go.WideShapes Go.ChangeAt Go.Deep
theorem opens_by : Opens Tryz.prog 5 ByR 1 :=
  ⟨by kernel_rfl, by omega, fun H enc w base spare held fuel cs x _ hx => by
    obtain ⟨n, rfl, _, hw⟩ := DataW.trod_int Tryz.underlying5 hx
    have h2 : 0 ≤ n ∧ n ≤ 255 := by
      simp [Lit.wf, IntKind.min, IntKind.max, IntKind.signed, IntKind.bits] at hw
      omega
    exact ⟨n.toNat, by omega, by rw [show ((n.toNat : Nat) : Int) = n by omega]⟩⟩
theorem u64_bounds {z : Int} (h : (Lit.int .u64 z).wf = true) : 0 ≤ z ∧ z < 18446744073709551616 := by
  simp [Lit.wf, IntKind.min, IntKind.max, IntKind.bits, IntKind.signed] at h
  omega
set_option maxRecDepth 100000 in
theorem open_geo {H : Type} {enc : TypeId × Value → H} {w : World} {base b0 : Nat} {spare : Nat → Bool} {held : Bool} {r : Reach} {v : Value} {d : DataW H} {ps : List MemPlace}
    (hval : Value.okWide Tryz.prog w r b0 23 v) (h : DataW.Trod enc Tryz.prog w base spare held 23 v d ps) : ∃ k m s : Int, v = .agg #[.int .i64 k, .int .i64 m, .int .i64 s] := by
  obtain ⟨cs, rfl, hsz⟩ := okWide_struct Tryz.underlying23 hval
  obtain ⟨fuel, hx⟩ := h
  have h5 : cs.size = 3 := hsz.trans (by kernel_rfl)
  have hl : (Value.agg cs).cells.toList.length = 3 := by simpa [Value.cells] using h5
  obtain ⟨xs, n, _, _, hlen, hxl, hf⟩ := DataW.trod_struct Tryz.underlying23 hx
  have e0 : (Value.agg cs).cells.toList = cs.toList := rfl
  rw [e0] at hf hl
  match hc : cs.toList, hl with
  | [c0, c1, c2], _ =>
    rw [hc] at hf
    have f0 := hf 0 _ rfl
    have f1 := hf 1 _ rfl
    have f2 := hf 2 _ rfl
    have k1 : Tryz.prog.cellsOf 3 = 1 := by kernel_rfl
    have hx3 : xs.length = 3 := hxl
    simp only [List.getElem_toArray, List.getElem_cons_zero, List.getElem_cons_succ, k1, List.drop_zero, List.drop_succ_cons, List.take_succ_cons, List.take_zero] at f0 f1 f2
    rw [List.getElem?_eq_getElem (by omega)] at f0 f1 f2
    obtain ⟨s, e1, _, _⟩ := DataW.trod_int Tryz.underlying3 f0
    obtain ⟨t, e2, _, _⟩ := DataW.trod_int Tryz.underlying3 f1
    obtain ⟨u, e3, _, _⟩ := DataW.trod_int Tryz.underlying3 f2
    simp only [List.cons.injEq, and_true] at e1 e2 e3
    subst e1; subst e2; subst e3
    refine ⟨s, t, u, ?_⟩
    rw [show cs = cs.toList.toArray by simp, hc]
end
section
open Go.ChangeShapes Go.WideShapes Go.ChangeAt Go.Deep
theorem sl_pt31 : Tryz.prog.underlying 58 = some (.slice 104) := by kernel_rfl
set_option maxRecDepth 100000 in
theorem opens_pt31 : Opens Tryz.prog 104 PtR 2 := by
  refine ⟨by kernel_rfl, by omega, fun H enc w base spare held fuel cs x hl hx => ?_⟩
  obtain ⟨xs, n, _, _, hlen, hxl, hf⟩ := DataW.trod_struct Tryz.underlying104 hx
  match cs, hl with
  | [c0, c1], _ =>
    have f0 := hf 0 _ rfl
    have f1 := hf 1 _ rfl
    have k1 : Tryz.prog.cellsOf 36 = 1 := by kernel_rfl
    have k2 : Tryz.prog.cellsOf 68 = 1 := by kernel_rfl
    have hx3 : xs.length = 2 := hxl
    simp only [List.getElem_toArray, List.getElem_cons_zero, List.getElem_cons_succ, k1, k2, List.drop_zero, List.drop_succ_cons, List.take_succ_cons, List.take_zero] at f0 f1
    rw [List.getElem?_eq_getElem (by omega)] at f0 f1
    obtain ⟨g, e1, _, wg⟩ := DataW.trod_int Tryz.underlying36 f0
    obtain ⟨A, n2, c, ys, e2, hnc, _, hr⟩ := opens_slice sl_by.und opens_by f1
    simp only [List.cons.injEq, and_true] at e1 e2
    subst e1; subst e2
    obtain ⟨h0, h1⟩ := u64_bounds wg
    exact ⟨(g.toNat, ys), A, n2, c, by show [_, _] = [Value.int .u64 ((g.toNat : Nat) : Int), _]; rw [show ((g.toNat : Nat) : Int) = g by omega], hnc, hr, by show g.toNat < 2 ^ 64; omega⟩
end
end Go.Proofs.YtihnlhfngmbglaaGreat
