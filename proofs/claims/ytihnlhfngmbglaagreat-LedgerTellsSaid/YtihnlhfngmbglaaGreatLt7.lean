/-
  A shard of a stripe is written.
  Shards of a stripe are written.
  A stripe is put.
  The document's product, bit by bit, and its quotient: plain, and as they are computed.
  The document's quotient, a factor of its code, a row of it, and rows added.
  The document's rows of a code, rows added, rows times a number.
  The document's shard of data.
  The document's sum: ref02.Sum is crc.Sum.
  Numbers read out of bytes, whatever is asked; by the reference, too.
  Which shards of a stripe are whole.
  A stripe is mended.
  Which shard lies on which drive; what whole shards of one stripe give: plain.
  What a drive's sector gives as a shard: plain.
  The drives behind the writes of a stripe's shards: plain.
  Drives and a coder in the midst of a law.
  A law's drives and coder are made.
  A stripe in a law: what Get, Whole and Put give.
  Drives that have a stripe's shard, and drives that lost it.
-/
import Derived.Test.YtihnlhfngmbglaaGreatLt6
import Derived.Test.YtihnlhfngmbglaaGreatLt5
import Derived.Laws.IdiomCopy
import Derived.Test.YtihnlhfngmbglaaGreatLt4
set_option linter.unusedSimpArgs false
set_option linter.unusedVariables false
namespace Go.Proofs.YtihnlhfngmbglaaGreat
open Go.RowKit Go.Cib
attribute [local go_sem] cell_set Later.cell Later.frozen Grw.cell Grw.frozen
section
theorem AUpd.pre {U : Nat → Prop} {w w1 w2 : World} {a s : Nat} {sts : List DSt} (hb : Below w.heap.size w w1) (h : AUpd U w1 w2 a s sts) : AUpd U w w2 a s sts := AUpd.trans (fun _ h _ => h) (Keep.of_below hb) h
/-- The bytes of a shard, as they are written. -/
def wrI (x : Shd) : List Int := (sncS x).map fun b : Nat => (b : Int)
def shR (r : Ref) (i size : Nat) (row : List Nat) : Shd := ⟨r.kind, i, r.place, r.gen, size, row⟩
theorem setC_below {B : Nat} {w w' : World} (h : Below B w w') (hB : B ≤ w'.heap.size) {p : Nat} (hp : B ≤ p) (o : Nat) (vs : List Value) : Below B w (w'.setCells p o vs) :=
  h.trans ((setCells_keep w' p o vs).below hB (fun k e => by rw [e]; exact hp))
attribute [local go_sem ↓] shut_loadS shut_zeroS shut_buildS shut_storeS
attribute [local go_sem] run_zeroS
section
variable {U : Nat → Prop} {w : World} {a n s cb size : Nat} {v : Value} {Fs : Nat → Nat → Prop} {ps : List Nat} {sts : List DSt} {r : Ref}
set_option maxRecDepth 100000 in
set_option maxHeartbeats 8000000 in
theorem swrite_any (hS : BoxAt w s (setC a cb r)) (h : Hid (ArrB U w a v Fs ps n sts)) (hl1 : 1 ≤ sts.length) (hl2 : sts.length ≤ 255) (hr : r.ok n) (hn : n ≤ 60000) (hg : Hid (r.gen < 2 ^ 64)) {i : Nat} (hi : i < sts.length) (hsz : size ≤ 60000) {A : Option Addr} {c : Nat} {S : Nat → Prop} {row : List Nat} (R : RdL ByR 1 S w A 44 row) {st : DSt} (hst : sts[homeN sts.length r.place i]? = some st) (hcl : st.cache.length < 1000000) (hnU : ¬ U s) :
    Calls Tryz.prog 145 #[.pointer (some ⟨s, 0, none⟩), .int .i64 (i : Int), .int .i64 (size : Int), .slice A 44 c] w fun e w' => e = .returned (.bool (!st.dead)) ∧ AUpd U w w' a n (sts.set (homeN sts.length r.place i) (wrDA n st (r.place : Int) (wrI (shR r i size row)))) := by
  have hp := hr.p
  have hSd : BoxAt w.drew s (setC a cb r) := hS.keep rfl
  have s0 : w.drew.cell? ⟨s, 2, none⟩ = some (.int .u8 (r.kind : Int)) ∧ w.drew.cell? ⟨s, 3, none⟩ = some (.int .i64 (r.place : Int)) ∧ w.drew.cell? ⟨s, 4, none⟩ = some (.int .u64 (r.gen : Int)) := ⟨hSd.cell 2, hSd.cell 3, hSd.cell 4⟩
  have hbd : Below w.heap.size w w.drew := (Below.refl _ _).drew
  have b1 := BoxAt.new w.drew (shC sh0) 193
  have hb1 : Below w.heap.size w (w.drew.alloc (.cells (shC sh0) 193)) := hbd.alloc hbd.size _
  have hS1 := hS.below hb1
  obtain ⟨W1, hW1⟩ : ∃ W, w.drew.alloc (.cells (shC sh0) 193) = W := ⟨_, rfl⟩
  rw [hW1] at b1 hb1 hS1
  obtain ⟨q, hq⟩ : ∃ q, w.drew.heap.size = q := ⟨_, rfl⟩
  have hqw : w.heap.size = q := hq
  rw [hq] at b1
  have s1 : W1.cell? ⟨s, 2, none⟩ = some (.int .u8 (r.kind : Int)) ∧ W1.cell? ⟨s, 3, none⟩ = some (.int .i64 (r.place : Int)) ∧ W1.cell? ⟨s, 4, none⟩ = some (.int .u64 (r.gen : Int)) := ⟨hS1.cell 2, hS1.cell 3, hS1.cell 4⟩
  have hx0 : (⟨r.kind, i, r.place, r.gen, size, z44⟩ : Shd).body.length = 44 := z44_len
  have hst1 := run_storeS (y := ⟨r.kind, i, r.place, r.gen, size, z44⟩) b1 sh0_ok.l hx0
  have b2 := shC_set (y := ⟨r.kind, i, r.place, r.gen, size, z44⟩) b1 sh0_ok.l hx0
  have hb2 := setS_below hb1 (p := q) (by omega) (shV ⟨r.kind, i, r.place, r.gen, size, z44⟩)
  have hS2 := hS.below hb2
  obtain ⟨W2, hW2⟩ : ∃ W, W1.setCells q 0 (shV ⟨r.kind, i, r.place, r.gen, size, z44⟩) = W := ⟨_, rfl⟩
  rw [hW2] at hst1 b2 hb2 hS2
  have s2 : W2.cell? ⟨s, 2, none⟩ = some (.int .u8 (r.kind : Int)) ∧ W2.cell? ⟨s, 3, none⟩ = some (.int .i64 (r.place : Int)) ∧ W2.cell? ⟨s, 4, none⟩ = some (.int .u64 (r.gen : Int)) := ⟨hS2.cell 2, hS2.cell 3, hS2.cell 4⟩
  have hbl := run_build5 r.kind i r.place r.gen size
  have m1 : IntKind.u8.wrap (i : Int) = (i : Int) := by rw [IntKind.wrap_u8]; omega
  have m2 : IntKind.u16.wrap (r.place : Int) = (r.place : Int) := by rw [IntKind.wrap_u16]; omega
  have m3 : IntKind.u16.wrap (size : Int) = (size : Int) := by rw [IntKind.wrap_u16]; omega
  have H := h
  have HBS := Lib.hid hS
  have HR := Lib.hid R
  have HST := Lib.hid hst
  have HSZ := Lib.hid (show i < 256 ∧ r.place < 65536 ∧ size < 65536 by omega)
  clear hS hSd h R hst hS1 hbd
  go_enter Tryz.func145, Tryz.ntmps145
  go_wp2_with fail
  refine wp_region_held_drew (S := fun w' => w'.cell? ⟨s, 2, none⟩ = some (.int .u8 (r.kind : Int)) ∧ w'.cell? ⟨s, 3, none⟩ = some (.int .i64 (r.place : Int)) ∧ w'.cell? ⟨s, 4, none⟩ = some (.int .u64 (r.gen : Int))) (by kernel_rfl) (by first | exact s0 | exact s1 | exact s2) (fun hHeld => ?_)
  refine tkH 0 rfl ?_
  refine tkH 1 rfl ?_
  refine tkH 2 rfl ?_
  refine tkH 3 rfl ?_
  refine tkH 4 rfl ?_
  refine tkH 5 rfl ?_
  refine tkH 6 rfl ?_
  refine tkH 7 rfl ?_
  refine tkH 8 rfl ?_
  refine tkH 9 rfl ?_
  refine tkH 10 rfl ?_
  refine tkH 11 rfl ?_
  refine tkH 12 rfl ?_
  refine tkH 13 rfl ?_
  refine tkH 14 rfl ?_
  refine tkH 15 rfl ?_
  refine tkH 16 rfl ?_
  refine tkH 17 rfl ?_
  refine tkH 18 rfl ?_
  refine tkH 19 rfl ?_
  refine tkH 20 rfl ?_
  refine rdH 21 rfl fun K hK => ?_
  try simp (maxSteps := 2000000) only [zz1, zz2, zz3]
  go_simp
  refine hK.out _ _ (by first | exact s0 | exact s1 | exact s2) (fun hHeld => ?_)
  clear hK K
  try simp (maxSteps := 2000000) only [zz1, zz2, zz3, Act.put, zz4, zz5, zz6]
  refine rdH 22 rfl fun K hK => ?_
  try simp (maxSteps := 2000000) only [zz1, zz2, zz3]
  go_simp
  refine hK.out _ _ (by first | exact s0 | exact s1 | exact s2) (fun hHeld => ?_)
  clear hK K
  try simp (maxSteps := 2000000) only [zz1, zz2, zz3, Act.put, zz4, zz5, zz6]
  refine wpAnyH_done (by kernel_rfl) ?_ _
  obtain ⟨bb, o, rfl, _, _⟩ := HR.out.addr (k := 0) (by omega)
  have R2 := HR.out.below ByR.stable hb2
  have hrl : row.length = 44 := R2.1
  have hby := by_byt R2
  have hcl2 : (row.map fun b : Nat => Value.int .u8 (b : Int)).length = 44 := by rw [List.length_map, hrl]
  have hcp : ∀ ty, (Builtin.copy_ #[68, 68] ty #[.slice (some ⟨q, 5, none⟩) 44 44, .slice (some ⟨bb, o, none⟩) 44 c]).run Tryz.prog W2 = .ok (goInt 44) (W2.setCells q 5 (row.map fun b : Nat => Value.int .u8 (b : Int))) := fun ty => by
    have h9 := run_copy_cells (P := Tryz.prog) W2 68 68 ty 5 q 5 44 44 ⟨bb, o, none⟩ 44 c (row.map fun b : Nat => Value.int .u8 (b : Int)) (sl_by).und (by kernel_rfl) (by rw [hcl2]; rfl) (fun j v hj => by rw [Addr.add_lit]; exact by_range R2 j v hj) (fun j hj => by
      rw [hcl2] at hj
      rw [b2.cell, Array.getElem?_eq_getElem (by rw [shC_size hx0]; omega)]; rfl) (fun j hj => by simp [b2.frozen (5 + j)]) (fun u hu => by
      obtain ⟨y, _, rfl⟩ := List.mem_map.1 hu
      rfl)
    rw [hcl2] at h9
    exact h9
  have b3 := shC_body b2 hx0 hrl
  have hb3 := setC_below hb2 hb2.size (p := q) (by omega) 5 (row.map fun b : Nat => Value.int .u8 (b : Int))
  obtain ⟨W3, hW3⟩ : ∃ W, W2.setCells q 5 (row.map fun b : Nat => Value.int .u8 (b : Int)) = W := ⟨_, rfl⟩
  rw [hW3] at hcp b3 hb3
  have hxo : (shR r i size row).ok := ⟨by have := hr.k4; show r.kind < 256; omega, HSZ.out.1, HSZ.out.2.1, hg.out, HSZ.out.2.2, hrl, hby⟩
  have hput := shput_any (w := W3) hxo
  have hld := run_loadS (w := W3) (x := shR r i size row) b3 hrl
  have hkb : kindB (shR r i size row).kind = true := decide_eq_true ⟨hr.k1, hr.k4⟩
  have HKB := Lib.hid hkb
  have HSL := Lib.hid (sncS_len (x := shR r i size row) hrl)
  clear s0 s1 s2 b1 hst1 b2 hb1 hb2 hS2 hbl m1 m2 m3 hHeld R2 hby hcl2 hxo hkb hrl hx0 hW1 hW2
  go_wp2_with fail
  refine hput.mono ?_
  clear hput hcp hld
  rintro e w4 ⟨hb4, ⟨hk, _⟩ | ⟨_, A6, c6, rfl, hc6, hr6⟩⟩
  · exact absurd (hk.symm.trans HKB.out) (by decide)
  have hw4 := hb3.trans (hb4.mono hb3.size)
  have hS4 := HBS.out.below hw4
  have hu6 := by_u8 hr6
  have HU6 := Lib.hid hu6
  have hsz4 : w.heap.size ≤ W3.heap.size := hb3.size
  clear b3 hb3 hW3 hb4 hr6 hu6
  have hd4 : Below w.heap.size w w4.drew := hw4.drew
  have hSd : BoxAt w4.drew s (setC a cb r) := hS4.keep rfl
  have s0 : w4.drew.cell? ⟨s, 0, none⟩ = some (.pointer (some ⟨a, 0, none⟩)) ∧ w4.drew.cell? ⟨s, 3, none⟩ = some (.int .i64 (r.place : Int)) := ⟨hSd.cell 0, hSd.cell 3⟩
  have hH := shome_any hSd (Lib.hid (H.out.below hd4)) hl1 (by omega) i
  have hwr := fun w' (hb : Below w.heap.size w w') hb2 => awrite_in (w := w') (Lib.hid (H.out.below hb)) (homeN sts.length r.place i) HST.out (r.place : Int) (A := A6) (m := 64) (c := c6) (bs := wrI (shR r i size row)) (S := fun j => W3.heap.size ≤ j) hb2 (fun b hS hU => by have := H.out.lt b hU; have hS' : W3.heap.size ≤ b := hS; omega) hcl
  obtain ⟨d, hde⟩ : ∃ d, homeN sts.length r.place i = d := ⟨_, rfl⟩
  rw [hde] at hH hwr
  have HDE := Lib.hid hde
  obtain ⟨E, hE⟩ : ∃ E, writeE st.dead n (r.place : Int) 64 = E := ⟨_, rfl⟩
  rw [hE] at hwr
  have hEd : (E == 0) = !st.dead := by
    rw [← hE]
    unfold writeE readyE
    cases st.dead with
    | true => rfl
    | false => simp [hp]
  have HED := Lib.hid hEd
  clear hd4 hE hEd hde hS4
  go_wp2_with fail
  refine wp_region_held_drew (S := fun w' => w'.cell? ⟨s, 0, none⟩ = some (.pointer (some ⟨a, 0, none⟩)) ∧ w'.cell? ⟨s, 3, none⟩ = some (.int .i64 (r.place : Int))) (by kernel_rfl) (by first | exact s0 | exact s5 | exact s6) (fun hHeld => ?_)
  refine tkH 0 rfl ?_
  refine tkH 1 rfl ?_
  refine tkH 2 rfl ?_
  refine tkH 3 rfl ?_
  refine tkH 4 rfl ?_
  refine tkH 5 rfl ?_
  refine tkH 6 rfl ?_
  refine tkH 7 rfl ?_
  refine tkH 8 rfl ?_
  refine tkH 10 rfl ?_
  refine tkH 11 rfl ?_
  refine tkH 12 rfl ?_
  refine tkH 13 rfl ?_
  refine tkH 14 rfl ?_
  refine tkH 15 rfl ?_
  refine rdH 9 rfl fun K hK => ?_
  try simp (maxSteps := 2000000) only [zz1, zz2, zz3]
  go_simp
  go_at_call 169
  refine hH.mono ?_
  clear hH
  rintro e w5 ⟨rfl, hb5⟩
  have hS5 := hSd.below hb5
  have s5 : w5.cell? ⟨s, 0, none⟩ = some (.pointer (some ⟨a, 0, none⟩)) ∧ w5.cell? ⟨s, 3, none⟩ = some (.int .i64 (r.place : Int)) := ⟨hS5.cell 0, hS5.cell 3⟩
  have hw5 : Below w.heap.size w w5 := hw4.drew.trans (hb5.mono hw4.drew.size)
  have hu5 := HU6.out.below U8R.stable (show Below w4.heap.size w4 w5 from (Below.refl _ _).drew.trans hb5)
  try (go_wp2_with fail)
  refine hK.out _ _ (by first | exact s0 | exact s5 | exact s6) (fun hHeld => ?_)
  clear hK K
  try simp (maxSteps := 2000000) only [zz1, zz2, zz3, Act.put, zz4, zz5, zz6]
  refine rdH 16 rfl fun K hK => ?_
  try simp (maxSteps := 2000000) only [zz1, zz2, zz3]
  go_simp
  go_at_call 181
  refine (hwr _ hw5 (Lib.hid hu5)).mono ?_
  clear hwr
  rintro e w6 ⟨rfl, hup⟩
  have hS6 := hS5.keeps hup.choose_spec.2.2 hnU
  have s6 : w6.cell? ⟨s, 0, none⟩ = some (.pointer (some ⟨a, 0, none⟩)) ∧ w6.cell? ⟨s, 3, none⟩ = some (.int .i64 (r.place : Int)) := ⟨hS6.cell 0, hS6.cell 3⟩
  have HUP := Lib.hid (AUpd.pre hw5 hup)
  clear hup
  try (go_wp2_with fail)
  refine hK.out _ _ (by first | exact s0 | exact s5 | exact s6) (fun hHeld => ?_)
  clear hK K
  try simp (maxSteps := 2000000) only [zz1, zz2, zz3, Act.put, zz4, zz5, zz6]
  refine tkH 17 rfl ?_
  refine tkH 18 rfl ?_
  refine tkH 19 rfl ?_
  refine wpAnyH_done (by kernel_rfl) ?_ _
  go_wp2_with fail
  go_ret
  exact ⟨by rw [← HED.out]; rfl, by rw [HDE.out]; exact HUP.out⟩
end
end
section
theorem AUpd.post {U : Nat → Prop} {w w1 w2 : World} {a s : Nat} {sts : List DSt} (h : AUpd U w w1 a s sts) (hb : Below w1.heap.size w1 w2) : AUpd U w w2 a s sts := by
  obtain ⟨U', hA, hU, hK⟩ := h
  exact AUpd.trans hU hK (hA.upd hb)
/-- What the drives are behind it, and how many shards were taken. -/
def wrS (n : Nat) (r : Ref) (size : Nat) (wh : Nat → Bool) (rw : Nat → List Nat) (sts : List DSt) : Nat → List DSt × Nat
  | 0 => (sts, 0)
  | i + 1 => if wh i = true then match (wrS n r size wh rw sts i).1[homeN sts.length r.place i]? with
      | some st => ((wrS n r size wh rw sts i).1.set (homeN sts.length r.place i) (wrDA n st (r.place : Int) (wrI (shR r i size (rw i)))), (wrS n r size wh rw sts i).2 + (if st.dead = true then 0 else 1))
      | none => wrS n r size wh rw sts i
    else wrS n r size wh rw sts i
section
variable {n size : Nat} {r : Ref} {wh : Nat → Bool} {rw : Nat → List Nat} {sts : List DSt}
theorem wrS_len : ∀ i, (wrS n r size wh rw sts i).1.length = sts.length
  | 0 => rfl
  | i + 1 => by
    have ih := wrS_len i
    rw [wrS]
    split
    · split
      · simp [ih]
      · exact ih
    · exact ih
theorem wrS_skip {i : Nat} (h : wh i = false) : wrS n r size wh rw sts (i + 1) = wrS n r size wh rw sts i := by rw [wrS, if_neg (by simp [h])]
theorem wrS_do {i : Nat} {st : DSt} (h : wh i = true) (hst : (wrS n r size wh rw sts i).1[homeN sts.length r.place i]? = some st) : wrS n r size wh rw sts (i + 1) = ((wrS n r size wh rw sts i).1.set (homeN sts.length r.place i) (wrDA n st (r.place : Int) (wrI (shR r i size (rw i)))), (wrS n r size wh rw sts i).2 + (if st.dead = true then 0 else 1)) := by
  rw [wrS, if_pos h, hst]
theorem wrDA_cache (st : DSt) (z : Int) (bs : List Int) : (wrDA n st z bs).cache.length ≤ st.cache.length + 1 := by
  unfold wrDA DSt.write
  split
  · simp
  · omega
theorem wrS_cache {c : Nat} (hc : ∀ st ∈ sts, st.cache.length < c) : ∀ i, ∀ st ∈ (wrS n r size wh rw sts i).1, st.cache.length < c + i
  | 0, st, h => hc st h
  | i + 1, st, h => by
    have ih := wrS_cache hc i
    rw [wrS] at h
    split at h
    · split at h
      · rename_i st2 h2
        rcases List.mem_or_eq_of_mem_set h with h3 | rfl
        · have := ih st h3; omega
        · have h4 := ih st2 (List.mem_of_getElem? h2)
          have := wrDA_cache (n := n) st2 (r.place : Int) (wrI (shR r i size (rw i)))
          omega
      · have := ih st h; omega
    · have := ih st h; omega
theorem wrS_cnt : ∀ i, (wrS n r size wh rw sts i).2 ≤ i
  | 0 => Nat.le_refl _
  | i + 1 => by
    have ih := wrS_cnt i
    rw [wrS]
    split
    · split
      · show _ + (if _ then 0 else 1) ≤ _
        split <;> omega
      · omega
    · omega
end
section
variable {U : Nat → Prop} {w : World} {a n s cb b k m size : Nat} {sts : List DSt} {r : Ref}
set_option maxRecDepth 100000 in
set_option maxHeartbeats 8000000 in
theorem writes_any (hS : BoxAt w s (setC a cb r)) (hA : ArrAt U w a n sts) (HC : CodAt w cb b k m) (hlen : sts.length = k + m) (hr : r.ok n) (hn : n ≤ 60000) (hg : Hid (r.gen < 2 ^ 64)) (hsz : size ≤ 60000) (hcl : ∀ st ∈ sts, st.cache.length < 900000) (hnU : ¬ U s)
    {g f : FuncId} {cap1 cap2 : Array Value} {wh : Nat → Bool} {rw : Nat → List Nat} (hgg : Hid (∀ args w, (callFunc g args).run Tryz.prog w = .ok (.enter g args) w)) (hff : Hid (∀ args w, (callFunc f args).run Tryz.prog w = .ok (.enter f args) w))
    (hwh : Hid (∀ i W, i < k + m → Keep U w W → Calls Tryz.prog g (#[.int .i64 (i : Int)] ++ cap1) W fun e W' => e = .returned (.bool (wh i)) ∧ Below W.heap.size W W'))
    (hrw : Hid (∀ i W, i < k + m → wh i = true → Keep U w W → Calls Tryz.prog f (#[.int .i64 (i : Int)] ++ cap2) W fun e W' => ∃ A c, e = .returned (.slice A 44 c) ∧ RdL ByR 1 (fun _ => True) W' A 44 (rw i) ∧ Below W.heap.size W W')) :
    Calls Tryz.prog 96 #[.pointer (some ⟨s, 0, none⟩), .int .i64 (size : Int), .func (.func g) #[] cap1, .func (.func f) #[] cap2] w fun e w' => e = .returned (.int .i64 ((wrS n r size wh rw sts (k + m)).2 : Int)) ∧ AUpd U w w' a n (wrS n r size wh rw sts (k + m)).1 := by
  have hkm := HC.km
  have hk1 := HC.k1
  have c1 : w.cell? ⟨s, 1, none⟩ = some (.pointer (some ⟨cb, 0, none⟩)) := hS.cell 1
  have hN := cn_any HC
  have g1 := hgg.out
  have g2 := hff.out
  obtain ⟨N, hNe⟩ : ∃ N, k + m = N := ⟨_, rfl⟩
  rw [hNe] at hN hlen hwh hrw ⊢
  have hN2 : N ≤ 255 := by omega
  have HCL := Lib.hid hcl
  have HS := Lib.hid hS
  have HUP0 := Lib.hid (hA.upd (Below.refl _ _))
  have HLEN := Lib.hid hlen
  have HRO := Lib.hid hr
  have hslt := hS.lt
  clear HC hNe hS hA hcl hlen hr
  go_enter Tryz.func96, Tryz.ntmps96
  go_wp2_with fail
  refine hN.mono ?_
  clear hN
  rintro e w1 ⟨rfl, hb1⟩
  have HUP1 := Lib.hid (show AUpd U w w1 a n (wrS n r size wh rw sts 0).1 from AUpd.post HUP0.out hb1)
  clear hb1 HUP0
  go_wp2_with fail
  go_loopw [9, 16] (fun vs vi wr => ∃ i : Nat, i ≤ N ∧ vi = .int .i64 i ∧ vs = .int .i64 ((wrS n r size wh rw sts i).2 : Nat) ∧ Hid (AUpd U w wr a n (wrS n r size wh rw sts i).1)) (fun _ vi _ => N - (intOf vi).toNat)
  case atStart => exact ⟨0, Nat.zero_le _, rfl, rfl, HUP1⟩
  case round =>
    clear HUP1
    obtain ⟨i, hi, rfl, rfl, HU⟩ := hrel
    have p0 : (0 : Int) ≤ (i : Int) := Int.natCast_nonneg _
    have pc := wrS_cnt (n := n) (size := size) (r := r) (wh := wh) (rw := rw) (sts := sts) i
    have pl := wrS_len (n := n) (size := size) (r := r) (wh := wh) (rw := rw) (sts := sts) i
    have PC := Lib.hid (wrS_cache (n := n) (size := size) (r := r) (wh := wh) (rw := rw) HCL.out i)
    by_cases hlt : i < N
    · have p1 : (i : Int) < (N : Int) := by omega
      obtain ⟨U', ⟨v, Fs, ps, hA⟩, hU', hK⟩ := HU.out
      have hw0 := hwh.out i wr hlt hK
      have hS1 := HS.out.keeps hK hnU
      have hnU' : ¬ U' s := fun hu => hnU (hU' s hu hslt)
      have hd : homeN sts.length r.place i < (wrS n r size wh rw sts i).1.length := by rw [pl]; exact homeN_lt (by have := HLEN.out; omega)
      obtain ⟨st, hst⟩ : ∃ st, (wrS n r size wh rw sts i).1[homeN sts.length r.place i]? = some st := ⟨_, List.getElem?_eq_getElem hd⟩
      have hcs := PC.out st (List.mem_of_getElem? hst)
      have HA := Lib.hid hA
      have HK := Lib.hid hK
      have HS1 := Lib.hid hS1
      have HST := Lib.hid hst
      have HU' := Lib.hid hU'
      cases hwi : wh i with
      | false =>
        have HW := Lib.hid (wrS_skip (n := n) (size := size) (r := r) (rw := rw) (sts := sts) hwi)
        rw [hwi] at hw0
        obtain ⟨cn, hcn⟩ : ∃ cn, (wrS n r size wh rw sts i).2 = cn := ⟨_, rfl⟩
        rw [hcn] at pc ⊢
        have HCN := Lib.hid hcn
        clear hwi hA hK hS1 hst hU' hd pl hcs hcn
        go_wp2_with fail
        refine hw0.mono ?_
        clear hw0
        rintro e w2 ⟨rfl, hb2⟩
        have HU2 := Lib.hid (AUpd.post HU.out hb2)
        clear hb2
        go_wp2_with fail
        exact ⟨⟨i + 1, by omega, by go_num, by rw [HW.out, HCN.out], by rw [HW.out]; exact HU2⟩, by simp [intOf]; omega⟩
      | true =>
        have HW := Lib.hid (wrS_do (n := n) (size := size) (r := r) (rw := rw) (sts := sts) hwi hst)
        rw [hwi] at hw0
        have hr0 := fun W hW => hrw.out i W hlt hwi hW
        obtain ⟨cn, hcn⟩ : ∃ cn, (wrS n r size wh rw sts i).2 = cn := ⟨_, rfl⟩
        rw [hcn] at pc ⊢
        have HCN := Lib.hid hcn
        have q3 : (cn : Int) ≤ 255 := by omega
        have q4 : (0 : Int) ≤ (cn : Int) := Int.natCast_nonneg _
        have PL := Lib.hid pl
        clear hwi hA hK hS1 hst hU' hd pl hcn
        go_wp2_with fail
        refine hw0.mono ?_
        clear hw0
        rintro e w2 ⟨rfl, hb2⟩
        have hK2 : Keep U w w2 := HK.out.trans (Keep.of_below (F := fun _ => False) hb2) (fun _ h _ => h.elim)
        have hr2 := hr0 w2 hK2
        have HB2 := Lib.hid hb2
        clear hr0 hb2
        go_wp2_with fail
        refine hr2.mono ?_
        clear hr2
        rintro e w3 ⟨A, c, rfl, hr3, hb3⟩
        have hb23 := HB2.out.trans (hb3.mono HB2.out.size)
        have hwrt := swrite_any (size := size) (r := r) (i := i) (HS1.out.below hb23) (Lib.hid (HA.out.below hb23)) (by rw [PL.out]; have := HLEN.out; omega) (by rw [PL.out]; have := HLEN.out; omega) HRO.out hn hg (by rw [PL.out, HLEN.out]; exact hlt) hsz (c := c) hr3 (by rw [PL.out]; exact HST.out) (by omega) hnU'
        rw [PL.out] at hwrt
        have HB23 := Lib.hid hb23
        clear hr3 hb3 hb23 HB2 hK2
        go_wp2_with fail
        refine hwrt.mono ?_
        clear hwrt
        rintro e w4 ⟨rfl, hup⟩
        have HU4 := Lib.hid (AUpd.trans HU'.out HK.out (AUpd.pre HB23.out hup))
        clear hup
        obtain ⟨dd, hdd⟩ : ∃ dd, st.dead = dd := ⟨_, rfl⟩
        rw [hdd]
        have HDD := Lib.hid hdd
        clear hdd
        cases dd with
        | true =>
          go_wp2_with fail
          exact ⟨⟨i + 1, by omega, by go_num, by rw [HW.out, HCN.out, if_pos HDD.out]; rfl, by rw [HW.out]; exact HU4⟩, by simp [intOf]; omega⟩
        | false =>
          go_wp2_with fail
          exact ⟨⟨i + 1, by omega, by go_num, by rw [HW.out, HCN.out, if_neg (by rw [HDD.out]; simp)]; go_num, by rw [HW.out]; exact HU4⟩, by simp [intOf]; omega⟩
    · have p1 : ¬ (i : Int) < (N : Int) := by omega
      obtain rfl : N = i := by omega
      go_wp2_with fail
      go_ret
      exact ⟨rfl, HU.out⟩
end
end
section
theorem call_p1 (args : Array Value) (w : World) : (callFunc 97 args).run Tryz.prog w = .ok (.enter 97 args) w := by go_simp
theorem call_p2 (args : Array Value) (w : World) : (callFunc 98 args).run Tryz.prog w = .ok (.enter 98 args) w := by go_simp
set_option maxRecDepth 100000 in
theorem put1_any {w : World} {i : Nat} : Calls Tryz.prog 97 #[.int .i64 (i : Int)] w fun e w' => e = .returned (.bool true) ∧ Below w.heap.size w w' := by
  go_enter Tryz.func97, Tryz.ntmps97
  go_wp2_with fail
  go_ret
  exact ⟨rfl, Below.refl _ _⟩
set_option maxRecDepth 100000 in
theorem put2_any {w : World} {i p N c : Nat} {A : Option Addr} {S : Nat → Prop} {ss : Rws} (hb : BoxAt w p #[.slice A N c]) (R : RdL RowR 1 S w A N ss) (hi : i < N) {l : Nat} (hl : (ra ss i).length = l) :
    Calls Tryz.prog 98 #[.int .i64 (i : Int), .pointer (some ⟨p, 0, none⟩)] w fun e w' => ∃ A c, e = .returned (.slice A l c) ∧ RdL ByR 1 (fun _ => True) w' A l (ra ss i) ∧ Below w.heap.size w w' := by
  obtain ⟨bb, o, rfl, _, hbb⟩ := R.addr hi
  obtain ⟨A1, m1, c1, v1, hmc1, r1⟩ := row_at R hi
  have c0 : w.cell? ⟨p, 0, none⟩ = some (.slice (some ⟨bb, o, none⟩) N c) := hb.cell 0
  have p0 : (0 : Int) ≤ (i : Int) := Int.natCast_nonneg _
  have p1 : (i : Int) < (N : Int) := by omega
  have hm : m1 = l := by rw [← hl]; exact r1.1.symm
  subst hm
  have HR := Lib.hid r1
  clear r1 R hb hl
  go_enter Tryz.func98, Tryz.ntmps98
  go_wp2_with fail
  go_ret
  exact ⟨A1, c1, rfl, HR.out.weaken ByR.stable (fun _ _ => trivial), Below.refl _ _⟩
section
variable {U : Nat → Prop} {w : World} {a n cb b k m len : Nat} {sts : List DSt} {r : Ref}
set_option maxRecDepth 100000 in
set_option maxHeartbeats 8000000 in
theorem sput_any (hA : ArrAt U w a n sts) (HC : CodAt w cb b k m) (hlen : sts.length = k + m) (hr : r.ok n) (hn : n ≤ 60000) (hg : Hid (r.gen < 2 ^ 64)) (hcl : ∀ st ∈ sts, st.cache.length < 900000)
    {A : Option Addr} {c : Nat} {S : Nat → Prop} {xs : List Nat} (R : RdL ByR 1 S w A len xs) (hc : len ≤ c) (hlx : len ≤ k * 44) :
    Calls Tryz.prog 43 #[.pointer (some ⟨a, 0, none⟩), .pointer (some ⟨cb, 0, none⟩), .agg (refC r), .slice A len c] w fun e w' =>
      e = .returned (.tuple #[.int .i64 ((wrS n r len (fun _ => true) (codeRow k 44 (splF 44 xs k k)) sts (k + m)).2 : Int), .int .i64 0]) ∧ AUpd U w w' a n (wrS n r len (fun _ => true) (codeRow k 44 (splF 44 xs k k)) sts (k + m)).1 := by
  have hk1 := HC.k1
  have hkm := HC.km
  have hbx := by_byt R
  have hD := splF_shp (width := 44) hbx k
  have hgo : goodB k k (splF 44 xs k k) = true := by
    unfold goodB
    rw [decide_eq_true rfl, Bool.true_and]
    unfold evB
    rw [List.all_eq_true]
    intro x hx
    rw [decide_eq_true_eq]
    rw [(hD.2 x hx).1, (hD.row (i := 0) (by omega)).1]
  have hl0 : lenF0 (splF 44 xs k k) = 44 := (hD.row (i := 0) (by omega)).1
  have hb0 : Below w.heap.size w (w.alloc (.cells (refC r) 38)) := (Below.refl _ _).alloc (Nat.le_refl _) _
  obtain ⟨v, Fs, ps, hAB⟩ := hA
  have hme := meant_good (Lib.hid (hAB.below hb0)) (HC.below hb0) hlen hr
  have hro := fun w' (hb : Below w.heap.size w w') => room_any (HC.below hb)
  have hsp := fun w' (hb : Below w.heap.size w w') => split_any (w := w') (width := 44) (HC.below hb) (R.below ByR.stable hb) hc (by omega) (by omega) hlx
  have hca := fun w' cs As (S : Nat → Prop) (hb : Below w.heap.size w w') hr5 => call2_any (w := w') (cs := cs) (As := As) (S := S) (N := k) (ss := splF 44 xs k k) (HC.below hb) hr5 (by omega) (fun i => by
    by_cases hi : i < k
    · rw [(hD.row hi).1]; omega
    · unfold ra
      rw [List.getD_eq_getElem?_getD, List.getElem?_eq_none (by rw [hD.1]; omega)]
      exact Nat.zero_le _)
  have hws := fun w' s p A' c' (hb : Below w.heap.size w w') (hS : BoxAt w' s (setC a cb r)) (hs : w.heap.size ≤ s) (hp : BoxAt w' p #[.slice A' (k + m) c']) (hpw : w.heap.size ≤ p) (hr6 : RdL RowR 1 (fun j => w.heap.size ≤ j) w' A' (k + m) (allR k 44 (splF 44 xs k k) (k + m))) =>
    writes_any (w := w') (s := s) (size := len) hS (show ArrAt U w' a n sts from ⟨v, Fs, ps, hAB.below hb⟩) (HC.below hb) hlen hr hn hg (by omega) hcl (fun hu => by have := hAB.lt s hu; omega)
      (g := 97) (f := 98) (cap1 := #[]) (cap2 := #[.pointer (some ⟨p, 0, none⟩)]) (wh := fun _ => true) (rw := codeRow k 44 (splF 44 xs k k)) (Lib.hid call_p1) (Lib.hid call_p2)
      (Lib.hid fun i W hi hK => put1_any (w := W) (i := i))
      (Lib.hid fun i W hi _ hK => by
        have h9 := put2_any (i := i) (hp.keeps hK (fun hu => by have := hAB.lt p hu; omega)) (hr6.keep RowR.stable hK (fun j hj hu => by have := hAB.lt j hu; omega)) hi (l := 44) (by rw [allR_ra hi]; exact (codeRow_ok hD i).1)
        rw [allR_ra hi] at h9
        exact h9)
  have hen : splF 44 xs k k ++ encU k (splF 44 xs k k) (lenF0 (splF 44 xs k k)) m = allR k 44 (splF 44 xs k k) (k + m) := by rw [hl0]; exact allR_enc hD
  have HEN := Lib.hid hen
  have HGO := Lib.hid hgo
  have hlk : ¬ (len : Int) > ((k * 44 : Nat) : Int) := by omega
  have hAlt := hAB.lt
  have HWS := Lib.hid hws
  have HCA := Lib.hid hca
  have HSP := Lib.hid hsp
  clear hAB HC hlen hr hcl R hbx hD hgo hl0 hen hws hca hsp
  obtain ⟨ww, hww⟩ : ∃ ww, ww = wrS n r len (fun _ => true) (codeRow k 44 (splF 44 xs k k)) sts (k + m) := ⟨_, rfl⟩
  rw [← hww] at HWS ⊢
  clear hww
  unfold refC at hme hb0 ⊢
  go_enter Tryz.func43, Tryz.ntmps43
  go_wp2_with fail
  obtain ⟨wA, hwA⟩ : ∃ wA, w.alloc (.cells #[.int .u8 (r.kind : Int), .int .i64 (r.place : Int), .int .u64 (r.gen : Int)] 38) = wA := ⟨_, rfl⟩
  rw [hwA] at hme hb0 ⊢
  refine hme.mono ?_
  clear hme hwA
  rintro e w1 ⟨s, rfl, hs1, bS1, hb1⟩
  have hw1 := hb0.trans (hb1.mono hb0.size)
  have hs : w.heap.size ≤ s := by have := hb0.size; omega
  have hro1 := hro w1 hw1
  have hsp1 := HSP.out w1 hw1
  have HW1 := Lib.hid hw1
  have HS1 := Lib.hid bS1
  clear hb0 hb1 hs1 hro hw1 bS1
  go_wp2_with (go_at_call 93; refine hro1.mono ?_; rintro e w2 ⟨rfl, hw2⟩; rw [hw2]; clear hw2 hro1)
  refine hsp1.mono ?_
  clear hsp1
  rintro e w3 ⟨g3, rfl, hr3, hb3⟩
  have hw3 := HW1.out.trans (hb3.mono HW1.out.size)
  have hca3 := HCA.out w3 k _ _ hw3 hr3
  have HS3 := Lib.hid (HS1.out.below hb3)
  have HW3 := Lib.hid hw3
  clear hw3 hr3 hb3
  go_wp2_with fail
  refine hca3.mono ?_
  clear hca3
  rintro e w4 ⟨hb4, ⟨hB, rfl⟩ | ⟨_, A4, c4, rfl, hc4, hr4⟩⟩
  · exact absurd (hB.symm.trans HGO.out) (by decide)
  rw [HEN.out] at hr4
  have hw4 := HW3.out.trans (hb4.mono HW3.out.size)
  have hsz3 := HW3.out.size
  have hS4 := HS3.out.below hb4
  have b5 := BoxAt.new w4 #[.slice A4 (k + m) c4] 151
  have hb45 : Below w4.heap.size w4 (w4.alloc (.cells #[.slice A4 (k + m) c4] 151)) := (Below.refl _ _).alloc (Nat.le_refl _) _
  have hw5 := hw4.trans (hb45.mono hw4.size)
  obtain ⟨W5, hW5⟩ : ∃ W, w4.alloc (.cells #[.slice A4 (k + m) c4] 151) = W := ⟨_, rfl⟩
  rw [hW5] at b5 hw5 hb45
  have hws5 := HWS.out W5 s w4.heap.size A4 c4 hw5 (hS4.below hb45) hs b5 hw4.size ((hr4.below RowR.stable hb45).weaken RowR.stable (fun j hj => Nat.le_trans hsz3 hj))
  have HW5 := Lib.hid hw5
  obtain ⟨p4, hp4⟩ : ∃ p4, w4.heap.size = p4 := ⟨_, rfl⟩
  rw [hp4] at hws5
  clear b5 hw5 hb45 hr4 hS4 hw4 hb4 HWS HCA HSP HS3 HS1
  go_wp2_with fail
  refine hws5.mono ?_
  clear hws5
  rintro e w6 ⟨rfl, hup⟩
  have HUP := Lib.hid (AUpd.pre HW5.out hup)
  clear hup
  go_wp2_with fail
  go_ret2
  exact ⟨rfl, HUP.out⟩
end
end
section

/-- The product, of the first bits of b. -/
def pm (a b : Nat) : Nat → Nat
  | 0 => 0
  | i + 1 => if b / 2 ^ i % 2 = 1 then pm a b i ^^^ xtn i a else pm a b i
theorem gm_pow {a : Nat} (ha : a < 256) {i : Nat} (hi : i < 8) : gm a (2 ^ i) = xtn i a := by
  have h : ∀ i : Fin 8, 2 ^ i.1 ≠ 0 ∧ 2 ^ i.1 < 256 ∧ lg (2 ^ i.1) = i.1 := by decide +kernel
  obtain ⟨h1, h2, h3⟩ := h ⟨i, hi⟩
  rw [gm_comm, gm_eq h1 ha, h3]
theorem bit_step {b : Nat} (hb : b < 256) {i : Nat} (hi : i < 8) : b % 2 ^ (i + 1) = if b / 2 ^ i % 2 = 1 then b % 2 ^ i ^^^ 2 ^ i else b % 2 ^ i := by
  have h : ∀ (b : Fin 256) (i : Fin 8), b.1 % 2 ^ (i.1 + 1) = if b.1 / 2 ^ i.1 % 2 = 1 then b.1 % 2 ^ i.1 ^^^ 2 ^ i.1 else b.1 % 2 ^ i.1 := by decide +kernel
  exact h ⟨b, hb⟩ ⟨i, hi⟩
theorem pm_eq {a b : Nat} (ha : a < 256) (hb : b < 256) : ∀ i, i ≤ 8 → pm a b i = gm a (b % 2 ^ i)
  | 0, _ => by show 0 = _; rw [Nat.pow_zero, Nat.mod_one, gm_zero]
  | i + 1, hi => by
    have h := pm_eq ha hb i (by omega)
    have h1 : b % 2 ^ i < 256 := Nat.lt_of_le_of_lt (Nat.mod_le _ _) hb
    have h2 : 2 ^ i < 256 := Nat.pow_lt_pow_right (by omega) (by omega : i < 8)
    rw [bit_step hb (by omega)]
    unfold pm
    split
    · rw [h, gm_xor h1 h2, gm_pow ha (by omega)]
    · exact h
theorem pm_gm {a b : Nat} (ha : a < 256) (hb : b < 256) : pm a b 8 = gm a b := by rw [pm_eq ha hb 8 (Nat.le_refl _), show b % 2 ^ 8 = b by omega]
theorem pm_lt {a b : Nat} (ha : a < 256) : ∀ i, pm a b i < 256
  | 0 => by show 0 < 256; omega
  | i + 1 => by
    unfold pm
    split
    · exact xor_lt (pm_lt ha i) (xtn_lt ha i)
    · exact pm_lt ha i
theorem xor_bits64 {a c : Nat} (ha : a < 256) (hc : c < 256) : bits .xor .i64 (a : Int) (c : Int) = ((a ^^^ c : Nat) : Int) := by
  unfold bits
  have h := xor_lt ha hc
  have e : (BitVec.ofInt 64 (a : Int) ^^^ BitVec.ofInt 64 (c : Int)).toNat = a ^^^ c := by
    rw [BitVec.toNat_xor, BitVec.ofInt_natCast, BitVec.ofInt_natCast, BitVec.toNat_ofNat, BitVec.toNat_ofNat, show a % 2 ^ 64 = a by omega, show c % 2 ^ 64 = c by omega]
  show IntKind.i64.wrap ((BitVec.ofInt 64 (a : Int) ^^^ BitVec.ofInt 64 (c : Int)).toNat : Int) = _
  rw [e, IntKind.wrap_i64]
  omega
theorem xt_bits2 {a : Nat} (h : ¬ 2 * a < 256) (ha : a < 256) : bits .xor .i64 (2 * (a : Int)) 285 = (xt a : Int) := by
  rw [Int.mul_comm]; exact xt_bits h ha
set_option maxRecDepth 100000 in
set_option maxHeartbeats 4000000 in
theorem rmul_any {w : World} {a b : Nat} (ha : a < 256) (hb : b < 256) :
    Calls Tryz.prog 148 #[.int .u8 (a : Int), .int .u8 (b : Int)] w fun e w' => e = .returned (.int .u8 (gm a b : Int)) ∧ w' = w := by
  go_enter Tryz.func148, Tryz.ntmps148
  have q0 : (a : Int) < 256 := by omega
  have q1 : (b : Int) < 256 := by omega
  have q2 : (0 : Int) ≤ (a : Int) := Int.natCast_nonneg _
  have q3 : (0 : Int) ≤ (b : Int) := Int.natCast_nonneg _
  go_wp2_with fail
  go_loopw [5, 6, 7] (fun vp vx vi wr => ∃ i : Nat, i ≤ 8 ∧ vi = .int .i64 i ∧ vp = .int .i64 (pm a b i) ∧ vx = .int .i64 (xtn i a) ∧ wr = w) (fun _ _ vi _ => 8 - (intOf vi).toNat)
  case atStart => exact ⟨0, by omega, rfl, rfl, rfl, rfl⟩
  case round =>
    obtain ⟨i, hi, rfl, rfl, rfl, hwr⟩ := hrel
    rw [hwr]
    clear hwr
    have p0 : (0 : Int) ≤ (i : Int) := Int.natCast_nonneg _
    by_cases hlt : i < 8
    · have p1 : (i : Int) < 8 := by omega
      have hx := xtn_lt ha i
      have hp := pm_lt (b := b) ha i
      have hx1 : (xtn i a : Int) < 256 := by omega
      have hx0 : (0 : Int) ≤ (xtn i a : Int) := Int.natCast_nonneg _
      have hbit : ((b : Int) / 2 ^ i).tmod 2 = ((b / 2 ^ i % 2 : Nat) : Int) := by
        rw [Int.tmod_eq_emod_of_nonneg (Int.ediv_nonneg (Int.natCast_nonneg _) (Int.pow_nonneg (by omega)))]
        push_cast
        rfl
      have hxn : xtn (i + 1) a = xt (xtn i a) := rfl
      have hpb := xor_bits64 hp hx
      clear hlt
      by_cases h1 : b / 2 ^ i % 2 = 1
      · have e1 : (((b : Int) / 2 ^ i).tmod 2 == 1) = true := by rw [hbit, h1]; rfl
        have e2 : pm a b (i + 1) = pm a b i ^^^ xtn i a := by rw [show pm a b (i + 1) = if b / 2 ^ i % 2 = 1 then pm a b i ^^^ xtn i a else pm a b i from rfl, if_pos h1]
        clear hbit h1
        by_cases h2 : 2 * xtn i a < 256
        · have e3 : ¬ 2 * (xtn i a : Int) ≥ 256 := by omega
          have e4 : xt (xtn i a) = 2 * xtn i a := by unfold xt; rw [if_pos h2]
          have E := Lib.hid (And.intro e2 (hxn.trans e4))
          clear e2 hxn e4
          go_wp2_with fail
          exact ⟨⟨i + 1, by omega, by go_num, by rw [E.out.1], by rw [E.out.2]; push_cast; rfl, trivial⟩, by simp [intOf]; omega⟩
        · have e3 : 2 * (xtn i a : Int) ≥ 256 := by omega
          have e4 := xt_bits2 h2 hx
          have E := Lib.hid (And.intro e2 hxn)
          clear e2 hxn
          go_wp2_with fail
          exact ⟨⟨i + 1, by omega, by go_num, by rw [E.out.1], by rw [E.out.2], trivial⟩, by simp [intOf]; omega⟩
      · have e1 : (((b : Int) / 2 ^ i).tmod 2 == 1) = false := by rw [hbit, beq_eq_false_iff_ne]; intro e; exact h1 (by exact_mod_cast e)
        have e2 : pm a b (i + 1) = pm a b i := by rw [show pm a b (i + 1) = if b / 2 ^ i % 2 = 1 then pm a b i ^^^ xtn i a else pm a b i from rfl, if_neg h1]
        clear hbit h1
        by_cases h2 : 2 * xtn i a < 256
        · have e3 : ¬ 2 * (xtn i a : Int) ≥ 256 := by omega
          have e4 : xt (xtn i a) = 2 * xtn i a := by unfold xt; rw [if_pos h2]
          have E := Lib.hid (And.intro e2 (hxn.trans e4))
          clear e2 hxn e4
          go_wp2_with fail
          exact ⟨⟨i + 1, by omega, by go_num, by rw [E.out.1], by rw [E.out.2]; push_cast; rfl, trivial⟩, by simp [intOf]; omega⟩
        · have e3 : 2 * (xtn i a : Int) ≥ 256 := by omega
          have e4 := xt_bits2 h2 hx
          have E := Lib.hid (And.intro e2 hxn)
          clear e2 hxn
          go_wp2_with fail
          exact ⟨⟨i + 1, by omega, by go_num, by rw [E.out.1], by rw [E.out.2], trivial⟩, by simp [intOf]; omega⟩
    · obtain rfl : i = 8 := by omega
      rw [pm_gm ha hb]
      have HG : (gm a b : Int) % 256 = (gm a b : Int) := by have := gm_lt (a := a) (b := b); omega
      go_wp2_with fail
      go_ret
      exact ⟨by show _ = Ending.returned (.int .u8 _); rw [← HG]; rfl, rfl⟩
end
section

theorem dv_mul {a b : Nat} (ha : a < 256) (hb0 : b ≠ 0) (hb : b < 256) : gm (dv a b) b = a := by
  unfold dv
  rw [gm_assoc, gm_comm (inv b) b, gm_inv hb0 hb, gm_comm, gm_one ha]
theorem dv_lt (a b : Nat) : dv a b < 256 := gm_lt
theorem dv_only {a b c : Nat} (ha : a < 256) (hb0 : b ≠ 0) (hb : b < 256) (hc : c < 256) (h : gm c b = a) : c = dv a b := by
  refine gm_cancel hb0 hb hc (dv_lt a b) ?_
  rw [gm_comm b c, gm_comm b, dv_mul ha hb0 hb, h]
set_option maxRecDepth 100000 in
set_option maxHeartbeats 4000000 in
theorem rdiv_any {w : World} {a b : Nat} (ha : a < 256) (hb0 : b ≠ 0) (hb : b < 256) :
    Calls Tryz.prog 184 #[.int .u8 (a : Int), .int .u8 (b : Int)] w fun e w' => e = .returned (.tuple #[.int .u8 (dv a b : Int), .int .i64 0]) ∧ w' = w := by
  have q0 : (a : Int) < 256 := by omega
  have q1 : (b : Int) < 256 := by omega
  have q2 : (0 : Int) ≤ (a : Int) := Int.natCast_nonneg _
  have q3 : (0 : Int) ≤ (b : Int) := Int.natCast_nonneg _
  have e2 : ((b : Int) == 0) = false := by simpa using hb0
  go_enter Tryz.func184, Tryz.ntmps184
  go_wp2_with fail
  go_loopw [6] (fun vi wr => ∃ i : Nat, i ≤ dv a b ∧ vi = .int .i64 i ∧ wr = w) (fun vi _ => 256 - (intOf vi).toNat)
  case atStart => exact ⟨0, Nat.zero_le _, rfl, rfl⟩
  case round =>
    obtain ⟨i, hi, rfl, hwr⟩ := hrel
    rw [hwr]
    clear hwr
    have hd := dv_lt a b
    have p0 : (0 : Int) ≤ (i : Int) := Int.natCast_nonneg _
    have p1 : (i : Int) < 256 := by omega
    have p2 : (i : Int) % 256 = (i : Int) := by omega
    have hm := rmul_any (w := w) (a := i) (b := b) (by omega) hb
    by_cases he : i = dv a b
    · have e3 : ((gm i b : Int) == (a : Int)) = true := by rw [he, dv_mul ha hb0 hb]; simp
      have HE := Lib.hid he
      clear he hi hd
      go_wp2_with fail
      refine hm.mono ?_
      rintro e w5 ⟨rfl, hw5⟩
      rw [hw5]
      clear hw5 hm
      go_wp2_with fail
      go_ret2
      exact ⟨by rw [← HE.out]; rfl, rfl⟩
    · have e3 : ((gm i b : Int) == (a : Int)) = false := by
        rw [beq_eq_false_iff_ne]
        intro e
        exact he (dv_only ha hb0 hb (by omega) (by exact_mod_cast e))
      have HI := Lib.hid (show i + 1 ≤ dv a b by omega)
      clear he hi hd
      go_wp2_with fail
      refine hm.mono ?_
      rintro e w5 ⟨rfl, hw5⟩
      rw [hw5]
      clear hw5 hm
      go_wp2_with fail
      exact ⟨⟨i + 1, HI.out, by go_num, trivial⟩, by simp [intOf]; omega⟩
set_option maxRecDepth 100000 in
set_option maxHeartbeats 4000000 in
theorem rfac_any {w : World} {k i j : Nat} (hi : i < 256) (hj : j < k) (hk : k < 256) :
    Calls Tryz.prog 149 #[.int .i64 (k : Int), .int .i64 (i : Int), .int .i64 (j : Int)] w fun e w' => e = .returned (.int .u8 (fac k i j : Int)) ∧ w' = w := by
  have q0 : (i : Int) < 256 := by omega
  have q1 : (j : Int) < 256 := by omega
  have q2 : (0 : Int) ≤ (i : Int) := Int.natCast_nonneg _
  have q3 : (0 : Int) ≤ (j : Int) := Int.natCast_nonneg _
  go_enter Tryz.func149, Tryz.ntmps149
  by_cases h : i < k
  · have h1 : (i : Int) < (k : Int) := by omega
    by_cases he : i = j
    · have h2 : ((i : Int) == (j : Int)) = true := by rw [he]; simp
      have hf : fac k i j = 1 := by unfold fac; rw [if_pos h, if_pos he]
      rw [hf]
      go_wp2_with fail
      go_ret
      exact ⟨rfl, rfl⟩
    · have h2 : ((i : Int) == (j : Int)) = false := by simp; omega
      have hf : fac k i j = 0 := by unfold fac; rw [if_pos h, if_neg he]
      rw [hf]
      go_wp2_with fail
      go_ret
      exact ⟨rfl, rfl⟩
  · have h1 : ¬ (i : Int) < (k : Int) := by omega
    have hf : fac k i j = dv 1 (i ^^^ j) := by unfold fac; rw [if_neg h]
    have hx := xor_lt hi (show j < 256 by omega)
    have hx0 : i ^^^ j ≠ 0 := fun e => by have := xor_zero_eq e; omega
    have hd := rdiv_any (w := w) (a := 1) (b := i ^^^ j) (by omega) hx0 hx
    have hxb := xor_bits hi (show j < 256 by omega)
    have p2 : (i : Int) % 256 = (i : Int) := by omega
    have p3 : (j : Int) % 256 = (j : Int) := by omega
    rw [hf]
    clear hf
    go_wp2_with fail
    refine hd.mono ?_
    rintro e w5 ⟨rfl, hw5⟩
    rw [hw5]
    clear hw5 hd
    go_wp2_with fail
    go_ret
    exact ⟨rfl, rfl⟩
end
section

theorem fac_lt2 (k i j : Nat) : fac k i j < 256 := by
  unfold fac
  split
  · split <;> omega
  · exact dv_lt _ _
end
section
def shU (k n : Nat) (D : Rws) (i a : Nat) : List Nat := (List.range a).map fun p => gt (codeRow k n D i) p
theorem shU_next (k n : Nat) (D : Rws) (i a : Nat) : shU k n D i (a + 1) = shU k n D i a ++ [gt (codeRow k n D i) a] := by
  unfold shU
  rw [List.range_succ, List.map_append]; rfl
theorem shU_all {k n : Nat} {D : Rws} (hD : Shp k n D) (i : Nat) : shU k n D i n = codeRow k n D i := by
  refine gt_ext (by unfold shU; rw [(codeRow_ok hD i).1]; simp) fun p hp => ?_
  have hp2 : p < n := by unfold shU at hp; simpa using hp
  exact range_gt hp2
theorem sumx_byt {f : Nat → Nat} (h : ∀ i, f i < 256) : ∀ n, sumx f n < 256
  | 0 => by show 0 < 256; omega
  | n + 1 => xor_lt (sumx_byt h n) (h n)
set_option maxRecDepth 100000 in
set_option maxHeartbeats 16000000 in
theorem rshard_any {w : World} {k n i c : Nat} {A : Option Addr} {S : Nat → Prop} {D : Rws} (R : RdL RowR 1 S w A k D) (hD : Shp k n D) (k1 : 1 ≤ k) (hk : k ≤ 255) (hi : i < 256) (hn : n ≤ 1000000) :
    Calls Tryz.prog 103 #[.slice A k c, .int .i64 (i : Int)] w fun e w' => ∃ A' c', e = .returned (.slice A' n c') ∧ n ≤ c' ∧ RdL ByR 1 (fun j => w.heap.size ≤ j) w' A' n (codeRow k n D i) ∧ Below w.heap.size w w' := by
  have HR := Lib.hid R
  have HD := Lib.hid hD
  obtain ⟨bd, od, rfl, _, hbd⟩ := R.addr (k := 0) (by omega)
  obtain ⟨A0, m0, c0, v0, _, r0⟩ := row_at R (k := 0) (by omega)
  have hm0 : n = m0 := by rw [← r0.1]; exact (hD.row (by omega)).1.symm
  subst hm0
  rw [Nat.add_zero] at v0
  have q0 : (k : Int) > 0 := by omega
  have q1 : (0 : Int) < (k : Int) := by omega
  have q2 : (n : Int) ≤ 1000000 := by omega
  have q3 : (k : Int) ≤ 255 := by omega
  have q4 : (0 : Int) ≤ (k : Int) := by omega
  clear R hD r0
  go_enter Tryz.func103, Tryz.ntmps103
  go_wp2_with fail
  go_loopw [5, 6] (fun vs vi wr => ∃ (a : Nat) (A : Option Addr) (c' : Nat), a ≤ n ∧ vi = .int .i64 a ∧ vs = .slice A a c' ∧ Hid (a ≤ c') ∧ Hid (OwnL ByR 5 1 w.heap.size (fun j => w.heap.size ≤ j) wr (.slice A a c') a (shU k n D i a)) ∧ Hid (Below w.heap.size w wr)) (fun _ vi _ => n - (intOf vi).toNat)
  case atStart => exact ⟨0, none, 0, Nat.zero_le _, rfl, rfl, Lib.hid (Nat.le_refl _), Lib.hid (by exact OwnL.nil_), Lib.hid (Below.refl _ _)⟩
  case round =>
    obtain ⟨a, AO, cO, ha, rfl, rfl, HC, HO, HB⟩ := hrel
    have p0 : (0 : Int) ≤ (a : Int) := Int.natCast_nonneg _
    have v0' := (HB.out.cell (p := ⟨bd, od, none⟩) hbd).trans v0
    by_cases hlt : a < n
    · have p1 : (a : Int) < (n : Int) := by omega
      go_wp2_with fail
      obtain ⟨wo, rfl⟩ : ∃ wo, wo = wr := ⟨_, rfl⟩
      go_loopw [7, 8] (fun vx vj wr => ∃ j : Nat, j ≤ k ∧ vj = .int .i64 j ∧ vx = .int .u8 (sumx (fun l => gm (fac k i l) (gt (ra D l) a)) j : Nat) ∧ Hid (Below wo.heap.size wo wr)) (fun _ vj _ => k - (intOf vj).toNat)
      case atStart => exact ⟨0, Nat.zero_le _, rfl, rfl, Lib.hid (Below.refl _ _)⟩
      case round =>
        obtain ⟨wq, rfl⟩ : ∃ wq, wq = wr := ⟨_, rfl⟩
        obtain ⟨j, hj, rfl, rfl, HB2⟩ := hrel
        have p2 : (0 : Int) ≤ (j : Int) := Int.natCast_nonneg _
        by_cases hlj : j < k
        · have p3 : (j : Int) < (k : Int) := by omega
          obtain ⟨A1, m1, c1, v1, _, r1⟩ := row_at HR.out hlj
          have hm1 : n = m1 := by rw [← r1.1]; exact (HD.out.row hlj).1.symm
          subst hm1
          obtain ⟨b1, o1, rfl, _, hb1⟩ := r1.addr hlt
          obtain ⟨x1, y1⟩ := by_at r1 hlt
          have hbw := HB.out.trans (HB2.out.mono HB.out.size)
          have v1' := fun w' (h : Below wq.heap.size wq w') => ((hbw.trans (h.mono hbw.size)).cell (p := ⟨bd, od + j, none⟩) hbd).trans v1
          have x1' := fun w' (h : Below wq.heap.size wq w') => ((hbw.trans (h.mono hbw.size)).cell (p := ⟨b1, o1 + a, none⟩) hb1).trans x1
          have hfa := fun w => rfac_any (w := w) (k := k) (i := i) (j := j) hi hlj (by omega)
          have hfl := fac_lt2 k i j
          have hmu := fun w => rmul_any (w := w) hfl y1
          have hsl := sumx_byt (f := fun l => gm (fac k i l) (gt (ra D l) a)) (fun _ => gm_lt) j
          have hxb := xor_bits hsl (gm_lt (a := fac k i j) (b := gt (ra D j) a))
          have hsx : sumx (fun l => gm (fac k i l) (gt (ra D l) a)) (j + 1) = sumx (fun l => gm (fac k i l) (gt (ra D l) a)) j ^^^ gm (fac k i j) (gt (ra D j) a) := rfl
          rw [← hsx] at hxb
          obtain ⟨sj, hsj⟩ : ∃ s, sumx (fun l => gm (fac k i l) (gt (ra D l) a)) j = s := ⟨_, rfl⟩
          rw [hsj] at hxb ⊢
          obtain ⟨sn, hsn⟩ : ∃ s, sumx (fun l => gm (fac k i l) (gt (ra D l) a)) (j + 1) = s := ⟨_, rfl⟩
          rw [hsn] at hxb
          have HSN := Lib.hid hsn
          clear v1 x1 r1 hsx hsj hsl hbw hsn
          go_wp2_with fail
          refine wp_region_held_drew (S := fun w' => Below wq.heap.size wq w') (by kernel_rfl) (by first | assumption | exact Below.refl _ _ | exact (Below.refl _ _).drew) (fun hHeld => ?_)
          refine tkH 0 rfl ?_
          refine tkH 1 rfl ?_
          refine tkH 2 rfl ?_
          refine tkH 3 rfl ?_
          refine tkH 4 rfl ?_
          refine tkH 6 rfl ?_
          refine tkH 7 rfl ?_
          refine tkH 8 rfl ?_
          refine tkH 9 rfl ?_
          refine tkH 10 rfl ?_
          refine tkH 11 rfl ?_
          refine tkH 12 rfl ?_
          refine rdH 5 rfl fun K hK => ?_
          try simp (maxSteps := 2000000) only [zz1, zz2, zz3]
          go_simp
          go_at_call 149
          refine (hfa _).mono ?_
          rintro e w5 ⟨rfl, hw5⟩
          rw [hw5]
          clear hw5 hfa
          try (go_wp2_with fail)
          refine hK.out _ _ (by first | assumption | exact Below.refl _ _ | exact (Below.refl _ _).drew) (fun hHeld => ?_)
          clear hK K
          try simp (maxSteps := 2000000) only [zz1, zz2, zz3, Act.put, zz4, zz5, zz6]
          refine rdH 13 rfl fun K hK => ?_
          try simp (maxSteps := 2000000) only [zz1, zz2, zz3]
          go_simp
          go_at_call 148
          refine (hmu _).mono ?_
          rintro e w6 ⟨rfl, hw6⟩
          rw [hw6]
          clear hw6 hmu
          try (go_wp2_with fail)
          refine hK.out _ _ (by first | assumption | exact Below.refl _ _ | exact (Below.refl _ _).drew) (fun hHeld => ?_)
          clear hK K
          try simp (maxSteps := 2000000) only [zz1, zz2, zz3, Act.put, zz4, zz5, zz6]
          refine tkH 14 rfl ?_
          refine tkH 15 rfl ?_
          refine wpAnyH_done (by kernel_rfl) ?_ _
          go_wp2_with fail
          exact ⟨⟨j + 1, by omega, by go_num, by rw [HSN.out], Lib.hid (HB2.out.trans ((Below.refl _ _).drew.mono HB2.out.size))⟩, by simp [intOf]; omega⟩
        · have p3 : ¬ (j : Int) < (k : Int) := by omega
          obtain rfl : k = j := by omega
          have hcr := codeRow_gt HD.out i a
          have hbt := gt_lt (codeRow_ok HD.out i).2 a
          rw [← hcr]
          have HN := Lib.hid (shU_next k n D i a)
          obtain ⟨y, hy⟩ : ∃ y, gt (codeRow k n D i) a = y := ⟨_, rfl⟩
          rw [hy] at HN hbt ⊢
          have HOq := Lib.hid (HO.out.keep ByR.stable HB2.out)
          have HBq := Lib.hid (HB.out.trans (HB2.out.mono HB.out.size))
          have hszr := HBq.out.size
          clear hcr hy HO HB HB2
          go_wp2_with (at_builtin; go_must (refine wpList_push1 ByR.stable ByR.one sl_by (by rfl) (by rfl) (base := w.heap.size) (S := fun j => w.heap.size ≤ j) (cs := #[.int .u8 (y : Int)]) (y := y) (by rfl) (by rfl) HOq.out (by rfl) ⟨hbt, rfl⟩ (by unfold maxLen; omega) (by omega) hszr ?_); intro A8 c8 ug hc8 own9 hlt8 hb8 hat8; rw [← HN.out] at own9; have HO9 := Lib.hid own9; have HB9 := Lib.hid (HBq.out.trans hb8); clear own9 hb8 hlt8 hat8)
          exact ⟨⟨a + 1, A8, c8, by omega, by go_num, rfl, Lib.hid hc8, HO9, HB9⟩, by simp [intOf]; omega⟩
    · have p1 : ¬ (a : Int) < (n : Int) := by omega
      obtain rfl : a = n := by omega
      have hz := HO.out
      rw [shU_all HD.out] at hz
      obtain ⟨A', c', e, _, hr⟩ := hz.rd (S' := fun j => w.heap.size ≤ j) (fun j hj => hj) (fun cs x hx => hx)
      injection e with e1 _ e2
      subst e1; subst e2
      have HZ := Lib.hid hr
      clear hz hr HO
      go_wp2_with fail
      go_ret
      exact ⟨AO, cO, rfl, HC.out, HZ.out, HB.out⟩
end
section
/-- The register behind i bits of a byte. -/
def rgb (c b : Nat) : Nat → Nat
  | 0 => c
  | i + 1 => if b / 2 ^ i % 2 ≠ rgb c b i % 2 then rgb c b i / 2 ^^^ cpoly else rgb c b i / 2
theorem rgb_cst (c b : Nat) : ∀ i, cstn i (c ^^^ b) = rgb c b i ^^^ b / 2 ^ i
  | 0 => by rw [Nat.pow_zero, Nat.div_one]; rfl
  | i + 1 => by
    have ih := rgb_cst c b i
    rw [cstn_next, ih]
    have hp := xor_par (rgb c b i) (b / 2 ^ i)
    have e : b / 2 ^ i / 2 = b / 2 ^ (i + 1) := by rw [Nat.div_div_eq_div_mul, Nat.pow_succ]
    unfold cst
    rw [xor_half, e, rgb]
    by_cases h : b / 2 ^ i % 2 ≠ rgb c b i % 2
    · rw [if_pos h, if_pos (by omega), Nat.xor_assoc, Nat.xor_assoc, Nat.xor_comm cpoly]
    · rw [if_neg h, if_neg (by omega)]
theorem rgb_all {c b : Nat} (hb : b < 256) : rgb c b 8 = ceat c b := by
  have h := rgb_cst c b 8
  rw [Nat.div_eq_of_lt (by omega : b < 2 ^ 8), Nat.xor_zero] at h
  exact h.symm
theorem rgb_lt {c b : Nat} (hc : c < 4294967296) : ∀ i, rgb c b i < 4294967296
  | 0 => hc
  | i + 1 => by
    have ih := rgb_lt (b := b) hc i
    rw [rgb]
    split
    · exact Nat.xor_lt_two_pow (n := 32) (by omega) (by unfold cpoly; omega)
    · omega
theorem pow_8 {i : Nat} (h : i < 8) : 2 ^ i ≤ 128 ∧ 1 ≤ 2 ^ i := by
  have h1 : 2 ^ i ≤ 2 ^ 7 := Nat.pow_le_pow_right (by omega) (by omega)
  have h2 := Nat.two_pow_pos i
  omega
theorem cpoly_xor {a : Nat} (ha : a < 4294967296) : bits .xor .u32 (a : Int) 2197175160 = ((a ^^^ cpoly : Nat) : Int) := xor_bits32 (c := cpoly) ha (by decide)
set_option maxRecDepth 100000 in
set_option maxHeartbeats 8000000 in
theorem rreg_any {w : World} {c n cp : Nat} {A : Option Addr} {S : Nat → Prop} {xs : List Nat} (hc : c < 4294967296) (R : RdL ByR 1 S w A n xs) (hn : n ≤ 1000000) :
    Calls Tryz.prog 252 #[.int .u32 (c : Int), .slice A n cp] w fun e w' => e = .returned (.int .u32 (cthr c xs : Int)) ∧ w' = w := by
  have hpl := R.1
  have HC := Lib.hid hc
  have HR := Lib.hid R
  have hbt := by_byt R
  have HBT := Lib.hid hbt
  clear hc R hbt
  go_enter Tryz.func252, Tryz.ntmps252
  go_wp2_with fail
  go_loopw [0, 5] (fun vc vi wr => ∃ i : Nat, i ≤ n ∧ vi = .int .i64 i ∧ vc = .int .u32 (cthr c (xs.take i) : Nat) ∧ wr = w) (fun _ vi _ => n - (intOf vi).toNat)
  case atStart => exact ⟨0, Nat.zero_le _, rfl, rfl, rfl⟩
  case round =>
    obtain ⟨i, hi, rfl, rfl, hw⟩ := hrel
    rw [hw]
    clear hw
    have p0 : (0 : Int) ≤ (i : Int) := Int.natCast_nonneg _
    by_cases hlt : i < n
    · have p1 : (i : Int) < (n : Int) := by omega
      obtain ⟨ba, oa, rfl, _, hba⟩ := HR.out.addr hlt
      obtain ⟨v1, x1⟩ := by_at HR.out hlt
      have hq := cthr_lt (xs.take i) HC.out (fun x hx => HBT.out x (List.mem_of_mem_take hx))
      have HN := Lib.hid (cthr_take (c := c) (l := xs) (i := i) (by omega))
      obtain ⟨d, hd⟩ : ∃ d, cthr c (xs.take i) = d := ⟨_, rfl⟩
      obtain ⟨y, hy⟩ : ∃ y, gt xs i = y := ⟨_, rfl⟩
      rw [hd] at hq HN ⊢
      rw [hy] at v1 x1 HN
      have HQ := Lib.hid hq
      have y0 : (0 : Int) ≤ (y : Int) := by omega
      have y1 : (y : Int) < 256 := by omega
      clear hd hy hq
      go_wp2_with fail
      go_loopw [0, 6] (fun vc vk wr => ∃ k : Nat, k ≤ 8 ∧ vk = .int .i64 k ∧ vc = .int .u32 (rgb d y k : Nat) ∧ wr = w) (fun _ vk _ => 8 - (intOf vk).toNat)
      case atStart => exact ⟨0, by omega, rfl, rfl, rfl⟩
      case round =>
        obtain ⟨k, hk, rfl, rfl, hw⟩ := hrel
        rw [hw]
        clear hw
        have k0 : (0 : Int) ≤ (k : Int) := Int.natCast_nonneg _
        by_cases hk8 : k < 8
        · have k1 : (k : Int) < 8 := by omega
          obtain ⟨t1, t2⟩ := pow_8 hk8
          have hg := rgb_lt (b := y) HQ.out k
          obtain ⟨g, hge⟩ : ∃ g, rgb d y k = g := ⟨_, rfl⟩
          have HGN := Lib.hid (show rgb d y (k + 1) = if y / 2 ^ k % 2 ≠ g % 2 then g / 2 ^^^ cpoly else g / 2 by rw [rgb, hge])
          rw [hge] at hg ⊢
          clear hge
          have hpw : (2 : Int) ^ k % 4294967296 = ((2 ^ k : Nat) : Int) := by
            rw [show ((2 : Int) ^ k) = ((2 ^ k : Nat) : Int) by simp]
            omega
          have s0 : ¬ (2 : Int) ^ k % 4294967296 = 0 := by omega
          have q1 := cpoly_xor (a := g / 2) (by omega)
          by_cases hb : y / 2 ^ k % 2 ≠ g % 2
          · have s1 : ((y : Int) / ((2 : Int) ^ k % 4294967296) % 2 != (g : Int) % 2) = true := by
              rw [hpw, bne_iff_ne]
              omega
            have HG2 := Lib.hid (HGN.out.trans (if_pos hb))
            clear hpw hb t1 t2
            go_wp2_with fail
            refine ⟨⟨k + 1, hk8, by rw [Int.natCast_add, Int.natCast_one], ?_, trivial⟩, ?_⟩
            · rw [HG2.out, show ((g : Int) / 2) = ((g / 2 : Nat) : Int) by omega, q1]
            · dsimp only [intOf]
              omega
          · have s1 : ((y : Int) / ((2 : Int) ^ k % 4294967296) % 2 != (g : Int) % 2) = false := by
              rw [hpw, bne_eq_false_iff_eq]
              omega
            have HG2 := Lib.hid (HGN.out.trans (if_neg hb))
            clear hpw hb t1 t2
            go_wp2_with fail
            refine ⟨⟨k + 1, hk8, by rw [Int.natCast_add, Int.natCast_one], ?_, trivial⟩, ?_⟩
            · rw [HG2.out, show ((g : Int) / 2) = ((g / 2 : Nat) : Int) by omega]
            · dsimp only [intOf]
              omega
        · have k1 : ¬ (k : Int) < 8 := by omega
          obtain rfl : k = 8 := by omega
          have HE := Lib.hid (rgb_all (c := d) (b := y) (by omega))
          rw [HE.out]
          go_wp2_with fail
          refine ⟨⟨i + 1, hlt, by rw [Int.natCast_add, Int.natCast_one], by rw [HN.out], trivial⟩, ?_⟩
          dsimp only [intOf]
          omega
    · have p1 : ¬ (i : Int) < (n : Int) := by omega
      obtain rfl : i = n := by omega
      have HT := Lib.hid (List.take_of_length_le (l := xs) (i := i) (by omega))
      go_wp2_with fail
      go_ret
      exact ⟨congrArg (fun l => Ending.returned (.int .u32 (cthr c l : Int))) HT.out, rfl⟩
theorem xor_top {x : Nat} (h : x < 4294967296) : 4294967295 - x = x ^^^ 4294967295 := by
  have e : (BitVec.ofNat 32 x ^^^ BitVec.allOnes 32).toNat = (~~~ (BitVec.ofNat 32 x)).toNat := by rw [BitVec.xor_allOnes]
  rw [BitVec.toNat_xor, BitVec.toNat_not, BitVec.toNat_allOnes, BitVec.toNat_ofNat, Nat.mod_eq_of_lt (by omega : x < 2 ^ 32)] at e
  exact e.symm
theorem turned_any {w : World} {c : Nat} (hc : c < 4294967296) :
    Calls Tryz.prog 251 #[.int .u32 (c : Int)] w fun e w' => e = .returned (.int .u32 ((4294967295 - c : Nat) : Int)) ∧ w' = w := by
  have q0 : (0 : Int) ≤ (c : Int) := Int.natCast_nonneg _
  have q1 : (c : Int) < 4294967296 := by omega
  have HC := Lib.hid hc
  clear hc
  go_enter Tryz.func251, Tryz.ntmps251
  go_wp2_with fail
  go_ret
  exact ⟨by rw [show ((4294967295 - c : Nat) : Int) = 4294967295 - (c : Int) by have := HC.out; omega]; rfl, rfl⟩
set_option maxRecDepth 100000 in
set_option maxHeartbeats 4000000 in
theorem rmore_any {w : World} {n cp : Nat} {A : Option Addr} {S : Nat → Prop} {xs : List Nat} (R : RdL ByR 1 S w A n xs) (hn : n ≤ 1000000) :
    Calls Tryz.prog 241 #[.int .u32 0, .slice A n cp] w fun e w' => e = .returned (.int .u32 (csum xs : Int)) ∧ w' = w := by
  have ht := rreg_any (cp := cp) (c := 4294967295) (by omega) R hn
  have h0 := turned_any (w := w) (c := 0) (by omega)
  have hq := cthr_lt (c := 4294967295) xs (by omega) (by_byt R)
  have h1 := turned_any (w := w) hq
  rw [xor_top hq] at h1
  change Calls Tryz.prog 251 _ w (fun e w' => e = .returned (.int .u32 (csum xs : Int)) ∧ w' = w) at h1
  change Calls Tryz.prog 251 #[.int .u32 0] w (fun e w' => e = .returned (.int .u32 4294967295) ∧ w' = w) at h0
  change Calls Tryz.prog 252 #[.int .u32 4294967295, _] w _ at ht
  obtain ⟨y, hy⟩ : ∃ y, cthr 4294967295 xs = y := ⟨_, rfl⟩
  obtain ⟨z, hz⟩ : ∃ z, csum xs = z := ⟨_, rfl⟩
  rw [hy] at ht h1
  rw [hz] at h1 ⊢
  clear hy hz hq R
  go_enter Tryz.func241, Tryz.ntmps241
  go_wp2_with fail
  refine h0.mono ?_
  rintro e w5 ⟨rfl, hw5⟩
  rw [hw5]
  clear hw5 h0
  go_wp2_with fail
  refine ht.mono ?_
  rintro e w5 ⟨rfl, hw5⟩
  rw [hw5]
  clear hw5 ht
  go_wp2_with fail
  refine h1.mono ?_
  rintro e w5 ⟨rfl, hw5⟩
  rw [hw5]
  clear hw5 h1
  go_wp2_with fail
  go_ret
  exact ⟨rfl, rfl⟩
set_option maxRecDepth 100000 in
set_option maxHeartbeats 4000000 in
theorem rsum_any {w : World} {n cp : Nat} {A : Option Addr} {S : Nat → Prop} {xs : List Nat} (R : RdL ByR 1 S w A n xs) (hn : n ≤ 1000000) :
    Calls Tryz.prog 217 #[.slice A n cp] w fun e w' => e = .returned (.int .u32 (csum xs : Int)) ∧ w' = w := by
  have ht := rmore_any (cp := cp) R hn
  obtain ⟨y, hy⟩ : ∃ y, csum xs = y := ⟨_, rfl⟩
  rw [hy] at ht ⊢
  go_enter Tryz.func217, Tryz.ntmps217
  go_wp2_with fail
  refine ht.mono ?_
  rintro e w5 ⟨rfl, hw5⟩
  rw [hw5]
  clear hw5 ht
  go_wp2_with fail
  go_ret
  exact ⟨rfl, rfl⟩
end
section
/-- The code that such a reading answers. -/
def ngE (n : Nat) (at' : Int) (k : Nat) : Int := if at' < 0 ∨ at' > n then 2 else if (k : Int) > (n : Int) - at' then 5 else 0
/-- What it reads. -/
def ngV (xs : List Nat) (at' : Int) (k : Nat) : Nat := if ngE xs.length at' k = 0 then unN ((xs.drop at'.toNat).take k) else 0
def NgR (n : Nat) (xs : List Nat) (at' : Int) (k : Nat) (e : Ending) : Prop := e = .returned (.tuple #[.int .u64 (ngV xs at' k : Int), .int .i64 (ngE n at' k)])
theorem ng_in {n : Nat} {xs : List Nat} (hl : xs.length = n) {a k : Nat} (h : a + k ≤ n) : ngE n (a : Int) k = 0 ∧ ngV xs (a : Int) k = unN ((xs.drop a).take k) := by
  have e : ngE n (a : Int) k = 0 := by
    unfold ngE
    rw [if_neg (by omega), if_neg (by omega)]
  refine ⟨e, ?_⟩
  unfold ngV
  rw [hl, if_pos e, Int.toNat_natCast]
theorem ng_out {n : Nat} {xs : List Nat} (hl : xs.length = n) {z : Int} {k : Nat} (h : z < 0 ∨ z > n) : ngE n z k = 2 ∧ ngV xs z k = 0 := by
  have e : ngE n z k = 2 := by
    unfold ngE
    rw [if_pos h]
  refine ⟨e, ?_⟩
  unfold ngV
  rw [hl, e, if_neg (by decide)]
theorem ng_short {n : Nat} {xs : List Nat} (hl : xs.length = n) {z : Int} {k : Nat} (h0 : 0 ≤ z) (h1 : z ≤ n) (h : (n : Int) - z < k) : ngE n z k = 5 ∧ ngV xs z k = 0 := by
  have e : ngE n z k = 5 := by
    unfold ngE
    rw [if_neg (by omega), if_pos (by omega)]
  refine ⟨e, ?_⟩
  unfold ngV
  rw [hl, e, if_neg (by decide)]
end
section
def wsU (l : List (Nat × Shd)) (N i : Nat) : List Bool := (List.range N).map fun j => if j < i then (lookS l j).isSome else false
theorem wsU_len (l : List (Nat × Shd)) (N i : Nat) : (wsU l N i).length = N := by unfold wsU; simp
theorem wsU_zero (l : List (Nat × Shd)) (N : Nat) : List.replicate N false = wsU l N 0 := by
  unfold wsU
  apply List.ext_getElem
  · simp
  · intro j h1 h2; simp
theorem wsU_next {l : List (Nat × Shd)} {N i : Nat} (h : i < N) : (wsU l N i).set i (lookS l i).isSome = wsU l N (i + 1) := by
  apply List.ext_getElem?
  intro j
  by_cases hj : j < N
  · by_cases e : i = j
    · subst e
      rw [List.getElem?_set_self (by rw [wsU_len]; exact h)]
      unfold wsU
      rw [List.getElem?_map, List.getElem?_range h]
      simp
    · rw [List.getElem?_set_ne e]
      unfold wsU
      rw [List.getElem?_map, List.getElem?_map, List.getElem?_range hj]
      simp only [Option.map_some]
      by_cases h1 : j < i
      · rw [if_pos h1, if_pos (by omega)]
      · rw [if_neg h1, if_neg (by omega)]
  · rw [List.getElem?_eq_none (by rw [List.length_set, wsU_len]; omega), List.getElem?_eq_none (by rw [wsU_len]; omega)]
theorem box_bool {w : World} {g i : Nat} {xs : List Bool} (h : BoxAt w g (xs.map Value.bool).toArray) (b : Bool) : BoxAt (w.setCell ⟨g, i, none⟩ (.bool b)) g ((xs.set i b).map Value.bool).toArray := by
  have h1 := h.set i (.bool b)
  have e : (xs.map Value.bool).toArray.setIfInBounds i (.bool b) = ((xs.set i b).map Value.bool).toArray := by simp
  rw [e] at h1
  exact h1
attribute [local go_sem ↓] shut_loadS shut_zeroS shut_buildS shut_storeS
attribute [local go_sem] run_zeroS run_build0
section
variable {U : Nat → Prop} {w : World} {a n cb b k m : Nat} {v : Value} {Fs : Nat → Nat → Prop} {ps : List Nat} {sts : List DSt} {r : Ref}
set_option maxRecDepth 100000 in
set_option maxHeartbeats 8000000 in
theorem swholes_any (h : Hid (ArrB U w a v Fs ps n sts)) (HC : CodAt w cb b k m) (hlen : sts.length = k + m) (hr : r.ok n) (hR : RdOk sts r.place) :
    Calls Tryz.prog 64 #[.pointer (some ⟨a, 0, none⟩), .pointer (some ⟨cb, 0, none⟩), .agg (refC r)] w fun e w' => ∃ g, e = .returned (.slice (some ⟨g, 0, none⟩) (k + m) (k + m)) ∧ RdL BoolR 1 (fun j => w.heap.size ≤ j) w' (some ⟨g, 0, none⟩) (k + m) (wsU (wholeF (stR sts k r) (k + m)).1 (k + m) (k + m)) ∧ Below w.heap.size w w' := by
  have hk1 := HC.k1
  have hkm := HC.km
  have hb0 : Below w.heap.size w (w.alloc (.cells (refC r) 38)) := (Below.refl _ _).alloc (Nat.le_refl _) _
  have hme := meant_good (Lib.hid (h.out.below hb0)) (HC.below hb0) hlen hr
  have hwh := fun w' s (hb : Below w.heap.size w w') hS => swhole_any (w := w') (s := s) hS (Lib.hid (h.out.below hb)) (HC.below hb) hlen hr.p hR
  have hcn := fun w' (hb : Below w.heap.size w w') => cn_any (HC.below hb)
  have hlok := wholeF_ok (stR sts k r) (fun i x hx => (stR_ok hR i x hx).1) (k + m)
  obtain ⟨N, hN⟩ : ∃ N, k + m = N := ⟨_, rfl⟩
  obtain ⟨lz, hlz⟩ : ∃ lz, (wholeF (stR sts k r) (k + m)) = lz := ⟨_, rfl⟩
  rw [hlz] at hwh hlok ⊢
  rw [hN] at hcn ⊢
  have hN2 : N ≤ 255 := by omega
  have HL := Lib.hid hlok
  clear h HC hlen hR hN hlz hlok
  unfold refC at hme hb0 ⊢
  go_enter Tryz.func64, Tryz.ntmps64
  go_wp2_with fail
  obtain ⟨wA, hwA⟩ : ∃ wA, w.alloc (.cells #[.int .u8 (r.kind : Int), .int .i64 (r.place : Int), .int .u64 (r.gen : Int)] 38) = wA := ⟨_, rfl⟩
  rw [hwA] at hme hb0 ⊢
  refine hme.mono ?_
  clear hme hwA
  rintro e w1 ⟨s, rfl, _, bS1, hb1⟩
  have hw1 := hb0.trans (hb1.mono hb0.size)
  have hwh1 := hwh w1 s hw1 bS1
  clear hwh hb0 hb1 bS1
  go_wp2_with fail
  refine hwh1.mono ?_
  clear hwh1
  rintro e w2 ⟨mb, rfl, hM, hb2, _⟩
  have hw2 := hw1.trans (hb2.mono hw1.size)
  have hcn2 := hcn w2 hw2
  clear hcn hw1 hb2
  have HM2 := Lib.hid hM
  have HW2 := Lib.hid hw2
  clear hM hw2
  go_wp2_with fail
  refine hcn2.mono ?_
  clear hcn2
  rintro e w3 ⟨rfl, hb3⟩
  have hm3 := HM2.out.below hb3
  have hw3 := HW2.out.trans (hb3.mono HW2.out.size)
  have hmk := makeBoolsL N (by omega) w3
  have b4 := BoxAt.new w3 ((List.replicate N false).map Value.bool).toArray 4
  have hw4 : Below w.heap.size w (w3.alloc (.cells ((List.replicate N false).map Value.bool).toArray 4)) := hw3.alloc hw3.size _
  have hm4 := hm3.alloc (.cells ((List.replicate N false).map Value.bool).toArray 4)
  obtain ⟨W4, hW4⟩ : ∃ W, w3.alloc (.cells ((List.replicate N false).map Value.bool).toArray 4) = W := ⟨_, rfl⟩
  rw [hW4] at hmk b4 hw4 hm4
  have hg3 := hw3.size
  have hmg0 := hm3.lt
  obtain ⟨g, hg⟩ : ∃ g, w3.heap.size = g := ⟨_, rfl⟩
  rw [hg] at hmk b4
  have HG := Lib.hid (show w.heap.size ≤ g by omega)
  have hmg : mb ≠ g := by omega
  rw [wsU_zero lz.1 N] at b4
  have HO := Lib.hid b4
  have HM := Lib.hid hm4
  have HB := Lib.hid hw4
  clear b4 hw4 hm4 hW4 hb3 hm3 hw3 hg3 hmg0 HM2 HW2 hg
  go_wp2_with fail
  clear hmk
  go_loopw [32] (fun vi wr => ∃ i : Nat, i ≤ N ∧ vi = .int .i64 i ∧ Hid (BoxAt wr g ((wsU lz.1 N i).map Value.bool).toArray) ∧ Hid (MapAt (Value.int .i64) wr mb (mapE lz.1)) ∧ Hid (Below w.heap.size w wr)) (fun vi _ => N - (intOf vi).toNat)
  case atStart => exact ⟨0, Nat.zero_le _, rfl, HO, HM, HB⟩
  case round =>
    clear HO HM HB
    obtain ⟨i, hi, rfl, HO, HM, HB⟩ := hrel
    have p0 : (0 : Int) ≤ (i : Int) := Int.natCast_nonneg _
    by_cases hlt : i < N
    · have p1 : (i : Int) < (N : Int) := by omega
      have hla : ∀ wq, MapAt (Value.int .i64) wq mb (mapE lz.1) → (Instr.lookup 148 (.map (some mb)) (.int .i64 (i : Int)) true).run Tryz.prog wq = .ok (.tuple #[(mlook (mapE lz.1) (i : Int)).getD (.agg (shC sh0)), .bool (mlook (mapE lz.1) (i : Int)).isSome]) wq := fun wq hm => run_lookup kt_intS un_smap (fun w => run_zeroS w) hm (i : Int) true
      rw [mlook_mapE] at hla
      have his : ((lookS lz.1 i).map fun x => Value.agg (shC x)).isSome = (lookS lz.1 i).isSome := by cases lookS lz.1 i <;> rfl
      rw [his] at hla
      have hnx := wsU_next (l := lz.1) hlt
      have hb7 := box_bool (i := i) HO.out (lookS lz.1 i).isSome
      rw [hnx] at hb7
      have hm7 : MapAt (Value.int .i64) (wr.setCell ⟨g, i, none⟩ (.bool (lookS lz.1 i).isSome)) mb (mapE lz.1) := HM.out.keep (Below.heap_setCell _ _ _ _ (by show mb ≠ g; exact hmg))
      have hw7 := HB.out.setCell (p := ⟨g, i, none⟩) HG.out (.bool (lookS lz.1 i).isSome)
      obtain ⟨lv, hlv⟩ : ∃ lv, ((lookS lz.1 i).map fun x => Value.agg (shC x)).getD (.agg (shC sh0)) = lv := ⟨_, rfl⟩
      obtain ⟨lb, hlb⟩ : ∃ lb, (lookS lz.1 i).isSome = lb := ⟨_, rfl⟩
      rw [hlb, hlv] at hla
      rw [hlb] at hb7 hm7 hw7
      obtain ⟨old, hold⟩ : ∃ old, wr.cell? ⟨g, i, none⟩ = some old := by
        have := HO.out.cell i
        rw [this]
        exact ⟨_, Array.getElem?_eq_getElem (by simp [wsU_len, hlt])⟩
      have hfr := HO.out.frozen i
      have HB7 := Lib.hid hb7
      have HM7 := Lib.hid hm7
      have HW7 := Lib.hid hw7
      have hl0 := hla _ HM.out
      clear hb7 hm7 hw7 his hnx hlv hlb hla
      go_wp2_with fail
      exact ⟨⟨i + 1, by omega, by go_num, HB7, HM7, HW7⟩, by simp [intOf]; omega⟩
    · have p1 : ¬ (i : Int) < (N : Int) := by omega
      obtain rfl : N = i := by omega
      go_wp2_with fail
      go_ret
      have h9 := BoxAt.bools HO.out (S := fun j => w.heap.size ≤ j) HG.out
      rw [wsU_len] at h9
      exact ⟨g, rfl, h9, HB.out⟩
end
end
section
attribute [local go_sem ↓] shut_loadS shut_zeroS shut_buildS shut_storeS
attribute [local go_sem] run_zeroS run_build0
section
variable {U : Nat → Prop} {w : World} {a n cb b k m : Nat} {sts : List DSt} {r : Ref}
end
end
section
theorem add_mod_lt {n q i : Nat} (hq : q < n) (hi : i < n) : (q + i) % n = if q + i < n then q + i else q + i - n := by
  split
  · rename_i h; exact Nat.mod_eq_of_lt h
  · rename_i h
    rw [Nat.mod_eq_sub_mod (by omega), Nat.mod_eq_of_lt (by omega)]
/-- The shard that lies on a drive. -/
def ixN (n place d : Nat) : Nat := (n - place % n + d) % n
theorem homeN_eq {n p i : Nat} (hn : 1 ≤ n) (hi : i < n) : homeN n p i = if p % n + i < n then p % n + i else p % n + i - n := by
  unfold homeN
  rw [Nat.mod_eq_of_lt hi, add_mod_lt (Nat.mod_lt _ hn) hi]
theorem ixN_eq {n p d : Nat} (hn : 1 ≤ n) (hd : d < n) : ixN n p d = if p % n ≤ d then d - p % n else d + n - p % n := by
  have hq : p % n < n := Nat.mod_lt _ hn
  unfold ixN
  by_cases h0 : p % n = 0
  · rw [h0, Nat.sub_zero, Nat.add_mod_left, Nat.mod_eq_of_lt hd, if_pos (Nat.zero_le _)]; rfl
  · rw [add_mod_lt (by omega) hd]
    split <;> split <;> omega
theorem ixN_lt {n p d : Nat} (hn : 1 ≤ n) : ixN n p d < n := Nat.mod_lt _ hn
theorem home_ix {n p d : Nat} (hn : 1 ≤ n) (hd : d < n) : homeN n p (ixN n p d) = d := by
  have hq : p % n < n := Nat.mod_lt _ hn
  rw [homeN_eq hn (ixN_lt hn), ixN_eq hn hd]
  split <;> split <;> omega
theorem ix_home {n p i : Nat} (hn : 1 ≤ n) (hi : i < n) : ixN n p (homeN n p i) = i := by
  have hq : p % n < n := Nat.mod_lt _ hn
  rw [ixN_eq hn (homeN_lt hn), homeN_eq hn hi]
  split <;> split <;> omega
theorem home_map {n p : Nat} (hn : 1 ≤ n) : (List.range n).map (homeN n p) = (List.range (n - p % n)).map (fun i => p % n + i) ++ List.range (p % n) := by
  have hq : p % n < n := Nat.mod_lt _ hn
  apply List.ext_getElem
  · simp; omega
  · intro j h1 h2
    have hj : j < n := by simpa using h1
    rw [List.getElem_map, List.getElem_range, homeN_eq hn hj]
    by_cases hc : j < n - p % n
    · rw [List.getElem_append_left (by simpa using hc), List.getElem_map, List.getElem_range, if_pos (by omega)]
    · rw [List.getElem_append_right (by simp; omega), List.getElem_range, if_neg (by omega)]
      simp; omega
theorem range_cut (n q : Nat) (h : q ≤ n) : List.range n = List.range q ++ (List.range (n - q)).map (fun i => q + i) := by
  conv => lhs; rw [show n = q + (n - q) by omega, List.range_add]
/-- As many shards are good as drives are. -/
theorem home_count {n p : Nat} (hn : 1 ≤ n) (g : Nat → Bool) : ((List.range n).filter fun i => g (homeN n p i)).length = ((List.range n).filter g).length := by
  have hq : p % n < n := Nat.mod_lt _ hn
  have h1 : (((List.range n).map (homeN n p)).filter g).length = ((List.range n).filter fun i => g (homeN n p i)).length := by
    rw [List.filter_map, List.length_map]; rfl
  rw [← h1, home_map hn, List.filter_append, List.length_append, range_cut n (p % n) (by omega), List.filter_append, List.length_append]
  omega
section
variable {N size : Nat} {R : Nat → Option Shd} {P : Nat → Bool} {r : Ref} {row : Nat → List Nat}
def stdL (P : Nat → Bool) (r : Ref) (size : Nat) (row : Nat → List Nat) (i : Nat) : List (Nat × Shd) := ((List.range i).filter P).map fun j => (j, shR r j size (row j))
theorem stdL_next (i : Nat) : stdL P r size row (i + 1) = stdL P r size row i ++ if P i = true then [(i, shR r i size (row i))] else [] := by
  unfold stdL
  rw [List.range_succ, List.filter_append, List.map_append]
  by_cases h : P i = true
  · rw [if_pos h, List.filter_cons_of_pos h]; rfl
  · rw [if_neg h, List.filter_cons_of_neg h]; rfl
theorem whole_std (hR : ∀ i, i < N → R i = if P i = true then some (shR r i size (row i)) else none) : ∀ i, i ≤ N → (wholeF R i).1 = stdL P r size row i ∧ (0 < (wholeF R i).1.length → (wholeF R i).2 = size)
  | 0, _ => ⟨rfl, fun h => by simp [wholeF] at h⟩
  | i + 1, hi => by
    obtain ⟨h1, h2⟩ := whole_std hR i (by omega)
    have hr := hR i (by omega)
    rw [stdL_next]
    by_cases hp : P i = true
    · rw [if_pos hp] at hr ⊢
      have e : wholeF R (i + 1) = ((wholeF R i).1 ++ [(i, shR r i size (row i))], size) := by
        rw [wholeF, hr]
        dsimp only
        rw [if_neg (fun h => h.2 (h2 h.1).symm)]
        rfl
      rw [e, h1]
      exact ⟨rfl, fun _ => rfl⟩
    · rw [if_neg hp] at hr ⊢
      have e : wholeF R (i + 1) = wholeF R i := by rw [wholeF, hr]
      rw [e, List.append_nil]
      exact ⟨h1, h2⟩
theorem stdL_look (N j : Nat) : lookS (stdL P r size row N) j = if j < N ∧ P j = true then some (shR r j size (row j)) else none := by
  have gen : ∀ l : List Nat, lookS (l.map fun j => (j, shR r j size (row j))) j = if j ∈ l then some (shR r j size (row j)) else none := fun l => by
    induction l with
    | nil => rfl
    | cons x l ih =>
      unfold lookS at ih ⊢
      rw [List.map_cons]
      by_cases h : x = j
      · subst h
        rw [List.find?_cons_of_pos (by simp), if_pos (List.mem_cons_self ..)]; rfl
      · rw [List.find?_cons_of_neg (by simpa using h), ih]
        by_cases h2 : j ∈ l
        · rw [if_pos h2, if_pos (List.mem_cons_of_mem _ h2)]
        · rw [if_neg h2, if_neg (fun h3 => (List.mem_cons.1 h3).elim (fun e => h e.symm) h2)]
  unfold stdL
  rw [gen]
  have e : (j ∈ (List.range N).filter P) ↔ (j < N ∧ P j = true) := by rw [List.mem_filter, List.mem_range]
  by_cases h : j < N ∧ P j = true
  · rw [if_pos h, if_pos (e.2 h)]
  · rw [if_neg h, if_neg (fun h2 => h (e.1 h2))]
theorem stdL_len (N : Nat) : (stdL P r size row N).length = ((List.range N).filter P).length := by unfold stdL; rw [List.length_map]
theorem stdL_whole (N : Nat) : wsU (stdL P r size row N) N N = (List.range N).map P := by
  unfold wsU
  refine List.map_congr_left fun j hj => ?_
  have hj' := List.mem_range.1 hj
  rw [if_pos hj', stdL_look]
  cases h : P j with
  | true => rw [if_pos ⟨hj', rfl⟩]; rfl
  | false => rw [if_neg (fun h2 => by simp at h2)]; rfl
end
section
variable {k m n : Nat} {D : Rws} {P : Nat → Bool}
end
end
section
theorem sncS_byt {x : Shd} (h : x.ok) : Byt (sncS x) := fun y hy => by
  unfold sncS snc60 at hy
  rcases List.mem_append.1 hy with h1 | h1
  · rcases List.mem_append.1 h1 with h2 | h2
    · exact sncH_byt x y h2
    · exact h.b y h2
  · exact leN_byt _ _ y h1
theorem rdX_snc {x : Shd} (hx : x.ok) (hk : kindB x.kind = true) (k : Nat) (r : Ref) (i : Nat) : rdX (sncS x) k r i = if isB x r i = true ∧ x.size ≤ k * 44 then some x else none := by
  have h1 := dec_snc hx
  have h2 := sncS_sum (x := x) hx.l
  unfold rdX
  rw [h1.1, h1.2]
  by_cases h : isB x r i = true ∧ x.size ≤ k * 44
  · rw [if_pos h, if_pos ⟨h2, hk, h.1, h.2⟩]
  · rw [if_neg h, if_neg (fun h3 => h ⟨h3.2.2.1, h3.2.2.2⟩)]
theorem rdX_zero (k : Nat) (r : Ref) (i : Nat) : rdX (List.replicate 64 0) k r i = none := by
  unfold rdX
  rw [if_neg]
  intro h
  exact absurd h.2.1 (by decide +kernel)
theorem rdX_sum {xs : List Nat} {k : Nat} {r : Ref} {i : Nat} (h : ¬ okSum xs) : rdX xs k r i = none := by
  unfold rdX; rw [if_neg (fun h2 => h h2.1)]
theorem toNat_map (xs : List Nat) : (xs.map fun b : Nat => (b : Int)).map Int.toNat = xs := by
  rw [List.map_map]
  conv => rhs; rw [← List.map_id xs]
  exact List.map_congr_left fun x _ => rfl
/-! ### Rot -/
def rotN (x : List Nat) (off mask : Nat) : Nat → List Nat
  | 0 => x
  | i + 1 => (rotN x off mask i).set (off + i) (gt (rotN x off mask i) (off + i) ^^^ (mask / 2 ^ (8 * i) % 256))
theorem rotN_len (x : List Nat) (off mask : Nat) : ∀ i, (rotN x off mask i).length = x.length
  | 0 => rfl
  | i + 1 => by rw [rotN, List.length_set, rotN_len x off mask i]
theorem rotN_byt {x : List Nat} (hx : Byt x) (off mask : Nat) : ∀ i, Byt (rotN x off mask i)
  | 0 => hx
  | i + 1 => by
    have ih := rotN_byt hx off mask i
    intro y hy
    rcases List.mem_or_eq_of_mem_set hy with h | rfl
    · exact ih y h
    · exact Nat.xor_lt_two_pow (n := 8) (gt_lt ih _) (Nat.mod_lt _ (by omega))
theorem rotTo_nat {x : List Nat} (hx : Byt x) {off mask : Nat} (ho : off + 4 ≤ x.length) : ∀ i, i ≤ 4 → rotTo (x.map fun b : Nat => (b : Int)) off (mask : Int) i = (rotN x off mask i).map fun b : Nat => (b : Int)
  | 0, _ => rfl
  | i + 1, hi => by
    have hl := rotN_len x off mask i
    have e : ((rotN x off mask i).map fun b : Nat => (b : Int))[off + i]? = some ((gt (rotN x off mask i) (off + i) : Nat) : Int) := by
      rw [List.getElem?_map, gt_of_lt (by omega)]; rfl
    rw [rotTo, rotTo_nat hx ho i (by omega), e, rotN, List.map_set]
    congr 1
    rw [Option.getD_some, rotV_eq]
    have e2 : (mask : Int) / 2 ^ (8 * i) % 256 = ((mask / 2 ^ (8 * i) % 256 : Nat) : Int) := by rw [Int.natCast_emod, Int.natCast_ediv, Int.natCast_pow]; rfl
    rw [e2]
    exact xor_bits (gt_lt (rotN_byt hx off mask i) _) (Nat.mod_lt _ (by omega))
theorem rotN_gt {x : List Nat} {off mask : Nat} (ho : off + 4 ≤ x.length) : ∀ i, i ≤ 4 → ∀ j, j < x.length → gt (rotN x off mask i) j = gt x j ^^^ (if off ≤ j ∧ j < off + i then mask / 2 ^ (8 * (j - off)) % 256 else 0)
  | 0, _, j, _ => by rw [if_neg (by omega), Nat.xor_zero]; rfl
  | i + 1, hi, j, hj => by
    have ih := rotN_gt (mask := mask) ho i (by omega)
    have hl := rotN_len x off mask i
    rw [rotN]
    by_cases e : j = off + i
    · subst e
      have h1 : gt ((rotN x off mask i).set (off + i) (gt (rotN x off mask i) (off + i) ^^^ (mask / 2 ^ (8 * i) % 256))) (off + i) = gt (rotN x off mask i) (off + i) ^^^ (mask / 2 ^ (8 * i) % 256) := by
        unfold gt; rw [List.getD_eq_getElem?_getD, List.getElem?_set_self (by omega)]; rfl
      rw [h1, ih _ hj, if_neg (by omega), Nat.xor_zero, if_pos (by omega), show off + i - off = i by omega]
    · have h1 : gt ((rotN x off mask i).set (off + i) (gt (rotN x off mask i) (off + i) ^^^ (mask / 2 ^ (8 * i) % 256))) j = gt (rotN x off mask i) j := by
        unfold gt; rw [List.getD_eq_getElem?_getD, List.getElem?_set_ne (fun h => e h.symm), ← List.getD_eq_getElem?_getD]
      rw [h1, ih j hj]
      by_cases h2 : off ≤ j ∧ j < off + i
      · rw [if_pos h2, if_pos (by omega)]
      · rw [if_neg h2, if_neg (by omega)]
theorem xorL_gt : ∀ (l m : List Nat), l.length = m.length → ∀ j, gt (xorL l m) j = gt l j ^^^ gt m j
  | [], [], _, j => by show gt [] j = gt [] j ^^^ gt [] j; rw [Nat.xor_self]; rfl
  | [], _ :: _, h, _ => by simp at h
  | _ :: _, [], h, _ => by simp at h
  | a :: al, b :: bl, h, 0 => rfl
  | a :: al, b :: bl, h, j + 1 => xorL_gt al bl (by simpa using h) j
theorem rotD_gt {off mask : Nat} (ho : off ≤ 60) (j : Nat) : gt (rotD off mask) j = if off ≤ j ∧ j < off + 4 then mask / 2 ^ (8 * (j - off)) % 256 else 0 := by
  unfold rotD gt
  rw [List.getD_eq_getElem?_getD]
  by_cases h1 : j < off
  · rw [List.getElem?_append_left (by simpa using h1), List.getElem?_replicate, if_pos h1, if_neg (by omega)]; rfl
  · rw [List.getElem?_append_right (by simp; omega), List.length_replicate]
    obtain ⟨d, rfl⟩ : ∃ d, j = off + d := ⟨j - off, by omega⟩
    rw [show off + d - off = d by omega]
    unfold le4
    match d with
    | 0 => rw [if_pos (by omega)]; simp
    | 1 => rw [if_pos (by omega)]; simp
    | 2 => rw [if_pos (by omega)]; simp
    | 3 => rw [if_pos (by omega)]; simp
    | d + 4 =>
      rw [if_neg (by omega)]
      simp only [List.cons_append, List.nil_append, List.getElem?_cons_succ, List.getElem?_replicate]
      split <;> rfl
theorem rotN_xor {x : List Nat} (hl : x.length = 64) {off mask : Nat} (ho : off ≤ 60) : rotN x off mask 4 = xorL x (rotD off mask) := by
  have h1 := rotD_len (mask := mask) ho
  refine gt_ext (by rw [rotN_len, xorL_len _ _ (by rw [hl, h1])]) fun j hj => ?_
  rw [rotN_len] at hj
  rw [rotN_gt (by omega) 4 (Nat.le_refl _) j hj, xorL_gt _ _ (by rw [hl, h1]), rotD_gt ho]
/-- Rot of what was put is seen. -/
theorem rdX_rot {x : Shd} (hx : x.ok) {off mask : Nat} (ho : off ≤ 60) (hm0 : mask ≠ 0) (hm : mask < 4294967296) (k : Nat) (r : Ref) (i : Nat) : rdX ((rotTo (wrI x) off (mask : Int) 4).map Int.toNat) k r i = none := by
  have hl := sncS_len (x := x) hx.l
  have hb := sncS_byt hx
  unfold wrI
  rw [rotTo_nat hb (by omega) 4 (Nat.le_refl _), toNat_map, rotN_xor hl ho]
  exact rdX_sum (rot_seen hl hb ho hm0 hm (sncS_sum hx.l))
/-- What can lie in a sector. -/
def GoodV (V : List Int) : Prop := V.length = 64 ∧ ∀ x ∈ V, 0 ≤ x ∧ x < 256
theorem goodV_zero : GoodV (rep 0) := ⟨rep_len 0, fun x hx => by rw [(List.mem_replicate.1 hx).2]; omega⟩
theorem goodV_nat {xs : List Nat} (hl : xs.length = 64) (hb : Byt xs) : GoodV (xs.map fun b : Nat => (b : Int)) := ⟨by rw [List.length_map, hl], fun x hx => by
  obtain ⟨y, hy, rfl⟩ := List.mem_map.1 hx
  have := hb y hy
  omega⟩
theorem goodV_wr {x : Shd} (hx : x.ok) : GoodV (wrI x) := goodV_nat (sncS_len hx.l) (sncS_byt hx)
theorem goodV_rot {x : Shd} (hx : x.ok) {off mask : Nat} (ho : off ≤ 60) : GoodV (rotTo (wrI x) off (mask : Int) 4) := by
  have hl := sncS_len (x := x) hx.l
  have hb := sncS_byt hx
  unfold wrI
  rw [rotTo_nat hb (by omega) 4 (Nat.le_refl _)]
  exact goodV_nat (by rw [rotN_len, hl]) (rotN_byt hb off mask 4)
theorem rdOk_of {sts : List DSt} {z : Nat} (h : ∀ st ∈ sts, GoodV (st.seen z)) : RdOk sts z := ⟨fun st hst x hx => (h st hst).2 x hx, fun st hst => by unfold secN; rw [List.length_map, (h st hst).1]⟩
end
section
def deadL (sts : List DSt) (d : Nat) : Bool := ((sts[d]?).map (·.dead)).getD true
def wrG (n : Nat) (r : Ref) (size : Nat) (wh : Nat → Bool) (rw : Nat → List Nat) (N d : Nat) (st : DSt) : DSt :=
  if wh (ixN N r.place d) = true then wrDA n st (r.place : Int) (wrI (shR r (ixN N r.place d) size (rw (ixN N r.place d)))) else st
section
variable {n size : Nat} {r : Ref} {wh : Nat → Bool} {rw : Nat → List Nat} {sts : List DSt}
theorem wrS_at (hN : 1 ≤ sts.length) : ∀ i, i ≤ sts.length → (∀ d st, sts[d]? = some st → (wrS n r size wh rw sts i).1[d]? = some (if ixN sts.length r.place d < i then wrG n r size wh rw sts.length d st else st)) ∧
    (wrS n r size wh rw sts i).2 = ((List.range i).filter fun j => wh j && !deadL sts (homeN sts.length r.place j)).length
  | 0, _ => ⟨fun d st h => by rw [if_neg (by omega)]; exact h, rfl⟩
  | i + 1, hi => by
    obtain ⟨h1, h2⟩ := wrS_at hN i (by omega)
    have hlt : homeN sts.length r.place i < sts.length := homeN_lt hN
    have hix : ixN sts.length r.place (homeN sts.length r.place i) = i := ix_home hN (by omega)
    obtain ⟨s0, hs0⟩ : ∃ s0, sts[homeN sts.length r.place i]? = some s0 := ⟨_, List.getElem?_eq_getElem hlt⟩
    have hcur := h1 _ _ hs0
    rw [hix, if_neg (by omega)] at hcur
    rw [List.range_succ, List.filter_append, List.length_append]
    cases hw : wh i with
    | false =>
      rw [wrS_skip hw]
      refine ⟨fun d st hd => ?_, ?_⟩
      · rw [h1 d st hd]
        by_cases e : ixN sts.length r.place d = i
        · rw [if_neg (by omega), if_pos (by omega)]
          unfold wrG
          rw [e, hw]; rfl
        · by_cases e2 : ixN sts.length r.place d < i
          · rw [if_pos e2, if_pos (by omega)]
          · rw [if_neg e2, if_neg (by omega)]
      · rw [h2, List.filter_cons_of_neg (by simp [hw])]; rfl
    | true =>
      rw [wrS_do hw hcur]
      refine ⟨fun d st hd => ?_, ?_⟩
      · have hdl := (List.getElem?_eq_some_iff.1 hd).1
        by_cases e : ixN sts.length r.place d = i
        · have e3 : d = homeN sts.length r.place i := by rw [← e, home_ix hN hdl]
          subst e3
          have : s0 = st := Option.some.inj (hs0.symm.trans hd)
          subst this
          rw [List.getElem?_set_self (by rw [wrS_len]; exact hlt), if_pos (by omega)]
          unfold wrG
          rw [hix, if_pos hw]
        · have e3 : homeN sts.length r.place i ≠ d := fun h => e (by rw [← h]; exact hix)
          rw [List.getElem?_set_ne e3, h1 d st hd]
          by_cases e2 : ixN sts.length r.place d < i
          · rw [if_pos e2, if_pos (by omega)]
          · rw [if_neg e2, if_neg (by omega)]
      · rw [h2]
        have hdd : deadL sts (homeN sts.length r.place i) = s0.dead := by unfold deadL; rw [hs0]; rfl
        cases hb : s0.dead with
        | true => rw [if_pos rfl, List.filter_cons_of_neg (by simp [hw, hdd, hb])]; rfl
        | false => rw [if_neg (by simp), List.filter_cons_of_pos (by simp [hw, hdd, hb])]; rfl
/-- The drives behind it, each by itself. -/
theorem wrS_map (hN : 1 ≤ sts.length) : (wrS n r size wh rw sts sts.length).1 = sts.mapIdx (wrG n r size wh rw sts.length) := by
  apply List.ext_getElem?
  intro d
  rw [List.getElem?_mapIdx]
  by_cases hd : d < sts.length
  · have h := (wrS_at (n := n) (size := size) (r := r) (wh := wh) (rw := rw) hN sts.length (Nat.le_refl _)).1 d _ (List.getElem?_eq_getElem hd)
    rw [h, List.getElem?_eq_getElem hd, if_pos (ixN_lt hN)]; rfl
  · rw [List.getElem?_eq_none (by rw [wrS_len]; omega), List.getElem?_eq_none (by omega)]; rfl
theorem wrS_taken (hN : 1 ≤ sts.length) : (wrS n r size wh rw sts sts.length).2 = ((List.range sts.length).filter fun j => wh j && !deadL sts (homeN sts.length r.place j)).length := (wrS_at hN sts.length (Nat.le_refl _)).2
/-- All of a stripe: as many as aren't dead. -/
theorem wrS_all (hN : 1 ≤ sts.length) : (wrS n r size (fun _ => true) rw sts sts.length).2 = ((List.range sts.length).filter fun d => !deadL sts d).length := by
  rw [wrS_taken hN, ← home_count hN (p := r.place) (fun d => !deadL sts d)]; rfl
end
theorem wrDA_dead {n : Nat} {st : DSt} (h : st.dead = true) (z : Int) (bs : List Int) : wrDA n st z bs = st := by
  unfold wrDA
  rw [if_neg]
  intro h2
  unfold readyE at h2
  rw [h] at h2
  exact absurd h2.1 (by rw [if_pos rfl]; decide)
theorem wrDA_live {n z : Nat} {st : DSt} (h : st.dead = false) (hz : z < n) {bs : List Int} (hl : bs.length = 64) : wrDA n st (z : Int) bs = st.write (z : Int) bs := by
  unfold wrDA
  rw [if_pos]
  refine ⟨?_, hl⟩
  unfold readyE
  rw [h]
  simp [hz]
theorem wrI_len {x : Shd} (h : x.body.length = 44) : (wrI x).length = 64 := by unfold wrI; rw [List.length_map, sncS_len h]
/-! ### What is read -/
section
variable {sts : List DSt} {k i : Nat} {r : Ref} {st : DSt}
theorem stR_at (h : sts[homeN sts.length r.place i]? = some st) : stR sts k r i = rdS st k r i := by unfold stR; rw [h]
theorem rdS_dead (h : st.dead = true) : rdS st k r i = none := by unfold rdS; rw [if_pos h]
theorem rdS_zero (h : st.seen r.place = rep 0) : rdS st k r i = none := by
  unfold rdS
  split
  · rfl
  · unfold secN
    rw [h]
    exact rdX_zero k r i
theorem rdS_rot {x : Shd} (hx : x.ok) {off mask : Nat} (ho : off ≤ 60) (hm0 : mask ≠ 0) (hm : mask < 4294967296) (h : st.seen r.place = rotTo (wrI x) off (mask : Int) 4) : rdS st k r i = none := by
  unfold rdS
  split
  · rfl
  · unfold secN
    rw [h]
    exact rdX_rot hx ho hm0 hm k r i
theorem rdS_snc {x : Shd} (hx : x.ok) (hk : kindB x.kind = true) (h : st.seen r.place = wrI x) : rdS st k r i = if st.dead = false ∧ isB x r i = true ∧ x.size ≤ k * 44 then some x else none := by
  unfold rdS
  cases hd : st.dead with
  | true => rw [if_pos rfl, if_neg (by simp)]
  | false =>
    rw [if_neg (by simp)]
    unfold secN
    rw [h]
    unfold wrI
    rw [toNat_map, rdX_snc hx hk]
    by_cases h2 : isB x r i = true ∧ x.size ≤ k * 44
    · rw [if_pos h2, if_pos ⟨rfl, h2⟩]
    · rw [if_neg h2, if_neg (fun h3 => h2 h3.2)]
end
theorem isB_same (r : Ref) (i size : Nat) (row : List Nat) : isB (shR r i size row) r i = true := by unfold isB shR; simp
end
section
def mayB (k m : Int) : Bool := decide (1 ≤ k ∧ 1 ≤ m ∧ k ≤ 255 ∧ m ≤ 255 - k)
set_option maxRecDepth 100000 in
set_option maxHeartbeats 4000000 in
theorem may_any {w : World} (k m : Int) :
    Calls Tryz.prog 56 #[.int .i64 k, .int .i64 m] w fun e w' => e = .returned (.bool (mayB k m)) ∧ w' = w := by
  go_enter Tryz.func56, Tryz.ntmps56
  by_cases h1 : k ≥ 1
  · by_cases h2 : m ≥ 1
    · by_cases h3 : k ≤ 255
      · by_cases h4 : m ≤ 255 - k
        · have h5 : m ≤ 255 - k := h4
          go_wp2_with fail
          go_ret
          exact ⟨by rw [show mayB k m = true from decide_eq_true (by omega)]; simp [h4], rfl⟩
        · go_wp2_with fail
          go_ret
          exact ⟨by rw [show mayB k m = false from decide_eq_false (by omega)]; simp <;> omega, rfl⟩
      · go_wp2_with fail
        go_ret
        exact ⟨by rw [show mayB k m = false from decide_eq_false (by omega)]; simp <;> omega, rfl⟩
    · go_wp2_with fail
      go_ret
      exact ⟨by rw [show mayB k m = false from decide_eq_false (by omega)]; simp <;> omega, rfl⟩
  · go_wp2_with fail
    go_ret
    exact ⟨by rw [show mayB k m = false from decide_eq_false (by omega)]; simp <;> omega, rfl⟩

theorem CodF.bound {C : Nat → Prop} {w : World} {cb b k m : Nat} (h : CodF C w cb b k m) : CodF (fun j => C j ∧ j < w.heap.size) w cb b k m := by
  obtain ⟨A, c, h1, h2, h3⟩ := h.box
  exact ⟨⟨A, c, h1, h2, h3.stable ByR.stable fun j hj hl => ⟨⟨hj, hl⟩, rfl⟩⟩, ⟨h.cc, h1.lt⟩, ⟨h.cf, h.fld.lt⟩, h.fld, h.k1, h.m1, h.km⟩
/-- Drives and a coder, all of whose blocks are younger than the law's call. -/
structure SMid (w0 w : World) (a cb bf k m n : Nat) (sts : List DSt) : Prop where
  bel : Below w0.heap.size w0 w
  ex : ∃ U C, ArrAt U w a n sts ∧ CodF C w cb bf k m ∧ (∀ j, U j → w0.heap.size ≤ j) ∧ (∀ j, C j → ¬ U j ∧ j < w.heap.size)
  len : sts.length = k + m
  n1 : 1 ≤ n
  n2 : n ≤ 600
section
variable {w0 w w' : World} {a cb bf k m n : Nat} {sts : List DSt}
theorem SMid.cod (h : SMid w0 w a cb bf k m n sts) : CodAt w cb bf k m := by
  obtain ⟨U, C, _, hC, _⟩ := h.ex
  exact hC.at
theorem SMid.k1 (h : SMid w0 w a cb bf k m n sts) : 1 ≤ k := h.cod.k1
theorem SMid.m1 (h : SMid w0 w a cb bf k m n sts) : 1 ≤ m := h.cod.m1
theorem SMid.km (h : SMid w0 w a cb bf k m n sts) : k + m ≤ 255 := h.cod.km
theorem SMid.below (h : SMid w0 w a cb bf k m n sts) (hb : Below w.heap.size w w') : SMid w0 w' a cb bf k m n sts := by
  obtain ⟨U, C, hA, hC, hU, hd⟩ := h.ex
  exact ⟨h.bel.trans (hb.mono h.bel.size), ⟨U, C, hA.below hb, hC.below hb, hU, fun j hj => ⟨(hd j hj).1, Nat.lt_of_lt_of_le (hd j hj).2 hb.size⟩⟩, h.len, h.n1, h.n2⟩
theorem SMid.ok (h : SMid w0 w a cb bf k m n sts) : ∀ st ∈ sts, st.ok n := by
  obtain ⟨U, C, hA, _⟩ := h.ex
  exact hA.ok
/-- A call that went on with the drives. -/
theorem SMid.step {sts' : List DSt} {f : FuncId} {args : Array Value} {Q : Ending → World → Prop} (h : SMid w0 w a cb bf k m n sts) (hl : sts'.length = sts.length)
    (hc : ∀ U, ArrAt U w a n sts → (∀ j, U j → w0.heap.size ≤ j) → Calls Tryz.prog f args w fun e w' => Q e w' ∧ AUpd U w w' a n sts') :
    Calls Tryz.prog f args w fun e w' => Q e w' ∧ SMid w0 w' a cb bf k m n sts' := by
  obtain ⟨U, C, hA, hC, hU, hd⟩ := h.ex
  refine (hc U hA hU).mono ?_
  rintro e w' ⟨hq, U', hA', hU', hK⟩
  refine ⟨hq, h.bel.trans (hK.below h.bel.size hU), ⟨U', C, hA', hC.keep hK (fun j hj => (hd j hj).1), fun j hj => ?_, fun j hj => ⟨fun hu => (hd j hj).1 (hU' j hu (hd j hj).2), Nat.lt_of_lt_of_le (hd j hj).2 hK.size⟩⟩, by rw [hl, h.len], h.n1, h.n2⟩
  by_cases hlt : j < w.heap.size
  · exact hU j (hU' j hj hlt)
  · have := h.bel.size; omega
variable {r : Ref}
theorem whole_mid (h : SMid w0 w a cb bf k m n sts) (hr : r.ok n) (hR : RdOk sts r.place) :
    Calls Tryz.prog 64 #[.pointer (some ⟨a, 0, none⟩), .pointer (some ⟨cb, 0, none⟩), .agg (refC r)] w fun e w' => ∃ g, e = .returned (.slice (some ⟨g, 0, none⟩) (k + m) (k + m)) ∧ RdL BoolR 1 (fun j => w.heap.size ≤ j) w' (some ⟨g, 0, none⟩) (k + m) (wsU (wholeF (stR sts k r) (k + m)).1 (k + m) (k + m)) ∧ Below w.heap.size w w' := by
  obtain ⟨U, C, ⟨v, Fs, ps, hA⟩, hC, hU, hd⟩ := h.ex
  exact swholes_any (Lib.hid hA) hC.at h.len hr hR
end
end
section
def smallB (k m s : Int) : Bool := decide (1 ≤ k ∧ 1 ≤ m ∧ k + m ≤ 10 ∧ 1 ≤ s ∧ s ≤ 8)
def geoC (k m s : Int) : Array Value := #[.int .i64 k, .int .i64 m, .int .i64 s]
set_option maxRecDepth 100000 in
set_option maxHeartbeats 4000000 in
theorem small_any {w : World} (k m s : Int) : Calls Tryz.prog 11 #[.agg (geoC k m s)] w fun e w' => e = .returned (.bool (smallB k m s)) ∧ Below w.heap.size w w' := by
  have hma := fun w => may_any (w := w) k m
  have hb0 : Below w.heap.size w (w.alloc (.cells (geoC k m s) 23)) := (Below.refl _ _).alloc (Nat.le_refl _) _
  unfold geoC at hb0 ⊢
  go_enter Tryz.func11, Tryz.ntmps11
  cases hm : mayB k m with
  | false =>
    rw [hm] at hma
    have hs : Hid (smallB k m s = false) := Lib.hid (by
      unfold mayB at hm
      have := of_decide_eq_false hm
      exact decide_eq_false (by omega))
    go_wp2_with (go_at_call 56; refine (hma _).mono ?_; rintro e w3 ⟨rfl, hw3⟩; rw [hw3]; clear hw3 hma)
    go_ret
    exact ⟨by rw [hs.out]; rfl, hb0⟩
  | true =>
    rw [hm] at hma
    have hm' := of_decide_eq_true hm
    have q0 : IntKind.i64.wrap (k + m) = k + m := by rw [IntKind.wrap_i64]; omega
    by_cases h1 : k + m ≤ 10
    · by_cases h2 : s ≥ 1
      · by_cases h3 : s ≤ 8
        · have hs := Lib.hid (show smallB k m s = true from decide_eq_true (by omega))
          go_wp2_with (go_at_call 56; refine (hma _).mono ?_; rintro e w3 ⟨rfl, hw3⟩; rw [hw3]; clear hw3 hma)
          go_ret
          exact ⟨by rw [hs.out]; simp [h3], hb0⟩
        · have hs := Lib.hid (show smallB k m s = false from decide_eq_false (by omega))
          go_wp2_with (go_at_call 56; refine (hma _).mono ?_; rintro e w3 ⟨rfl, hw3⟩; rw [hw3]; clear hw3 hma)
          go_ret
          exact ⟨by rw [hs.out]; simp [h3] <;> omega, hb0⟩
      · have hs := Lib.hid (show smallB k m s = false from decide_eq_false (by omega))
        go_wp2_with (go_at_call 56; refine (hma _).mono ?_; rintro e w3 ⟨rfl, hw3⟩; rw [hw3]; clear hw3 hma)
        go_ret
        exact ⟨by rw [hs.out]; simp [h2] <;> omega, hb0⟩
    · have hs := Lib.hid (show smallB k m s = false from decide_eq_false (by omega))
      go_wp2_with (go_at_call 56; refine (hma _).mono ?_; rintro e w3 ⟨rfl, hw3⟩; rw [hw3]; clear hw3 hma)
      go_ret
      exact ⟨by rw [hs.out]; simp [h1] <;> omega, hb0⟩
end
section
def cntP (P : Nat → Bool) (N : Nat) : Nat := ((List.range N).filter P).length
section
variable {w0 w : World} {a cb bf k m n : Nat} {sts : List DSt} {r : Ref} {P : Nat → Bool} {xs : List Nat}
theorem std_whole (hP : ∀ i, i < k + m → stR sts k r i = if P i = true then some (shR r i xs.length (codeRow k 44 (splF 44 xs k k) i)) else none) : (wholeF (stR sts k r) (k + m)).1 = stdL P r xs.length (codeRow k 44 (splF 44 xs k k)) (k + m) ∧ (0 < cntP P (k + m) → (wholeF (stR sts k r) (k + m)).2 = xs.length) := by
  obtain ⟨h1, h2⟩ := whole_std hP (k + m) (Nat.le_refl _)
  refine ⟨h1, fun hc => h2 ?_⟩
  rw [h1, stdL_len]
  exact hc
theorem whole_stdM (h : SMid w0 w a cb bf k m n sts) (hr : r.ok n) (hV : ∀ st ∈ sts, GoodV (st.seen r.place))
    (hP : ∀ i, i < k + m → stR sts k r i = if P i = true then some (shR r i xs.length (codeRow k 44 (splF 44 xs k k) i)) else none) :
    Calls Tryz.prog 64 #[.pointer (some ⟨a, 0, none⟩), .pointer (some ⟨cb, 0, none⟩), .agg (refC r)] w fun e w' => ∃ g, e = .returned (.slice (some ⟨g, 0, none⟩) (k + m) (k + m)) ∧ RdL BoolR 1 (fun j => w.heap.size ≤ j) w' (some ⟨g, 0, none⟩) (k + m) ((List.range (k + m)).map P) ∧ Below w.heap.size w w' := by
  have h1 := whole_mid h hr (rdOk_of hV)
  rw [(std_whole hP).1, stdL_whole] at h1
  exact h1
end
/-- What a drive is behind a Put. -/
def putQ (n k N : Nat) (r : Ref) (xs : List Nat) (d : Nat) (st : DSt) : DSt := wrG n r xs.length (fun _ => true) (codeRow k 44 (splF 44 xs k k)) N d st
def putX (k N : Nat) (r : Ref) (xs : List Nat) (d : Nat) : Shd := shR r (ixN N r.place d) xs.length (codeRow k 44 (splF 44 xs k k) (ixN N r.place d))
theorem row44 {xs : List Nat} (hx : Byt xs) (k i : Nat) : (codeRow k 44 (splF 44 xs k k) i).length = 44 ∧ Byt (codeRow k 44 (splF 44 xs k k) i) := codeRow_ok (splF_shp (width := 44) hx k) i
theorem shR_ok {r : Ref} {n : Nat} (hr : r.ok n) (hn : n ≤ 600) (hg : Hid (r.gen < 2 ^ 64)) {i size : Nat} (hi : i < 256) (hs : size < 65536) {row : List Nat} (hl : row.length = 44) (hb : Byt row) : (shR r i size row).ok :=
  ⟨by have := hr.k4; show r.kind < 256; omega, hi, by have := hr.p; show r.place < 65536; omega, hg.out, hs, hl, hb⟩
theorem putX_ok {r : Ref} {n k N : Nat} (hr : r.ok n) (hn : n ≤ 600) (hg : Hid (r.gen < 2 ^ 64)) {xs : List Nat} (hx : Byt xs) (hl : xs.length < 65536) (hN : 1 ≤ N) (hN2 : N ≤ 255) (d : Nat) : (putX k N r xs d).ok :=
  shR_ok hr hn hg (by have := ixN_lt (n := N) (p := r.place) (d := d) hN; omega) hl (row44 hx k _).1 (row44 hx k _).2
theorem putX_kind {r : Ref} {n k N : Nat} (hr : r.ok n) (xs : List Nat) (d : Nat) : kindB (putX k N r xs d).kind = true := decide_eq_true ⟨hr.k1, hr.k4⟩
theorem putQ_live {n k N d : Nat} {r : Ref} (hr : r.ok n) {xs : List Nat} (hx : Byt xs) {st : DSt} (h : st.dead = false) : putQ n k N r xs d st = st.write (r.place : Int) (wrI (putX k N r xs d)) := by
  unfold putQ wrG
  rw [if_pos rfl]
  exact wrDA_live h hr.p (wrI_len (x := putX k N r xs d) (row44 hx k _).1)
theorem putQ_dead {n k N d : Nat} {r : Ref} {xs : List Nat} {st : DSt} (h : st.dead = true) : putQ n k N r xs d st = st := by
  unfold putQ wrG
  rw [if_pos rfl, wrDA_dead h]
theorem putQ_cache {n k N d : Nat} {r : Ref} {xs : List Nat} {st : DSt} : (putQ n k N r xs d st).cache.length ≤ st.cache.length + 1 := by
  unfold putQ wrG
  rw [if_pos rfl]
  exact wrDA_cache _ _ _
def liveC (sts : List DSt) : Nat := cntP (fun d => !deadL sts d) sts.length
section
variable {w0 w : World} {a cb bf k m n : Nat} {sts : List DSt} {r : Ref} {xs : List Nat}
end
/-! ### Drives that are dead -/
theorem gone_seen {n z : Nat} (hz : z < n) : (DSt.gone n).seen z = rep 0 := DSt.seen_new hz
end
section
def HasS (k N : Nat) (r : Ref) (xs : List Nat) (d : Nat) (st : DSt) : Prop := st.dead = false ∧ st.seen r.place = wrI (putX k N r xs d)
def LostS (k : Nat) (r : Ref) (st : DSt) : Prop := GoodV (st.seen r.place) ∧ ∀ i, rdS st k r i = none
section
variable {sts : List DSt} {k N n : Nat} {r : Ref} {xs : List Nat} {g : Nat → Bool}
theorem view_of (hr : r.ok n) (hn : n ≤ 600) (hg : Hid (r.gen < 2 ^ 64)) (hx : Byt xs) (hk : k ≤ 255) (hl : xs.length ≤ k * 44) (hN : 1 ≤ N) (hN2 : N ≤ 255) (hlen : sts.length = N)
    (hc : ∀ d st, sts[d]? = some st → (g d = true ∧ HasS k N r xs d st) ∨ (g d = false ∧ LostS k r st)) :
    (∀ st ∈ sts, GoodV (st.seen r.place)) ∧ ∀ i, i < N → stR sts k r i = if g (homeN N r.place i) = true then some (shR r i xs.length (codeRow k 44 (splF 44 xs k k) i)) else none := by
  have hX := fun d => putX_ok (k := k) hr hn hg hx (by omega) hN hN2 d
  constructor
  · intro st hst
    obtain ⟨d, hd, rfl⟩ := List.mem_iff_getElem.1 hst
    rcases hc d _ (List.getElem?_eq_getElem hd) with ⟨_, h⟩ | ⟨_, h⟩
    · rw [h.2]; exact goodV_wr (hX d)
    · exact h.1
  · intro i hi
    have hlt : homeN N r.place i < sts.length := by rw [hlen]; exact homeN_lt hN
    have hst : sts[homeN sts.length r.place i]? = some sts[homeN N r.place i] := by rw [hlen]; exact List.getElem?_eq_getElem hlt
    rw [stR_at hst]
    rcases hc _ _ (List.getElem?_eq_getElem hlt) with ⟨h0, h⟩ | ⟨h0, h⟩
    · rw [if_pos h0, rdS_snc (hX _) (putX_kind hr xs _) h.2]
      have e : putX k N r xs (homeN N r.place i) = shR r i xs.length (codeRow k 44 (splF 44 xs k k) i) := by unfold putX; rw [ix_home hN hi]
      rw [e, if_pos ⟨h.1, isB_same r i _ _, hl⟩]
    · rw [if_neg (by rw [h0]; simp), h.2]
theorem lost_dead {st : DSt} (h : st.dead = true) (hv : GoodV (st.seen r.place)) : LostS k r st := ⟨hv, fun _ => rdS_dead h⟩
theorem lost_zero {st : DSt} (h : st.seen r.place = rep 0) : LostS k r st := ⟨by rw [h]; exact goodV_zero, fun _ => rdS_zero h⟩
theorem lost_rot {st : DSt} {x : Shd} (hx : x.ok) {off mask : Nat} (ho : off ≤ 60) (hm0 : mask ≠ 0) (hm : mask < 4294967296) (h : st.seen r.place = rotTo (wrI x) off (mask : Int) 4) : LostS k r st := ⟨by rw [h]; exact goodV_rot hx ho, fun _ => rdS_rot hx ho hm0 hm h⟩
theorem has_put {st : DSt} (hr : r.ok n) (hx : Byt xs) (h : st.dead = false) {d : Nat} : HasS k N r xs d (putQ n k N r xs d st) := by
  rw [putQ_live hr hx h]
  exact ⟨h, by rw [DSt.seen_write, if_pos rfl]⟩
end
section
variable {w0 w : World} {a cb bf k m n : Nat} {sts : List DSt} {r : Ref} {g : Nat → Bool} {xs : List Nat}
theorem whole_view (h : SMid w0 w a cb bf k m n sts) (hr : r.ok n) (hg : Hid (r.gen < 2 ^ 64)) (hx : Byt xs) (hl : xs.length ≤ k * 44)
    (hc : ∀ d st, sts[d]? = some st → (g d = true ∧ HasS k (k + m) r xs d st) ∨ (g d = false ∧ LostS k r st)) :
    Calls Tryz.prog 64 #[.pointer (some ⟨a, 0, none⟩), .pointer (some ⟨cb, 0, none⟩), .agg (refC r)] w fun e w' => ∃ b, e = .returned (.slice (some ⟨b, 0, none⟩) (k + m) (k + m)) ∧ RdL BoolR 1 (fun j => w.heap.size ≤ j) w' (some ⟨b, 0, none⟩) (k + m) ((List.range (k + m)).map fun i => g (homeN (k + m) r.place i)) ∧ Below w.heap.size w w' := by
  have h1 := h.k1
  have h2 := h.km
  obtain ⟨v1, v2⟩ := view_of (N := k + m) hr h.n2 hg hx (by omega) hl (by omega) h2 h.len hc
  exact whole_stdM (P := fun i => g (homeN (k + m) r.place i)) h hr v1 v2
end
/-! ### Drives made, a stripe put, some dead -/
def newS (n N : Nat) : List DSt := List.replicate N (DSt.new n)
theorem newS_at {n N d : Nat} {st : DSt} (h : (newS n N)[d]? = some st) : st = DSt.new n ∧ d < N := by
  unfold newS at h
  rw [List.getElem?_replicate] at h
  split at h
  · rename_i h2; cases h; exact ⟨rfl, h2⟩
  · cases h
theorem live_new (n N : Nat) : liveC (newS n N) = N := by
  unfold liveC cntP
  rw [show (newS n N).length = N by unfold newS; simp, List.filter_eq_self.2, List.length_range]
  intro d hd
  have h := List.mem_range.1 hd
  unfold deadL newS
  rw [List.getElem?_replicate, if_pos h]; rfl
theorem mapIdx_at {f : Nat → DSt → DSt} {sts : List DSt} {d : Nat} {st : DSt} (h : (sts.mapIdx f)[d]? = some st) : ∃ s1, sts[d]? = some s1 ∧ st = f d s1 := by
  rw [List.getElem?_mapIdx] at h
  cases h1 : sts[d]? with
  | none => rw [h1] at h; cases h
  | some s1 => rw [h1] at h; exact ⟨s1, rfl, (Option.some.inj h).symm⟩
end
end Go.Proofs.YtihnlhfngmbglaaGreat
