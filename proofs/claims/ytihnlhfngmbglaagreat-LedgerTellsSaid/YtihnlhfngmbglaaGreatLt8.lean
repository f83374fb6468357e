/-
  Rot of a drive among others, whatever is asked, and the code that it answers.
  Drives and a coder in the midst of a law, beside blocks that stay as they are.
  Drives that die, one after another: plain; how many are left.
  Drives that lost a place: plain.
  A stripe that was put; another one put at its place: plain.
  A stripe that was put and flushed; drives that lost a place: plain.
  Mend, by which drives have their shard.
  A stripe's shards on the drives, whatever happens to them: plain.
  Drives, a coder and a pool in the midst of a law, beside blocks that stay as they are.
  How many bits of a word are set: plain.
  Words of bits as places that are taken: plain.
  The map of places that are taken: the small questions, Set, Count.
  The map of places that are taken: New; the least free places.
  The least free places of the map.
  Least; a pool's small questions.
  A pool: the small questions, Free, places.
  A pool: generations; Take.
  A pool gives out places; a new pool.
  A new pool; a pool's copy.
  Blobs: how many stripes, their names, pieces.
  Places and generations for a value.
  A value is put.
  Whether a blob may be; how long its stripes should be.
  A value is got.
  A law's base: rows, and places of a pool: is it small?
  A law's base: drives, a coder and a pool are made.
  A value is put: no room, too long.
  Without drives, a coder or a pool nothing is put or got; too long a value is not put.
  What is taken of a pool is free no more; a value's stripes lie on the drives as they were put, and stay.
  A long text's stripes: how much room, how many, which part.
  A long text's stripes: what a stripe's text is, and whom it tells of.
  Numbers as bytes, by the reference: joined, Put, Get.
  A shard put as a sector, as the document does: ref11.Put.
  A shard put as a sector, as the document does: ref11.Put.
  The document's rows of a text.
  The document's stripes: where a shard lies, and its sector.
  Waits, Sectors, Dead.
  The document's drive: its state as lists, in memory; New, has, Fail, Replace.
  The document's drive: Write.
-/
import Derived.Test.YtihnlhfngmbglaaGreatLt3
import Derived.Test.YtihnlhfngmbglaaGreatLt7
import Derived.Test.YtihnlhfngmbglaaGreatLt1
import Derived.Test.YtihnlhfngmbglaaGreatRows
import Derived.Test.YtihnlhfngmbglaaGreatLt4
import Derived.Test.YtihnlhfngmbglaaGreatLt6
import Derived.Test.YtihnlhfngmbglaaGreatLt5
import Derived.Test.YtihnlhfngmbglaaGreatLt2
import Derived.Deep.RegionLaw
set_option linter.unusedSimpArgs false
set_option linter.unusedVariables false
namespace Go.Proofs.YtihnlhfngmbglaaGreat
open Go.RowKit Go.Cib
attribute [local go_sem] cell_set Later.cell Later.frozen Grw.cell Grw.frozen
section

def rotC (d : Bool) (n : Nat) (z off mask : Int) (bad : Bool) : Int := if readyE d n z ≠ 0 then readyE d n z else if ¬ ((0 ≤ off ∧ off ≤ 60) ∧ ¬ mask = 0) then 2 else if bad then 91 else 0
section
variable {d bad : Bool} {n : Nat} {z off mask : Int}
theorem rotC_ready (h : readyE d n z ≠ 0) : rotC d n z off mask bad = readyE d n z := by unfold rotC; rw [if_pos h]
theorem rotC_arg (h : readyE d n z = 0) (h2 : ¬ ((0 ≤ off ∧ off ≤ 60) ∧ ¬ mask = 0)) : rotC d n z off mask bad = 2 := by unfold rotC; rw [if_neg (fun e => e h), if_pos h2]
theorem rotC_bad (h : readyE d n z = 0) (h2 : (0 ≤ off ∧ off ≤ 60) ∧ ¬ mask = 0) (h3 : bad = true) : rotC d n z off mask bad = 91 := by unfold rotC; rw [if_neg (fun e => e h), if_neg (fun e => e h2), if_pos h3]
theorem rotC_ok (h : readyE d n z = 0) (h2 : (0 ≤ off ∧ off ≤ 60) ∧ ¬ mask = 0) (h3 : bad = false) : rotC d n z off mask bad = 0 := by unfold rotC; rw [if_neg (fun e => e h), if_neg (fun e => e h2), h3]; rfl
end
theorem DrvAt.okk {F : Nat → Prop} {w : World} {p n : Nat} {st : DSt} (h : DrvAt F w p n st) : st.ok n := by
  obtain ⟨_, _, _, _, _, _, _, hB, _⟩ := h
  exact hB.ok
theorem DrvAt.updSame {F : Nat → Prop} {w w' : World} {p n : Nat} {st : DSt} (h : DrvAt F w p n st) (hb : Below w.heap.size w w') : Upd F w w' p n st := by
  exact h.upd hb
theorem rot_exact {F : Nat → Prop} {w : World} {p n : Nat} {st : DSt} (h : Hid (DrvAt F w p n st)) (z off mask : Int) :
    Calls Tryz.prog 78 #[.pointer (some ⟨p, 0, none⟩), .int .i64 z, .int .i64 off, .int .u32 mask] w fun e w' => e = .returned (.int .i64 (rotC st.dead n z off mask ((st.rotten[z.toNat]?).getD false))) ∧ Upd F w w' p n (if rotDOk st n z off mask then st.rot z.toNat off.toNat mask else st) := by
  by_cases hz : readyE st.dead n z = 0
  · obtain ⟨hd, h0, hn⟩ := (ready_iff st n z).1 hz
    by_cases ho : (0 ≤ off ∧ off ≤ 60) ∧ ¬ mask = 0
    · obtain ⟨k, rfl⟩ : ∃ k : Nat, z = k := ⟨z.toNat, by omega⟩
      obtain ⟨o, rfl⟩ : ∃ k : Nat, off = k := ⟨off.toNat, by omega⟩
      have hkn : k < n := by omega
      have hrl : st.rotten.length = n := h.out.okk.rl
      cases hr : st.rotten[k]? with
      | none => rw [List.getElem?_eq_none_iff] at hr; omega
      | some r =>
        cases r with
        | false =>
          refine (rot_good h hd k hkn o (by omega) mask ho.2 hr).mono ?_
          rintro e w' ⟨rfl, hu⟩
          have hok : rotDOk st n k o mask := ⟨⟨hd, h0, hn⟩, ho, by simpa using hr⟩
          rw [if_pos hok]
          exact ⟨by rw [rotC_ok hz ho (by simp [hr])], by simpa using hu⟩
        | true =>
          refine (rot_again h hd k hkn o (by omega) mask ho.2 hr).mono ?_
          rintro e w' ⟨rfl, hu⟩
          rw [if_neg (fun hok => by have := hok.2.2; simp [hr] at this)]
          exact ⟨by rw [rotC_bad hz ho (by simp [hr])], h.out.updSame hu⟩
    · refine (rot_off h z off mask hz ho).mono ?_
      rintro e w' ⟨rfl, hu⟩
      rw [if_neg (fun hok => ho hok.2.1)]
      exact ⟨by rw [rotC_arg hz ho], h.out.updSame hu⟩
  · refine (rot_unready h z off mask hz).mono ?_
    rintro e w' ⟨rfl, hu⟩
    rw [if_neg (fun hok => hz ((ready_iff st n z).2 hok.1))]
    exact ⟨by rw [rotC_ready hz], h.out.updSame hu⟩
def rotA (s : Nat) (sts : List DSt) (d z off mask : Int) : List DSt := if 0 ≤ d ∧ d < sts.length then (match sts[d.toNat]? with | some st => sts.set d.toNat (rtDA s st z off mask) | none => sts) else sts
def rotE (s : Nat) (sts : List DSt) (d z off mask : Int) : Int := if 0 ≤ d ∧ d < sts.length then (match sts[d.toNat]? with | some st => rotC st.dead s z off mask ((st.rotten[z.toNat]?).getD false) | none => 0) else 2
set_option maxRecDepth 100000 in
theorem arot_any {U : Nat → Prop} {w : World} {a s : Nat} {sts : List DSt} (h : Hid (ArrAt U w a s sts)) (hk : 0 < sts.length) (d z off mask : Int) :
    Calls Tryz.prog 32 #[.pointer (some ⟨a, 0, none⟩), .int .i64 d, .int .i64 z, .int .i64 off, .int .u32 mask] w fun e w' => e = .returned (.int .i64 (rotE s sts d z off mask)) ∧ AUpd U w w' a s (rotA s sts d z off mask) := by
  obtain ⟨v, Fs, ps, hB⟩ := h.out
  have HB := Lib.hid hB
  clear hB
  unfold rotA rotE
  by_cases hd : 0 ≤ d ∧ d < sts.length
  · rw [if_pos hd, if_pos hd]
    obtain ⟨k, rfl⟩ : ∃ k : Nat, d = k := ⟨d.toNat, by omega⟩
    obtain ⟨st, hst⟩ : ∃ st, sts[k]? = some st := ⟨_, List.getElem?_eq_getElem (by omega)⟩
    clear hd
    rw [Int.toNat_natCast, hst]
    dsimp only
    obtain ⟨p, hp, hD, hd⟩ := HB.out.p_at hst
    have HD := Lib.hid hD
    clear hD
    go_enter Tryz.func32, Tryz.ntmps32
    go_wp2_with fail
    refine (areach_in HB k hd hp).mono ?_
    rintro e w1 ⟨rfl, t1⟩
    have T1 := Lib.hid t1
    clear t1
    go_wp2_with fail
    refine (rot_exact (Lib.hid (HD.out.below T1.out)) z off mask).mono ?_
    rintro e w2 ⟨rfl, u2⟩
    have U2 := Lib.hid (show Upd (Fs k) w1 w2 p s (rtDA s st z off mask) from u2)
    clear u2
    go_wp2_with fail
    go_ret
    exact ⟨rfl, HB.out.upd2 T1.out hp U2.out⟩
  · rw [if_neg hd, if_neg hd]
    go_enter Tryz.func32, Tryz.ntmps32
    go_wp2_with fail
    refine (areach_out HB hk d hd).mono ?_
    rintro e w1 ⟨rfl, t1⟩
    go_wp2_with fail
    go_ret
    exact ⟨rfl, h.out.upd t1⟩
end
section
/-- As SMid, and none of X's blocks is the drives'. -/
def SMidX (X : Nat → Prop) (w0 w : World) (a cb bf k m n : Nat) (sts : List DSt) : Prop :=
  Below w0.heap.size w0 w ∧ (∃ U C, ArrAt U w a n sts ∧ CodF C w cb bf k m ∧ (∀ j, U j → w0.heap.size ≤ j) ∧ (∀ j, C j → ¬ U j ∧ j < w.heap.size) ∧ (∀ j, X j → ¬ U j ∧ j < w.heap.size)) ∧ sts.length = k + m ∧ 1 ≤ n ∧ n ≤ 600
/-- X's blocks are as they were. -/
def KpX (X : Nat → Prop) (w w' : World) : Prop := (∀ j, X j → w'.heap[j]? = w.heap[j]?) ∧ w.heap.size ≤ w'.heap.size
theorem KpX.refl {X : Nat → Prop} {w : World} : KpX X w w := ⟨fun _ _ => rfl, Nat.le_refl _⟩
theorem KpX.trans {X : Nat → Prop} {w w' w2 : World} (h : KpX X w w') (h2 : KpX X w' w2) : KpX X w w2 := ⟨fun j hj => (h2.1 j hj).trans (h.1 j hj), Nat.le_trans h.2 h2.2⟩
theorem KpX.mono {X Y : Nat → Prop} {w w' : World} (h : KpX X w w') (hy : ∀ j, Y j → X j) : KpX Y w w' := ⟨fun j hj => h.1 j (hy j hj), h.2⟩
theorem KpX.of_below {X : Nat → Prop} {w w' : World} (h : Below w.heap.size w w') (hx : ∀ j, X j → j < w.heap.size) : KpX X w w' := ⟨fun j hj => h.block j (hx j hj), h.size⟩
theorem KpX.box {X : Nat → Prop} {w w' : World} (h : KpX X w w') {b : Nat} {cs : Array Value} (hb : BoxAt w b cs) (hx : X b) : BoxAt w' b cs := hb.keep (h.1 b hx)
theorem KpX.rd {X : Nat → Prop} {w w' : World} (h : KpX X w w') {T : Type} {R : (Nat → Prop) → World → List Value → T → Prop} (hR : Stable R) {s : Nat} {S : Nat → Prop} {A : Option Addr} {g : Nat} {xs : List T} (r : RdL R s S w A g xs) (hx : ∀ j, S j → X j) : RdL R s S w' A g xs :=
  r.stable hR fun j hj _ => ⟨hj, h.1 j (hx j hj)⟩
section
variable {X Y : Nat → Prop} {w0 w w' : World} {a cb bf k m n : Nat} {sts : List DSt} {r : Ref}
theorem SMidX.mid (h : SMidX X w0 w a cb bf k m n sts) : SMid w0 w a cb bf k m n sts := by
  obtain ⟨hb, ⟨U, C, hA, hC, hU, hd, _⟩, hl, h1, h2⟩ := h
  exact ⟨hb, ⟨U, C, hA, hC, hU, hd⟩, hl, h1, h2⟩
theorem SMid.x0 (h : SMid w0 w a cb bf k m n sts) : SMidX (fun j => j < w0.heap.size) w0 w a cb bf k m n sts := by
  obtain ⟨U, C, hA, hC, hU, hd⟩ := h.ex
  exact ⟨h.bel, ⟨U, C, hA, hC, hU, hd, fun j hj => ⟨fun hu => by have := hU j hu; omega, Nat.lt_of_lt_of_le hj h.bel.size⟩⟩, h.len, h.n1, h.n2⟩
theorem SMidX.bel (h : SMidX X w0 w a cb bf k m n sts) : Below w0.heap.size w0 w := h.1
theorem SMidX.len (h : SMidX X w0 w a cb bf k m n sts) : sts.length = k + m := h.2.2.1
theorem SMidX.lt (h : SMidX X w0 w a cb bf k m n sts) {j : Nat} (hj : X j) : j < w.heap.size := by
  obtain ⟨_, ⟨U, C, _, _, _, _, hx⟩, _⟩ := h
  exact (hx j hj).2
theorem SMidX.sub (h : SMidX X w0 w a cb bf k m n sts) (hy : ∀ j, Y j → X j) : SMidX Y w0 w a cb bf k m n sts := by
  obtain ⟨hb, ⟨U, C, hA, hC, hU, hd, hx⟩, hl, h1, h2⟩ := h
  exact ⟨hb, ⟨U, C, hA, hC, hU, hd, fun j hj => hx j (hy j hj)⟩, hl, h1, h2⟩
/-- New blocks stay, too. -/
theorem SMidX.below (h : SMidX X w0 w a cb bf k m n sts) (hb : Below w.heap.size w w') : SMidX (fun j => X j ∨ (w.heap.size ≤ j ∧ j < w'.heap.size)) w0 w' a cb bf k m n sts := by
  obtain ⟨h0, ⟨U, C, hA, hC, hU, hd, hx⟩, hl, h1, h2⟩ := h
  refine ⟨h0.trans (hb.mono h0.size), ⟨U, C, hA.below hb, hC.below hb, hU, fun j hj => ⟨(hd j hj).1, Nat.lt_of_lt_of_le (hd j hj).2 hb.size⟩, fun j hj => ?_⟩, hl, h1, h2⟩
  rcases hj with hj | hj
  · exact ⟨(hx j hj).1, Nat.lt_of_lt_of_le (hx j hj).2 hb.size⟩
  · exact ⟨fun hu => by have := hA.lt hu; omega, hj.2⟩
theorem SMidX.below' (h : SMidX X w0 w a cb bf k m n sts) (hb : Below w.heap.size w w') : SMidX X w0 w' a cb bf k m n sts := (h.below hb).sub fun j hj => .inl hj
/-- A call that went on with the drives. -/
theorem SMidX.step {sts' : List DSt} {f : FuncId} {args : Array Value} {Q : Ending → World → Prop} (h : SMidX X w0 w a cb bf k m n sts) (hl : sts'.length = sts.length)
    (hc : ∀ U, ArrAt U w a n sts → (∀ j, U j → w0.heap.size ≤ j) → (∀ j, X j → ¬ U j ∧ j < w.heap.size) → Calls Tryz.prog f args w fun e w' => Q e w' ∧ AUpd U w w' a n sts') :
    Calls Tryz.prog f args w fun e w' => Q e w' ∧ SMidX X w0 w' a cb bf k m n sts' ∧ KpX X w w' := by
  obtain ⟨h0, ⟨U, C, hA, hC, hU, hd, hx⟩, hl0, h1, h2⟩ := h
  refine (hc U hA hU hx).mono ?_
  rintro e w' ⟨hq, U', hA', hU', hK⟩
  refine ⟨hq, ⟨h0.trans (hK.below h0.size hU), ⟨U', C, hA', hC.keep hK (fun j hj => (hd j hj).1), fun j hj => ?_, fun j hj => ⟨fun hu => (hd j hj).1 (hU' j hu (hd j hj).2), Nat.lt_of_lt_of_le (hd j hj).2 hK.size⟩, fun j hj => ⟨fun hu => (hx j hj).1 (hU' j hu (hx j hj).2), Nat.lt_of_lt_of_le (hx j hj).2 hK.size⟩⟩, by rw [hl, hl0], h1, h2⟩, fun j hj => hK.block j (hx j hj).2 (hx j hj).1, hK.size⟩
  by_cases hlt : j < w.heap.size
  · exact hU j (hU' j hj hlt)
  · have := h0.size; omega
theorem SMidX.cod (h : SMidX X w0 w a cb bf k m n sts) : CodAt w cb bf k m := h.mid.cod
theorem SMidX.pos (h : SMidX X w0 w a cb bf k m n sts) : 1 ≤ k ∧ 1 ≤ m ∧ k + m ≤ 255 ∧ 1 ≤ n ∧ n ≤ 600 := ⟨h.mid.k1, h.mid.m1, h.mid.km, h.2.2.2.1, h.2.2.2.2⟩
theorem rotA_len (s : Nat) (sts : List DSt) (d z off mask : Int) : (rotA s sts d z off mask).length = sts.length := by
  unfold rotA
  split
  · split <;> simp
  · rfl
end
theorem RdL.bound {X : Type} {R : (Nat → Prop) → World → List Value → X → Prop} (hR : Stable R) {s : Nat} {S : Nat → Prop} {w : World} {A : Option Addr} {n : Nat} {xs : List X} (h : RdL R s S w A n xs) : RdL R s (fun j => S j ∧ j < w.heap.size) w A n xs := h.stable hR fun j hj hl => ⟨⟨hj, hl⟩, rfl⟩
theorem cache_new {n N : Nat} : ∀ st ∈ newS n N, st.cache.length < 900000 := fun st hst => by
  obtain ⟨d, hd, rfl⟩ := List.mem_iff_getElem.1 hst
  rw [(newS_at (List.getElem?_eq_getElem hd)).1]
  show ([] : List (Int × List Int)).length < 900000
  decide
end
section
theorem lost_gone {k n : Nat} {r : Ref} (hr : r.ok n) : LostS k r (DSt.gone n) := lost_zero (gone_seen hr.p)
end
section
/-- What became of a drive. -/
def HurtD (n z : Nat) (st st' : DSt) : Prop := st' = DSt.gone n ∨ ∃ off mask : Nat, off ≤ 60 ∧ mask ≠ 0 ∧ mask < 4294967296 ∧ st.dead = false ∧ st' = st.rot z off (mask : Int)
structure HurtS (n z : Nat) (sts : List DSt) (D : List Int) (sts' : List DSt) : Prop where
  len : sts'.length = sts.length
  all : ∀ (d : Nat) st st', sts[d]? = some st → sts'[d]? = some st' → ((d : Int) ∉ D ∧ st' = st) ∨ ((d : Int) ∈ D ∧ HurtD n z st st')
theorem HurtS.none (n z : Nat) (sts : List DSt) : HurtS n z sts [] sts := ⟨rfl, fun d st st' h h' => .inl ⟨by simp, (Option.some.inj (h.symm.trans h')).symm⟩⟩
theorem HurtS.at {n z : Nat} {sts sts' : List DSt} {D : List Int} (h : HurtS n z sts D sts') {x : Int} (hx : 0 ≤ x ∧ x < (sts.length : Int)) (hn : x ∉ D) : ∃ st, sts[x.toNat]? = some st ∧ sts'[x.toNat]? = some st := by
  have h1 : x.toNat < sts.length := by omega
  refine ⟨sts[x.toNat], List.getElem?_eq_getElem h1, ?_⟩
  have h2 : x.toNat < sts'.length := by rw [h.len]; exact h1
  rw [List.getElem?_eq_getElem h2]
  rcases h.all x.toNat _ _ (List.getElem?_eq_getElem h1) (List.getElem?_eq_getElem h2) with ⟨_, e⟩ | ⟨hd, _⟩
  · rw [e]
  · rw [show ((x.toNat : Nat) : Int) = x by omega] at hd
    exact absurd hd hn
theorem HurtS.next {n z : Nat} {sts sts' : List DSt} {D : List Int} (h : HurtS n z sts D sts') {x : Int} (hx : 0 ≤ x ∧ x < (sts.length : Int)) (hn : x ∉ D) {st st' : DSt} (hst : sts[x.toNat]? = some st) (hd : HurtD n z st st') : HurtS n z sts (D ++ [x]) (sts'.set x.toNat st') := by
  refine ⟨by rw [List.length_set, h.len], fun d s s' h1 h2 => ?_⟩
  by_cases e : x.toNat = d
  · subst e
    rw [List.getElem?_set_self (by rw [h.len]; omega)] at h2
    cases h2
    have : s = st := Option.some.inj (h1.symm.trans hst)
    subst this
    exact .inr ⟨by rw [show ((x.toNat : Nat) : Int) = x by omega]; simp, hd⟩
  · rw [List.getElem?_set_ne e] at h2
    rcases h.all d s s' h1 h2 with ⟨a, b⟩ | ⟨a, b⟩
    · exact .inl ⟨by simp [a]; omega, b⟩
    · exact .inr ⟨by simp [a], b⟩
end
section
theorem ref3_ok {p g n : Nat} (h : p < n) : Ref.ok ⟨3, p, g⟩ n := ⟨(by decide : 1 ≤ 3), (by decide : 3 ≤ 4), h⟩
end
section
theorem cell_rot {st : DSt} {n z : Nat} (hc : st.cache = []) (hok : st.ok n) (hz : z < n) (off : Nat) (mask : Int) : (st.rot z off mask).seen z = rotTo (st.seen z) off mask 4 := by
  rw [DSt.seen_nil (st := st.rot z off mask) hc, DSt.seen_nil hc]
  show ((st.stored.set z (rotTo ((st.stored[z]?).getD []) off mask 4))[z]?).getD [] = _
  rw [List.getElem?_set_self (by rw [hok.sl]; exact hz)]; rfl
end
section
/-! ### Drives that are flushed, replaced, mended -/
end
section
/-- Which drives have their shard of a stripe; the others lost it. -/
def Hds (g : Nat → Bool) (k N : Nat) (r : Ref) (xs : List Nat) (sts : List DSt) : Prop := ∀ (d : Nat) (st : DSt), sts[d]? = some st → (g d = true ∧ HasS k N r xs d st) ∨ (g d = false ∧ LostS k r st)
theorem Hds.congr {g g' : Nat → Bool} {k N : Nat} {r : Ref} {xs : List Nat} {sts : List DSt} (h : Hds g k N r xs sts) (hg : ∀ d, d < sts.length → g' d = g d) : Hds g' k N r xs sts := fun d st hd => by
  rw [hg d (List.getElem?_eq_some_iff.1 hd).1]
  exact h d st hd
theorem lost_seen {k : Nat} {r : Ref} {st st' : DSt} (h : LostS k r st) (hs : st'.seen r.place = st.seen r.place) (hd : st'.dead = st.dead) : LostS k r st' := by
  refine ⟨by rw [hs]; exact h.1, fun i => ?_⟩
  have h2 := h.2 i
  unfold rdS secN at h2 ⊢
  rw [hs, hd]
  exact h2
/-- A place that isn't touched. -/
theorem Hds.map {g : Nat → Bool} {k N : Nat} {r : Ref} {xs : List Nat} {sts : List DSt} (h : Hds g k N r xs sts) {f : Nat → DSt → DSt} (hs : ∀ d st, sts[d]? = some st → (f d st).seen r.place = st.seen r.place ∧ (f d st).dead = st.dead) : Hds g k N r xs (sts.mapIdx f) := fun d st hd => by
  obtain ⟨s1, h1, rfl⟩ := mapIdx_at hd
  obtain ⟨a, b⟩ := hs d s1 h1
  rcases h d s1 h1 with ⟨e, x, y⟩ | ⟨e, x⟩
  · exact .inl ⟨e, by rw [b]; exact x, by rw [a]; exact y⟩
  · exact .inr ⟨e, lost_seen x a b⟩
theorem Hds.put {g : Nat → Bool} {n k N : Nat} {r q : Ref} {xs ys : List Nat} {sts : List DSt} (h : Hds g k N r xs sts) (hq : q.ok n) (hy : Byt ys) (hne : q.place ≠ r.place) {M : Nat} : Hds g k N r xs (sts.mapIdx (putQ n k M q ys)) :=
  h.map fun d st _ => by
    cases hd : st.dead with
    | true => rw [putQ_dead hd]; exact ⟨rfl, hd⟩
    | false =>
      rw [putQ_live hq hy hd]
      exact ⟨by rw [DSt.seen_write, if_neg (by omega)], hd⟩
/-- What was just put: those drives have it that live. -/
theorem Hds.new {n k N : Nat} {r : Ref} {xs : List Nat} {sts : List DSt} (hr : r.ok n) (hx : Byt xs) (hv : ∀ st ∈ sts, st.dead = true → GoodV (st.seen r.place)) : Hds (fun d => !deadL sts d) k N r xs (sts.mapIdx (putQ n k N r xs)) := fun d st hd => by
  obtain ⟨s1, h1, rfl⟩ := mapIdx_at hd
  have e : deadL sts d = s1.dead := by unfold deadL; rw [h1]; rfl
  dsimp only
  rw [e]
  cases hdd : s1.dead with
  | true => exact .inr ⟨rfl, by rw [putQ_dead hdd]; exact lost_dead hdd (hv s1 (List.mem_of_getElem? h1) hdd)⟩
  | false => exact .inl ⟨rfl, has_put hr hx hdd⟩
theorem flushG_dead (st : DSt) : (flushG st).dead = st.dead := by
  unfold flushG
  split <;> rfl
theorem flushG_seen {st : DSt} {n z : Nat} (hok : st.ok n) (hz : z < n) : (flushG st).seen z = st.seen z := by
  unfold flushG
  split
  · exact hok.seen_flush hz
  · rfl
theorem flushG_ok {st : DSt} {n : Nat} (hok : st.ok n) : (flushG st).ok n := by
  unfold flushG
  split
  · exact hok.settle _
  · exact hok
theorem Hds.flush {g : Nat → Bool} {n k N : Nat} {r : Ref} {xs : List Nat} {sts : List DSt} (h : Hds g k N r xs sts) (hr : r.ok n) (hok : ∀ st ∈ sts, st.ok n) : Hds g k N r xs (sts.map flushG) := by
  have e : sts.map flushG = sts.mapIdx (fun _ st => flushG st) := by
    apply List.ext_getElem?
    intro d
    rw [List.getElem?_map, List.getElem?_mapIdx]
  rw [e]
  exact h.map fun d st hd => ⟨flushG_seen (hok st (List.mem_of_getElem? hd)) hr.p, flushG_dead st⟩
theorem Hds.set {g g' : Nat → Bool} {k N : Nat} {r : Ref} {xs : List Nat} {sts : List DSt} (h : Hds g k N r xs sts) {x : Nat} {st' : DSt} (hg : ∀ d, d ≠ x → g' d = g d) (hx : x < sts.length → (g' x = true ∧ HasS k N r xs x st') ∨ (g' x = false ∧ LostS k r st')) : Hds g' k N r xs (sts.set x st') := fun d st hd => by
  by_cases e : x = d
  · subst e
    have hl := (List.getElem?_eq_some_iff.1 hd).1
    rw [List.length_set] at hl
    rw [List.getElem?_set_self hl] at hd
    obtain rfl := Option.some.inj hd
    exact hx hl
  · rw [List.getElem?_set_ne e] at hd
    rw [hg d (fun h => e h.symm)]
    exact h d st hd
def butB (g : Nat → Bool) (x : Int) (d : Nat) : Bool := g d && !decide ((d : Int) = x)
theorem Hds.fail {g : Nat → Bool} {n k N : Nat} {r : Ref} {xs : List Nat} {sts : List DSt} (h : Hds g k N r xs sts) (hr : r.ok n) (x : Int) : Hds (butB g x) k N r xs (failA n sts x) := by
  unfold failA
  split
  · rename_i hx
    refine h.set (fun d hd => ?_) fun hl => .inr ⟨?_, lost_gone hr⟩
    · unfold butB
      rw [decide_eq_false (by omega)]; simp
    · unfold butB
      rw [decide_eq_true (by omega)]; simp
  · rename_i hx
    refine h.congr fun d hd => ?_
    unfold butB
    rw [decide_eq_false (by omega)]; simp
end
section
/-- As SMidX; P's blocks are the pool's: no drive's, not the coder's. -/
def MidP (P X : Nat → Prop) (w0 w : World) (a cb bf k m n : Nat) (sts : List DSt) : Prop :=
  Below w0.heap.size w0 w ∧ (∃ U C, ArrAt U w a n sts ∧ CodF C w cb bf k m ∧ (∀ j, U j → w0.heap.size ≤ j) ∧ (∀ j, C j → ¬ U j ∧ j < w.heap.size) ∧ (∀ j, X j → ¬ U j ∧ ¬ C j ∧ j < w.heap.size) ∧ (∀ j, P j → ¬ U j ∧ ¬ C j ∧ j < w.heap.size ∧ w0.heap.size ≤ j)) ∧ (∀ j, P j → ¬ X j) ∧ sts.length = k + m ∧ 1 ≤ n ∧ n ≤ 600
section
variable {P X Y : Nat → Prop} {w0 w w' : World} {a cb bf k m n : Nat} {sts : List DSt} {r : Ref}
theorem MidP.x (h : MidP P X w0 w a cb bf k m n sts) : SMidX X w0 w a cb bf k m n sts := by
  obtain ⟨h0, ⟨U, C, hA, hC, hU, hd, hx, hp⟩, hpx, hl, h1, h2⟩ := h
  exact ⟨h0, ⟨U, C, hA, hC, hU, hd, fun j hj => ⟨(hx j hj).1, (hx j hj).2.2⟩⟩, hl, h1, h2⟩
theorem MidP.mid (h : MidP P X w0 w a cb bf k m n sts) : SMid w0 w a cb bf k m n sts := h.x.mid
theorem MidP.bel (h : MidP P X w0 w a cb bf k m n sts) : Below w0.heap.size w0 w := h.1
theorem MidP.len (h : MidP P X w0 w a cb bf k m n sts) : sts.length = k + m := h.2.2.2.1
theorem MidP.pos (h : MidP P X w0 w a cb bf k m n sts) : 1 ≤ k ∧ 1 ≤ m ∧ k + m ≤ 255 ∧ 1 ≤ n ∧ n ≤ 600 := h.x.pos
theorem MidP.cod (h : MidP P X w0 w a cb bf k m n sts) : CodAt w cb bf k m := h.mid.cod
theorem MidP.lt (h : MidP P X w0 w a cb bf k m n sts) {j : Nat} (hj : X j) : j < w.heap.size := h.x.lt hj
theorem MidP.sub (h : MidP P X w0 w a cb bf k m n sts) (hy : ∀ j, Y j → X j) : MidP P Y w0 w a cb bf k m n sts := by
  obtain ⟨h0, ⟨U, C, hA, hC, hU, hd, hx, hp⟩, hpx, hl, h1, h2⟩ := h
  exact ⟨h0, ⟨U, C, hA, hC, hU, hd, fun j hj => hx j (hy j hj), hp⟩, fun j hj hjy => hpx j hj (hy j hjy), hl, h1, h2⟩
theorem MidP.below (h : MidP P X w0 w a cb bf k m n sts) (hb : Below w.heap.size w w') : MidP P (fun j => X j ∨ (w.heap.size ≤ j ∧ j < w'.heap.size)) w0 w' a cb bf k m n sts := by
  obtain ⟨h0, ⟨U, C, hA, hC, hU, hd, hx, hp⟩, hpx, hl, h1, h2⟩ := h
  refine ⟨h0.trans (hb.mono h0.size), ⟨U, C, hA.below hb, hC.below hb, hU, fun j hj => ⟨(hd j hj).1, Nat.lt_of_lt_of_le (hd j hj).2 hb.size⟩, fun j hj => ?_, fun j hj => ⟨(hp j hj).1, (hp j hj).2.1, Nat.lt_of_lt_of_le (hp j hj).2.2.1 hb.size, (hp j hj).2.2.2⟩⟩, fun j hj hx2 => ?_, hl, h1, h2⟩
  · rcases hj with hj | hj
    · exact ⟨(hx j hj).1, (hx j hj).2.1, Nat.lt_of_lt_of_le (hx j hj).2.2 hb.size⟩
    · exact ⟨fun hu => by have := hA.lt hu; omega, fun hc => by have := (hd j hc).2; omega, hj.2⟩
  · rcases hx2 with hx2 | hx2
    · exact hpx j hj hx2
    · have := (hp j hj).2.2.1; omega
theorem MidP.below' (h : MidP P X w0 w a cb bf k m n sts) (hb : Below w.heap.size w w') : MidP P X w0 w' a cb bf k m n sts := (h.below hb).sub fun j hj => .inl hj
/-- The pool went on. -/
theorem MidP.pool (h : MidP P X w0 w a cb bf k m n sts) (hK : Keep P w w') : MidP P X w0 w' a cb bf k m n sts ∧ KpX X w w' := by
  obtain ⟨h0, ⟨U, C, hA, hC, hU, hd, hx, hp⟩, hpx, hl, h1, h2⟩ := h
  have hs := hK.size
  exact ⟨⟨h0.trans (hK.below h0.size (fun j hj => (hp j hj).2.2.2)), ⟨U, C, hA.keep hK (fun j hj hp2 => (hp j hp2).1 hj), hC.keep hK (fun j hj hp2 => (hp j hp2).2.1 hj), hU, fun j hj => ⟨(hd j hj).1, Nat.lt_of_lt_of_le (hd j hj).2 hs⟩, fun j hj => ⟨(hx j hj).1, (hx j hj).2.1, Nat.lt_of_lt_of_le (hx j hj).2.2 hs⟩, fun j hj => ⟨(hp j hj).1, (hp j hj).2.1, Nat.lt_of_lt_of_le (hp j hj).2.2.1 hs, (hp j hj).2.2.2⟩⟩, hpx, hl, h1, h2⟩, fun j hj => hK.block j (hx j hj).2.2 (fun hp2 => hpx j hp2 hj), hs⟩
/-- A block of X's is written. -/
theorem MidP.own {F : Nat → Prop} (h : MidP P X w0 w a cb bf k m n sts) (hK : Keep F w w') (hF : ∀ j, F j → X j ∧ w0.heap.size ≤ j) : MidP P X w0 w' a cb bf k m n sts := by
  obtain ⟨h0, ⟨U, C, hA, hC, hU, hd, hx, hp⟩, hpx, hl, h1, h2⟩ := h
  have hs := hK.size
  exact ⟨h0.trans (hK.below h0.size (fun j hj => (hF j hj).2)), ⟨U, C, hA.keep hK (fun j hj hf => (hx j (hF j hf).1).1 hj), hC.keep hK (fun j hj hf => (hx j (hF j hf).1).2.1 hj), hU, fun j hj => ⟨(hd j hj).1, Nat.lt_of_lt_of_le (hd j hj).2 hs⟩, fun j hj => ⟨(hx j hj).1, (hx j hj).2.1, Nat.lt_of_lt_of_le (hx j hj).2.2 hs⟩, fun j hj => ⟨(hp j hj).1, (hp j hj).2.1, Nat.lt_of_lt_of_le (hp j hj).2.2.1 hs, (hp j hj).2.2.2⟩⟩, hpx, hl, h1, h2⟩
/-- A block of X's is written; what is new stays, too. -/
theorem MidP.ownN {F : Nat → Prop} (h : MidP P X w0 w a cb bf k m n sts) (hK : Keep F w w') (hF : ∀ j, F j → X j ∧ w0.heap.size ≤ j) : MidP P (fun j => X j ∨ (w.heap.size ≤ j ∧ j < w'.heap.size)) w0 w' a cb bf k m n sts := by
  have hAw := h.2.1
  obtain ⟨U2, C2, hA2, hC2, hU2, hd2, hx2, hp2⟩ := hAw
  obtain ⟨g0, _, gpx, gl, g1, g2⟩ := h
  have hs := hK.size
  refine ⟨g0.trans (hK.below g0.size (fun j hj => (hF j hj).2)), ⟨U2, C2, hA2.keep hK (fun j hj hf => (hx2 j (hF j hf).1).1 hj), hC2.keep hK (fun j hj hf => (hx2 j (hF j hf).1).2.1 hj), hU2, fun j hj => ⟨(hd2 j hj).1, Nat.lt_of_lt_of_le (hd2 j hj).2 hs⟩, fun j hj => ?_, fun j hj => ⟨(hp2 j hj).1, (hp2 j hj).2.1, Nat.lt_of_lt_of_le (hp2 j hj).2.2.1 hs, (hp2 j hj).2.2.2⟩⟩, fun j hj hxj => ?_, gl, g1, g2⟩
  · rcases hj with hj | hj
    · exact ⟨(hx2 j hj).1, (hx2 j hj).2.1, Nat.lt_of_lt_of_le (hx2 j hj).2.2 hs⟩
    · exact ⟨fun hu => by have := hA2.lt hu; omega, fun hc => by have := (hd2 j hc).2; omega, hj.2⟩
  · rcases hxj with hxj | hxj
    · exact gpx j hj hxj
    · have := (hp2 j hj).2.2.1; omega
/-- A call that went on with the drives. -/
theorem MidP.step {sts' : List DSt} {f : FuncId} {args : Array Value} {Q : Ending → World → Prop} (h : MidP P X w0 w a cb bf k m n sts) (hl : sts'.length = sts.length)
    (hc : ∀ U, ArrAt U w a n sts → (∀ j, U j → w0.heap.size ≤ j) → (∀ j, X j → ¬ U j ∧ j < w.heap.size) → Calls Tryz.prog f args w fun e w' => Q e w' ∧ AUpd U w w' a n sts') :
    Calls Tryz.prog f args w fun e w' => Q e w' ∧ MidP P X w0 w' a cb bf k m n sts' ∧ KpX (fun j => X j ∨ P j) w w' := by
  obtain ⟨h0, ⟨U, C, hA, hC, hU, hd, hx, hp⟩, hpx, hl0, h1, h2⟩ := h
  refine (hc U hA hU (fun j hj => ⟨(hx j hj).1, (hx j hj).2.2⟩)).mono ?_
  rintro e w' ⟨hq, U', hA', hU', hK⟩
  refine ⟨hq, ⟨h0.trans (hK.below h0.size hU), ⟨U', C, hA', hC.keep hK (fun j hj => (hd j hj).1), fun j hj => ?_, fun j hj => ⟨fun hu => (hd j hj).1 (hU' j hu (hd j hj).2), Nat.lt_of_lt_of_le (hd j hj).2 hK.size⟩, fun j hj => ⟨fun hu => (hx j hj).1 (hU' j hu (hx j hj).2.2), (hx j hj).2.1, Nat.lt_of_lt_of_le (hx j hj).2.2 hK.size⟩, fun j hj => ⟨fun hu => (hp j hj).1 (hU' j hu (hp j hj).2.2.1), (hp j hj).2.1, Nat.lt_of_lt_of_le (hp j hj).2.2.1 hK.size, (hp j hj).2.2.2⟩⟩, hpx, by rw [hl, hl0], h1, h2⟩, fun j hj => ?_, hK.size⟩
  · by_cases hlt : j < w.heap.size
    · exact hU j (hU' j hj hlt)
    · have := h0.size; omega
  · rcases hj with hj | hj
    · exact hK.block j (hx j hj).2.2 (hx j hj).1
    · exact hK.block j (hp j hj).2.2.1 (hp j hj).1
theorem put_p (h : MidP P X w0 w a cb bf k m n sts) (hr : r.ok n) (hg : Hid (r.gen < 2 ^ 64)) (hcl : ∀ st ∈ sts, st.cache.length < 900000)
    {A : Option Addr} {c len : Nat} {S : Nat → Prop} {xs : List Nat} (R : RdL ByR 1 S w A len xs) (hc : len ≤ c) (hlx : len ≤ k * 44) :
    Calls Tryz.prog 43 #[.pointer (some ⟨a, 0, none⟩), .pointer (some ⟨cb, 0, none⟩), .agg (refC r), .slice A len c] w fun e w' =>
      e = .returned (.tuple #[.int .i64 (liveC sts : Int), .int .i64 0]) ∧ MidP P X w0 w' a cb bf k m n (sts.mapIdx (putQ n k (k + m) r xs)) ∧ KpX (fun j => X j ∨ P j) w w' := by
  have hp := h.pos
  have hN : 1 ≤ sts.length := by have := h.len; omega
  have hl := h.len
  have e2 : putQ n k sts.length r xs = wrG n r len (fun _ => true) (codeRow k 44 (splF 44 xs k k)) sts.length := by
    funext d st
    unfold putQ
    rw [R.1]
  refine h.step (Q := fun e _ => e = .returned (.tuple #[.int .i64 (liveC sts : Int), .int .i64 0])) (by simp) fun U hA _ _ => ?_
  refine (sput_any hA h.cod hl hr (by omega) hg hcl R hc hlx).mono ?_
  rintro e w' ⟨he, hu⟩
  rw [← hl, wrS_all hN] at he
  rw [← hl, wrS_map hN] at hu
  rw [← hl, e2]
  exact ⟨he, hu⟩
theorem fail_p (h : MidP P X w0 w a cb bf k m n sts) (d : Int) :
    Calls Tryz.prog 18 #[.pointer (some ⟨a, 0, none⟩), .int .i64 d] w fun e w' => e = .returned (.int .i64 (if 0 ≤ d ∧ d < sts.length then 0 else 2)) ∧ MidP P X w0 w' a cb bf k m n (failA n sts d) ∧ KpX (fun j => X j ∨ P j) w w' :=
  h.step (Q := fun e _ => e = .returned (.int .i64 (if 0 ≤ d ∧ d < sts.length then 0 else 2))) (by unfold failA; split <;> simp) fun U hA _ _ => afail_any (Lib.hid hA) (by have := h.len; have := h.pos; omega) d
theorem rot_p (h : MidP P X w0 w a cb bf k m n sts) (d z off mask : Int) :
    Calls Tryz.prog 32 #[.pointer (some ⟨a, 0, none⟩), .int .i64 d, .int .i64 z, .int .i64 off, .int .u32 mask] w fun e w' => e = .returned (.int .i64 (rotE n sts d z off mask)) ∧ MidP P X w0 w' a cb bf k m n (rotA n sts d z off mask) ∧ KpX (fun j => X j ∨ P j) w w' :=
  h.step (Q := fun e _ => e = .returned (.int .i64 (rotE n sts d z off mask))) (rotA_len ..) fun U hA _ _ => arot_any (Lib.hid hA) (by have := h.len; have := h.pos; omega) d z off mask
theorem flush_p (h : MidP P X w0 w a cb bf k m n sts) (hcl : ∀ st ∈ sts, st.cache.length < 1000000) :
    Calls Tryz.prog 30 #[.pointer (some ⟨a, 0, none⟩)] w fun e w' => e = .returned (.int .i64 (cnt (aliveL sts))) ∧ MidP P X w0 w' a cb bf k m n (sts.map flushG) ∧ KpX (fun j => X j ∨ P j) w w' :=
  h.step (Q := fun e _ => e = .returned (.int .i64 (cnt (aliveL sts)))) (by simp) fun U hA _ _ => aflush_any (Lib.hid hA) (by have := h.len; have := h.pos; omega) (by have := h.len; have := h.pos; omega) (Lib.hid hcl)
end
end
section
end
section
def wd (ws : List Nat) (j : Nat) : Nat := ws.getD j 0
/-- Is a place taken? -/
def tk (ws : List Nat) (i : Nat) : Bool := (wd ws (i / 64)).testBit (i % 64)
structure WordsOk (n : Nat) (ws : List Nat) : Prop where
  len : ws.length = (n + 63) / 64
  lt : ∀ v ∈ ws, v < 2 ^ 64
  out : ∀ i, n ≤ i → tk ws i = false
end
section
/-- A map of places in memory. -/
structure BmAt (w : World) (o g n : Nat) (ws : List Nat) : Prop where
  box : BoxAt w o #[.int .i64 (n : Int), .slice (some ⟨g, 0, none⟩) ws.length ws.length, .bool true]
  row : BoxAt w g (ws.map fun v : Nat => Value.int .u64 (v : Int)).toArray
  ok : WordsOk n ws
  ne : o ≠ g
  n1 : n ≤ 60000
section
variable {w w' : World} {o g n : Nat} {ws : List Nat}
theorem BmAt.keep {F : Nat → Prop} (h : BmAt w o g n ws) (hK : Keep F w w') (ho : ¬ F o) (hg : ¬ F g) : BmAt w' o g n ws := ⟨h.box.keeps hK ho, h.row.keeps hK hg, h.ok, h.ne, h.n1⟩
theorem BmAt.below (h : BmAt w o g n ws) (hb : Below w.heap.size w w') : BmAt w' o g n ws := ⟨h.box.below hb, h.row.below hb, h.ok, h.ne, h.n1⟩
theorem BmAt.kp {X : Nat → Prop} (h : BmAt w o g n ws) (hK : ∀ j, X j → w'.heap[j]? = w.heap[j]?) (ho : X o) (hg : X g) : BmAt w' o g n ws := ⟨h.box.keep (hK o ho), h.row.keep (hK g hg), h.ok, h.ne, h.n1⟩
theorem BmAt.cells (h : BmAt w o g n ws) : w.cell? ⟨o, 0, none⟩ = some (.int .i64 (n : Int)) ∧ w.cell? ⟨o, 1, none⟩ = some (.slice (some ⟨g, 0, none⟩) ws.length ws.length) ∧ w.cell? ⟨o, 2, none⟩ = some (.bool true) := ⟨h.box.cell 0, h.box.cell 1, h.box.cell 2⟩
end
end
section
/-- What Least has looked up so far. -/
structure LsJ (lb mb B many : Nat) (l : List Int) (v : Value) (W : World) : Prop where
  out : BoxAt W lb #[v]
  mst : BoxAt W mb #[.int .i64 (many : Int)]
  own : OwnL IntR 3 1 B (fun _ => False) W v l.length l
  ne : v.ownBlock ≠ some lb
  hm : mb < B
  lb0 : B ≤ lb
  low : B ≤ W.heap.size
theorem LsJ.below {lb mb B many : Nat} {l : List Int} {v : Value} {W W' : World} (h : LsJ lb mb B many l v W) (hb : Below W.heap.size W W') : LsJ lb mb B many l v W' := ⟨h.out.below hb, h.mst.below hb, h.own.keep IntR.stable hb, h.ne, h.hm, h.lb0, Nat.le_trans h.low hb.size⟩
end
section
section
variable {w w' : World} {o g n : Nat} {ws : List Nat}
theorem run_max_b2 (ts : Array TypeId) (t : TypeId) (x y : Int) (w : World) : (Builtin.max_ ts t #[.int .i64 x, .int .i64 y]).run Tryz.prog w = .ok (.int .i64 (max x y)) w := by
  rw [run_max_int2, show (if x < y then y else x) = max x y by omega]
attribute [local go_sem ↓] run_max_b2
end
end
section
theorem int_at1 {S : Nat → Prop} {w : World} {b o n : Nat} {xs : List Int} (h : RdL IntR 1 S w (some ⟨b, o, none⟩) n xs) {k : Nat} (hk : k < n) : ∃ x, xs[k]? = some x ∧ w.cell? ⟨b, o + k, none⟩ = some (.int .i64 x) := by
  obtain ⟨hl, cs, _, rfl, h2⟩ := h.at hk
  refine ⟨xs[k], List.getElem?_eq_getElem hl, ?_⟩
  have := h2 0 _ rfl
  rwa [Nat.mul_one, Nat.add_zero] at this
section
variable {w w' : World} {o g n : Nat} {ws : List Nat}
end
end
section
/-- A pool in memory. -/
structure PoolAt (w : World) (p o l go gl ep ct fs n : Nat) (wo wl : List Nat) : Prop where
  box : BoxAt w p #[.int .u64 (ep : Int), .int .i64 (ct : Int), .int .i64 (fs : Int), .pointer (some ⟨o, 0, none⟩), .pointer (some ⟨l, 0, none⟩)]
  out : BmAt w o go n wo
  lim : BmAt w l gl n wl
  ne : p ≠ o ∧ p ≠ go ∧ p ≠ l ∧ p ≠ gl ∧ go ≠ l ∧ go ≠ gl ∧ gl ≠ o
  fsn : fs + n ≤ 600
  n1 : 1 ≤ n
def PoolB (p o l go gl : Nat) (j : Nat) : Prop := j = p ∨ j = o ∨ j = l ∨ j = go ∨ j = gl
section
variable {w w' : World} {p o l go gl ep ct fs n : Nat} {wo wl : List Nat}
theorem PoolAt.keep {F : Nat → Prop} (h : PoolAt w p o l go gl ep ct fs n wo wl) (hK : Keep F w w') (hF : ∀ j, PoolB p o l go gl j → ¬ F j) : PoolAt w' p o l go gl ep ct fs n wo wl :=
  ⟨h.box.keeps hK (hF p (.inl rfl)), h.out.keep hK (hF o (.inr (.inl rfl))) (hF go (.inr (.inr (.inr (.inl rfl))))), h.lim.keep hK (hF l (.inr (.inr (.inl rfl)))) (hF gl (.inr (.inr (.inr (.inr rfl))))), h.ne, h.fsn, h.n1⟩
theorem PoolAt.below (h : PoolAt w p o l go gl ep ct fs n wo wl) (hb : Below w.heap.size w w') : PoolAt w' p o l go gl ep ct fs n wo wl := ⟨h.box.below hb, h.out.below hb, h.lim.below hb, h.ne, h.fsn, h.n1⟩
theorem PoolAt.kp {X : Nat → Prop} (h : PoolAt w p o l go gl ep ct fs n wo wl) (hK : ∀ j, X j → w'.heap[j]? = w.heap[j]?) (hX : ∀ j, PoolB p o l go gl j → X j) : PoolAt w' p o l go gl ep ct fs n wo wl :=
  ⟨h.box.keep (hK p (hX p (.inl rfl))), h.out.kp hK (hX o (.inr (.inl rfl))) (hX go (.inr (.inr (.inr (.inl rfl))))), h.lim.kp hK (hX l (.inr (.inr (.inl rfl)))) (hX gl (.inr (.inr (.inr (.inr rfl))))), h.ne, h.fsn, h.n1⟩
theorem PoolAt.cells (h : PoolAt w p o l go gl ep ct fs n wo wl) : w.cell? ⟨p, 0, none⟩ = some (.int .u64 (ep : Int)) ∧ w.cell? ⟨p, 1, none⟩ = some (.int .i64 (ct : Int)) ∧ w.cell? ⟨p, 2, none⟩ = some (.int .i64 (fs : Int)) ∧ w.cell? ⟨p, 3, none⟩ = some (.pointer (some ⟨o, 0, none⟩)) ∧ w.cell? ⟨p, 4, none⟩ = some (.pointer (some ⟨l, 0, none⟩)) := ⟨h.box.cell 0, h.box.cell 1, h.box.cell 2, h.box.cell 3, h.box.cell 4⟩
end
end
section
section
variable {w w' : World} {p o l go gl ep ct fs n : Nat} {wo wl : List Nat}
/-- The count turned. -/
theorem PoolAt.count (h : PoolAt w p o l go gl ep ct fs n wo wl) (c : Nat) : PoolAt (w.setCell ⟨p, 1, none⟩ (.int .i64 (c : Int))) p o l go gl ep c fs n wo wl := by
  obtain ⟨n1, n2, n3, n4, n5, n6, n7⟩ := h.ne
  refine ⟨h.box.set 1 _, ⟨h.out.box.set_other (p := ⟨p, 1, none⟩) (fun e => n1 e.symm) _, h.out.row.set_other (p := ⟨p, 1, none⟩) (fun e => n2 e.symm) _, h.out.ok, h.out.ne, h.out.n1⟩, ⟨h.lim.box.set_other (p := ⟨p, 1, none⟩) (fun e => n3 e.symm) _, h.lim.row.set_other (p := ⟨p, 1, none⟩) (fun e => n4 e.symm) _, h.lim.ok, h.lim.ne, h.lim.n1⟩, h.ne, h.fsn, h.n1⟩
end
end
section
section
variable {w w' : World} {p o l go gl ep ct fs n : Nat} {wo wl : List Nat}
end
end
section
section
variable {w w' : World}
section
variable {p o l go gl ep ct fs n : Nat} {wo wl : List Nat}
end
end
end
section
attribute [local go_sem ↓] run_min_b
end
section
section
variable {w w' : World} {p o l go gl ep ct fs n cb bf k m : Nat} {wo wl : List Nat}
end
end
section
def bRef (ps : List Int) (gen : Nat) (i : Nat) : Ref := ⟨3, (ps.getD i 0).toNat, gen + i⟩
def bPc (k : Nat) (xs : List Nat) (i : Nat) : List Nat := (xs.drop (i * (k * 44))).take (k * 44)
/-- The drives behind the first i stripes. -/
def putB (n k N : Nat) (ps : List Int) (gen : Nat) (xs : List Nat) (sts : List DSt) : Nat → List DSt
  | 0 => sts
  | i + 1 => (putB n k N ps gen xs sts i).mapIdx (putQ n k N (bRef ps gen i) (bPc k xs i))
section
variable {P X S : Nat → Prop} {w0 w w' : World} {a p o l go gl ep ct fs np n cb bf k m : Nat} {wo wl : List Nat} {sts : List DSt}
end
end
section
section
variable {w w' : World} {cb bf k m : Nat}
attribute [local go_sem ↓] run_min_b
end
end
section
section
variable {w0 w w' : World} {a n cb bf k m : Nat} {sts : List DSt} {S : Nat → Prop}
end
end
section
end
section
end
section
section
variable {P X S : Nat → Prop} {w0 w w' : World} {a p o l go gl ep ct fs n np cb bf k m : Nat} {wo wl : List Nat} {sts : List DSt}
end
end
section
section
variable {w : World}
end
section
variable {P X S : Nat → Prop} {w0 w : World} {a cb bf k m n : Nat} {sts : List DSt}
end
end
section
/-- Places that follow each other. -/
def plL (a M : Nat) : List Int := (List.range M).map fun i : Nat => ((a + i : Nat) : Int)
theorem plL_at {a M i : Nat} (h : i < M) : (plL a M).getD i 0 = ((a + i : Nat) : Int) := by
  unfold plL
  simp [List.getD_eq_getElem?_getD, h]
/-! ### Drives that are all alive -/
def Alv (n : Nat) (sts : List DSt) : Prop := ∀ st ∈ sts, st.dead = false ∧ st.ok n
section
variable {g : Nat → Bool} {n k N a G M0 : Nat} {xs : List Nat} {sts : List DSt}
theorem Alv.live (h : Alv n sts) {d : Nat} (hd : d < sts.length) : deadL sts d = false := by
  unfold deadL
  rw [List.getElem?_eq_getElem hd]
  exact (h _ (List.getElem_mem hd)).1
theorem Alv.new (n N : Nat) : Alv n (newS n N) := fun st hst => by
  obtain ⟨d, hd, rfl⟩ := List.mem_iff_getElem.1 hst
  rw [(newS_at (List.getElem?_eq_getElem hd)).1]
  exact ⟨rfl, DSt.ok.new n⟩
theorem Alv.count (h : Alv n sts) : cnt (aliveL sts) = sts.length := by
  have e : aliveL sts = List.replicate sts.length true := by
    unfold aliveL
    apply List.ext_getElem?
    intro d
    rw [List.getElem?_map, List.getElem?_replicate]
    by_cases hd : d < sts.length
    · rw [if_pos hd, List.getElem?_eq_getElem hd]
      simp [(h _ (List.getElem_mem hd)).1]
    · rw [if_neg hd, List.getElem?_eq_none (by omega)]; rfl
  rw [e]
  unfold cnt
  simp
theorem Alv.flush (h : Alv n sts) : Alv n (sts.map flushG) := fun st hst => by
  obtain ⟨s1, h1, rfl⟩ := List.mem_map.1 hst
  exact ⟨by rw [flushG_dead]; exact (h s1 h1).1, flushG_ok (h s1 h1).2⟩
theorem Alv.put (h : Alv n sts) {r : Ref} (hr : r.ok n) (hx : Byt xs) : Alv n (sts.mapIdx (putQ n k N r xs)) := fun st hst => by
  obtain ⟨d, hd⟩ := List.getElem?_of_mem hst
  obtain ⟨s1, h1, rfl⟩ := mapIdx_at hd
  obtain ⟨a1, a2⟩ := h s1 (List.mem_of_getElem? h1)
  rw [putQ_live hr hx a1]
  exact ⟨a1, a2.write (wrI_len (x := putX k N r xs d) (row44 hx k _).1) ⟨Int.natCast_nonneg _, by have := hr.p; omega⟩⟩
theorem bRef_pl {M i : Nat} (h : i < M) : bRef (plL a M) G i = ⟨3, a + i, G + i⟩ := by
  unfold bRef
  rw [plL_at h, Int.toNat_natCast]
theorem bPc_byt (hx : Byt xs) (i : Nat) : Byt (bPc k xs i) := fun x h => hx x (List.mem_of_mem_drop (List.mem_of_mem_take h))
theorem ref3_in {p z : Nat} (h : p < n) : Ref.ok ⟨3, p, z⟩ n := ⟨(by decide : 1 ≤ 3), (by decide : 3 ≤ 4), h⟩
theorem putB_alv (h : Alv n sts) (hx : Byt xs) {M : Nat} (ha : a + M ≤ n) : ∀ i, i ≤ M → Alv n (putB n k N (plL a M) G xs sts i)
  | 0, _ => h
  | i + 1, hi => by
    rw [putB, bRef_pl (by omega)]
    exact (putB_alv h hx ha i (by omega)).put (ref3_in (by omega)) (bPc_byt hx i)
theorem putB_old {r : Ref} {ys : List Nat} (h : Hds g k N r ys sts) (hx : Byt xs) {M : Nat} (ha : a + M ≤ n) (hd : r.place < a ∨ a + M ≤ r.place) : ∀ i, i ≤ M → Hds g k N r ys (putB n k N (plL a M) G xs sts i)
  | 0, _ => h
  | i + 1, hi => by
    rw [putB, bRef_pl (by omega)]
    exact (putB_old h hx ha hd i (by omega)).put (n := n) (ref3_in (by omega)) (bPc_byt hx i) (by show a + i ≠ r.place; omega)
theorem putB_new (h : Alv n sts) (hx : Byt xs) {M : Nat} (ha : a + M ≤ n) : ∀ i, i ≤ M → ∀ t, t < i → Hds (fun _ => true) k N ⟨3, a + t, G + t⟩ (bPc k xs t) (putB n k N (plL a M) G xs sts i)
  | 0, _, t, ht => absurd ht (by omega)
  | i + 1, hi, t, ht => by
    have hA := putB_alv (k := k) (N := N) (G := G) h hx ha i (by omega)
    rw [putB, bRef_pl (by omega)]
    by_cases e : t = i
    · subst e
      refine (Hds.new (n := n) (ref3_in (by omega)) (bPc_byt hx t) (fun st hst hd => by rw [(hA st hst).1] at hd; cases hd)).congr fun d hd => ?_
      rw [List.length_mapIdx] at hd
      rw [hA.live hd]; rfl
    · exact (putB_new h hx ha i (by omega) t (by omega)).put (n := n) (ref3_in (by omega)) (bPc_byt hx i) (by show a + i ≠ a + t; omega)
/-- A value lies on the drives g. -/
def HdB (g : Nat → Bool) (k N a G M : Nat) (xs : List Nat) (sts : List DSt) : Prop := ∀ t, t < M → Hds g k N ⟨3, a + t, G + t⟩ (bPc k xs t) sts
theorem HdB.put (h : HdB g k N a G M0 xs sts) {ys : List Nat} (hy : Byt ys) {b H M : Nat} (hb : b + M ≤ n) (hd : a + M0 ≤ b) : HdB g k N a G M0 xs (putB n k N (plL b M) H ys sts M) := fun t ht =>
  putB_old (h t ht) hy hb (.inl (by show a + t < b; omega)) M (Nat.le_refl _)
theorem HdB.new (h : Alv n sts) (hx : Byt xs) {M : Nat} (ha : a + M ≤ n) : HdB (fun _ => true) k N a G M xs (putB n k N (plL a M) G xs sts M) := fun t ht => putB_new h hx ha M (Nat.le_refl _) t ht
theorem HdB.flush (h : HdB g k N a G M0 xs sts) (ha : a + M0 ≤ n) (hA : Alv n sts) : HdB g k N a G M0 xs (sts.map flushG) := fun t ht => (h t ht).flush (n := n) (ref3_in (by omega)) fun st hst => (hA st hst).2
theorem HdB.fail (h : HdB g k N a G M0 xs sts) (ha : a + M0 ≤ n) (x : Int) : HdB (butB g x) k N a G M0 xs (failA n sts x) := fun t ht => (h t ht).fail (ref3_in (by omega)) x
end
end
section
section
variable {w : World} {cb bf k m : Nat}
end
attribute [local go_sem ↓] run_min_b
end
section
theorem OwnL.rdT {E : TypeId} {base n c : Nat} {w : World} {A : Option Addr} {xs : List Nat} (h : OwnL ByR E 1 base (fun _ => True) w (.slice A n c) n xs) : RdL ByR 1 (fun j => base ≤ j) w A n xs ∧ n ≤ c := by
  obtain ⟨A', c', e, hc, hr⟩ := h.rd (S' := fun j => base ≤ j) (fun j hj => hj) (fun cs x hx => hx)
  injection e with e1 _ e2
  subst e1; subst e2
  exact ⟨hr, hc⟩
section
variable {w : World}
end
end
section
set_option maxRecDepth 100000 in
set_option maxHeartbeats 4000000 in
theorem rjoin_any {w : World} {n c m c2 : Nat} {A B : Option Addr} {S T : Nat → Prop} {xs ys : List Nat} (R1 : Hid (RdL ByR 1 S w A n xs)) (R2 : Hid (RdL ByR 1 T w B m ys)) (hn : n ≤ 10000) (hm : m ≤ 10000) :
    Calls Tryz.prog 216 #[.slice A n c, .slice B m c2] w fun e w' => ∃ A' c', e = .returned (.slice A' (n + m) c') ∧ OwnL ByR 5 1 w.heap.size (fun _ => True) w' (.slice A' (n + m) c') (n + m) (xs ++ ys) ∧ Below w.heap.size w w' := by
  have HA := Lib.hid (R1.out.alloc ByR.stable (.cells #[] 5))
  go_enter Tryz.func216, Tryz.ntmps216
  go_wp2_with (at_builtin; first | (refine wpList_appL ByR.stable ByR.one sl_by rfl (by exact rfl) (base := w.heap.size) (S := fun _ => True) (n := 0) (xs := []) (by exact rfl) (OwnL.made #[] 0 (Nat.le_refl _) (by unfold maxLen; omega) rfl) (by exact rfl) HA.out (fun _ _ h => h) (by unfold maxLen; omega) (by omega) (by simp only [World.size_alloc]; omega) ?_; intro A1 c1 w1 hc1 own1 hg1 hat1; have hb1 : Below w.heap.size w w1 := ((Below.refl _ _).alloc (Nat.le_refl _) _).grown hg1 (by simp only [World.size_alloc]; omega) (fun k hk => by simp only [Value.ownBlock, Option.some.injEq] at hk; omega); rw [Nat.zero_add, List.nil_append] at own1; have HO1 := Lib.hid own1; have HB1 := Lib.hid hb1; have HR1 := Lib.hid (R2.out.below ByR.stable hb1); clear own1 hb1 hg1 hat1 hc1) | (refine wpList_appL ByR.stable ByR.one sl_by rfl (by exact rfl) (base := w.heap.size) (S := fun _ => True) (n := n) (xs := xs) (by first | exact rfl | (simp; done)) HO1.out (by exact rfl) HR1.out (fun _ _ h => h) (by unfold maxLen; omega) (by omega) HB1.out.size ?_; intro A2 c2' w2 hc2 own2 hg2 hat2; have hb2 := HB1.out.grown hg2 HB1.out.size (fun k hk => (HO1.out.lt k hk).1); have HO2 := Lib.hid own2; have HB2 := Lib.hid hb2; clear own2 hb2 hg2 hat2 hc2))
  go_ret
  exact ⟨A2, c2', rfl, HO2.out, HB2.out⟩
theorem leN_div (i v : Nat) : v / 2 ^ (8 * i) / 256 = v / 2 ^ (8 * (i + 1)) := by
  rw [show 8 * (i + 1) = 8 * i + 8 by omega, Nat.pow_add, Nat.div_div_eq_div_mul]
end
section
set_option maxRecDepth 100000 in
set_option maxHeartbeats 4000000 in
theorem rput_own {w : World} {n c k v : Nat} {A : Option Addr} {S : Nat → Prop} {xs : List Nat} (R : Hid (RdL ByR 1 S w A n xs)) (hn : n ≤ 4000) (k8 : k ≤ 8) (hv : v < 18446744073709551616) :
    Calls Tryz.prog 182 #[.slice A n c, .int .i64 (k : Int), .int .u64 (v : Int)] w fun e w' => ∃ A' c', e = .returned (.slice A' (n + k) c') ∧ OwnL ByR 5 1 w.heap.size (fun _ => True) w' (.slice A' (n + k) c') (n + k) (xs ++ leN k v) ∧ Below w.heap.size w w' := by
  have q0 : (k : Int) ≤ 8 := by omega
  have HV := Lib.hid hv
  clear hv
  go_enter Tryz.func182, Tryz.ntmps182
  go_wp2_with fail
  go_loopw [2, 7, 8] (fun vn vs vi wr => ∃ (i : Nat) (A : Option Addr) (c' : Nat), i ≤ k ∧ vi = .int .i64 i ∧ vn = .int .u64 ((v / 2 ^ (8 * i) : Nat) : Int) ∧ vs = .slice A i c' ∧ Hid (OwnL ByR 5 1 w.heap.size (fun _ => True) wr (.slice A i c') i (leN i v)) ∧ Hid (Below w.heap.size w wr)) (fun _ _ vi _ => k - (intOf vi).toNat)
  case atStart => exact ⟨0, none, 0, Nat.zero_le _, rfl, by simp, rfl, Lib.hid OwnL.nil_, Lib.hid (Below.refl _ _)⟩
  case round =>
    obtain ⟨i, AO, cO, hi, rfl, rfl, rfl, HO, HB⟩ := hrel
    have p0 : (0 : Int) ≤ (i : Int) := Int.natCast_nonneg _
    by_cases hlt : i < k
    · have p1 : (i : Int) < (k : Int) := by omega
      have HN := Lib.hid (show leN (i + 1) v = leN i v ++ [v / 2 ^ (8 * i) % 256] by rw [leN_next])
      have HD := Lib.hid (leN_div i v)
      have hszr := HB.out.size
      obtain ⟨x, hx⟩ : ∃ x, v / 2 ^ (8 * i) = x := ⟨_, rfl⟩
      have hxv : x < 18446744073709551616 := by rw [← hx]; exact Nat.lt_of_le_of_lt (Nat.div_le_self ..) HV.out
      rw [hx] at HN HD ⊢
      clear hx
      have hy : (x : Int) % 256 = ((x % 256 : Nat) : Int) := by push_cast; rfl
      have hyl : x % 256 < 256 := Nat.mod_lt _ (by omega)
      have hq : IntKind.u64.wrap ((x : Int).tdiv 256) = ((x / 256 : Nat) : Int) := by rw [Int.tdiv_eq_ediv_of_nonneg (by omega), IntKind.wrap_u64]; omega
      obtain ⟨y, hye⟩ : ∃ y, x % 256 = y := ⟨_, rfl⟩
      rw [hye] at hy hyl HN
      clear hye
      go_wp2_with (at_builtin; go_must (refine wpList_push1 ByR.stable ByR.one sl_by (by rfl) (by rfl) (base := w.heap.size) (S := fun _ => True) (cs := #[.int .u8 (y : Int)]) (y := y) (by rfl) (by rfl) HO.out (by rfl) ⟨hyl, rfl⟩ (by unfold maxLen; omega) (by omega) hszr ?_); intro A8 c8 ug hc8 own9 hlt8 hb8 hat8; rw [← HN.out] at own9; have HO9 := Lib.hid own9; have HB9 := Lib.hid (HB.out.trans hb8); clear own9 hb8 hlt8 hat8)
      exact ⟨⟨i + 1, A8, c8, by omega, by go_num, by rw [← HD.out]; rfl, rfl, HO9, HB9⟩, by simp [intOf]; omega⟩
    · have p1 : ¬ (i : Int) < (k : Int) := by omega
      obtain rfl : i = k := by omega
      have hj := rjoin_any (c := c) (c2 := cO) (Lib.hid (R.out.below ByR.stable HB.out)) (Lib.hid (OwnL.rdT (c := cO) HO.out).1) (by omega) (by omega)
      have HJ := Lib.hid hj
      clear hj
      go_wp2_with fail
      refine HJ.out.mono ?_
      clear HJ
      rintro e w2 ⟨A', c', rfl, ho, hb⟩
      have HO2 := Lib.hid (OwnL.low ho HB.out.size)
      have HB2 := Lib.hid (HB.out.trans (hb.mono HB.out.size))
      clear ho hb
      go_wp2_with fail
      go_ret
      exact ⟨A', c', rfl, HO2.out, HB2.out⟩
theorem rd_two {w : World} {p a b : Nat} (hb : BoxAt w p #[.int .u8 (a : Int), .int .u8 (b : Int)]) (h1 : a < 256) (h2 : b < 256) : RdL ByR 1 (fun _ => True) w (some ⟨p, 0, none⟩) 2 [a, b] := by
  refine ⟨rfl, fun _ => ⟨p, 0, rfl, trivial, hb.lt, fun i y hy => ?_⟩⟩
  match i, hy with
  | 0, hy =>
    simp only [List.getElem?_cons_zero, Option.some.injEq] at hy
    subst hy
    exact ⟨[.int .u8 (a : Int)], rfl, ⟨h1, rfl⟩, fun j v hj => by
      rcases j with _ | j
      · simp at hj; subst hj
        exact hb.cell 0
      · simp at hj⟩
  | 1, hy =>
    simp only [List.getElem?_cons_succ, List.getElem?_cons_zero, Option.some.injEq] at hy
    subst hy
    exact ⟨[.int .u8 (b : Int)], rfl, ⟨h2, rfl⟩, fun j v hj => by
      rcases j with _ | j
      · simp at hj; subst hj
        exact hb.cell 1
      · simp at hj⟩
theorem sncH_eq {x : Shd} (h1 : x.kind < 256) (h2 : x.index < 256) : sncH x = ((([x.kind, x.index] ++ leN 2 x.place) ++ leN 8 x.gen) ++ leN 2 x.size) ++ [0, 0] := by
  have e (k : Nat) (h : k < 256) : leN 1 k = [k] := by simp [leN, List.range_succ, Nat.mod_eq_of_lt h]
  have e0 : leN 2 0 = [0, 0] := by simp [leN, List.range_succ]
  unfold sncH sncU hdF
  simp only [List.take_succ_cons, List.take_zero, List.take_nil, List.flatMap_cons, List.flatMap_nil, e _ h1, e _ h2, e0, List.append_nil, List.append_assoc, List.cons_append, List.nil_append]
set_option maxRecDepth 100000 in
set_option maxHeartbeats 4000000 in
theorem rclosed_any {w : World} {n c : Nat} {A : Option Addr} {S : Nat → Prop} {xs : List Nat} (R : Hid (RdL ByR 1 S w A n xs)) (hn : n ≤ 4000) :
    Calls Tryz.prog 183 #[.slice A n c] w fun e w' => ∃ A' c', e = .returned (.slice A' (n + 4) c') ∧ OwnL ByR 5 1 w.heap.size (fun _ => True) w' (.slice A' (n + 4) c') (n + 4) (xs ++ leN 4 (csum xs)) ∧ Below w.heap.size w w' := by
  have hs := rsum_any (cp := c) R.out (by omega)
  have hl := csum_lt (by_byt R.out)
  have hp := rput_own (c := c) (k := 4) (v := csum xs) R hn (by omega) (by omega)
  change Calls Tryz.prog 182 #[_, .int .i64 4, _] w _ at hp
  obtain ⟨y, hy⟩ : ∃ y, csum xs = y := ⟨_, rfl⟩
  rw [hy] at hs hl hp ⊢
  have q0 : (0 : Int) ≤ (y : Int) := Int.natCast_nonneg _
  have q1 : (y : Int) < 4294967296 := by omega
  have q2 : IntKind.u64.wrap (y : Int) = (y : Int) := by rw [IntKind.wrap_u64]; omega
  clear hy hl R
  have HP := Lib.hid hp
  clear hp
  go_enter Tryz.func183, Tryz.ntmps183
  go_wp2_with fail
  refine hs.mono ?_
  rintro e w5 ⟨rfl, hw5⟩
  rw [hw5]
  clear hw5 hs
  go_wp2_with fail
  refine HP.out.mono ?_
  clear HP
  rintro e w5 ⟨A', c', rfl, ho, hb⟩
  have HO := Lib.hid ho
  have HB := Lib.hid hb
  clear ho hb
  go_wp2_with fail
  go_ret
  exact ⟨A', c', rfl, HO.out, HB.out⟩
end
section
theorem kindB_no {k : Nat} (h : kindB k = false) : k < 1 ∨ 4 < k := by
  unfold kindB at h
  have := of_decide_eq_false h
  omega
theorem kindB_yes {k : Nat} (h : kindB k = true) : 1 ≤ k ∧ k ≤ 4 := of_decide_eq_true h
set_option maxRecDepth 100000 in
set_option maxHeartbeats 8000000 in
theorem rshput_any {w : World} {x : Shd} (hx : x.ok) : Calls Tryz.prog 147 #[.agg (shC x)] w fun e w' => Below w.heap.size w w' ∧
    ((kindB x.kind = false ∧ e = .returned (.tuple #[.slice none 0 0, .int .i64 2])) ∨
     (kindB x.kind = true ∧ ∃ A c, e = .returned (.tuple #[.slice A 64 c, .int .i64 0]) ∧ 64 ≤ c ∧ RdL ByR 1 (fun j => w.heap.size ≤ j) w' A 64 (sncS x))) := by
  have c0 := shC_0 x
  have b0 := BoxAt.new w (shC x) 193
  have hb0 : Below w.heap.size w (w.alloc (.cells (shC x) 193)) := (Below.refl _ _).alloc (Nat.le_refl _) _
  have q0 : (0 : Int) ≤ (x.kind : Int) := Int.natCast_nonneg _
  by_cases hB : kindB x.kind = true
  case neg =>
    have hB' : kindB x.kind = false := by simpa using hB
    have HBB := Lib.hid hB'
    have hk' := kindB_no hB'
    clear hB hB'
    by_cases hk : (x.kind : Int) < 1
    · clear hk'
      go_enter Tryz.func147, Tryz.ntmps147
      go_wp2_with fail
      go_ret2
      exact ⟨hb0, .inl ⟨HBB.out, rfl⟩⟩
    · have hk4 : (x.kind : Int) > 4 := by
        rcases hk' with h | h <;> omega
      clear hk'
      go_enter Tryz.func147, Tryz.ntmps147
      go_wp2_with fail
      go_ret2
      exact ⟨hb0, .inl ⟨HBB.out, rfl⟩⟩
  case pos =>
    have HBB := Lib.hid hB
    obtain ⟨h1, h4⟩ := kindB_yes hB
    have hk : ¬ (x.kind : Int) < 1 := by omega
    have hk4 : ¬ (x.kind : Int) > 4 := by omega
    have c1 := shC_1 x
    have c2 := shC_2 x
    have c3 := shC_3 x
    have c4 := shC_4 x
    have hlp := b0.lt
    have l2 := hx.p
    have l4 := hx.s
    have g2 : IntKind.u64.wrap (x.place : Int) = (x.place : Int) := by rw [IntKind.wrap_u64]; omega
    have g4 : IntKind.u64.wrap (x.size : Int) = (x.size : Int) := by rw [IntKind.wrap_u64]; omega
    have m2 : (x.place : Int) < 65536 := by omega
    have m4 : (x.size : Int) < 65536 := by omega
    have m2' : (0 : Int) ≤ (x.place : Int) := by omega
    have m4' : (0 : Int) ≤ (x.size : Int) := by omega
    have HX := Lib.hid hx
    have HB0 := Lib.hid hb0
    clear hB h1 h4 hx hb0 l2 l4
    go_enter Tryz.func147, Tryz.ntmps147
    go_wp2_with fail
    obtain ⟨p, hp⟩ : ∃ p, w.heap.size = p := ⟨_, rfl⟩
    obtain ⟨wA, hwA⟩ : ∃ wA, w.alloc (.cells (shC x) 193) = wA := ⟨_, rfl⟩
    have hb1 := HB0.out
    have hsA : wA.heap.size = p + 1 := by rw [← hwA, World.size_alloc, hp]
    rw [hwA] at b0 hb1 ⊢
    rw [hp] at b0 hb1 ⊢
    have HBA := Lib.hid hb1
    have HSA := Lib.hid hsA
    clear HB0 hb1 hwA hlp
    have bL := BoxAt.new wA #[.int .u8 (x.kind : Int), .int .u8 (x.index : Int)] 5
    rw [hsA] at bL
    have hbB : Below (p + 1) wA (wA.alloc (.cells #[.int .u8 (x.kind : Int), .int .u8 (x.index : Int)] 5)) := (Below.refl _ _).alloc (by omega) _
    have b1 := b0.alloc (.cells #[.int .u8 (x.kind : Int), .int .u8 (x.index : Int)] 5)
    obtain ⟨wB, hwB⟩ : ∃ wB, wA.alloc (.cells #[.int .u8 (x.kind : Int), .int .u8 (x.index : Int)] 5) = wB := ⟨_, rfl⟩
    rw [hwB] at bL hbB b1 ⊢
    clear hwB hsA
    have HP := Lib.hid b0
    have R0 := Lib.hid (rd_two bL HX.out.k HX.out.i)
    have hs0 := hbB.size
    clear b0 bL
    refine (rput_own (k := 2) (v := x.place) R0 (by omega) (by omega) (by have := HX.out.p; omega)).mono ?_
    rintro e w1 ⟨A1, d1, rfl, ho1, hb1⟩
    have R1 := Lib.hid (OwnL.rdT (c := d1) ho1).1
    have hx2 := b1.below hb1
    have v3 : w1.cell? ⟨p, 3, none⟩ = some (.int .u64 (x.gen : Int)) := (hx2.cell 3).trans c3
    have b2 := Lib.hid hx2
    clear hx2
    have HB1 := Lib.hid (hbB.trans (hb1.mono (by rw [← HSA.out]; exact hs0)))
    clear ho1 hb1 b1 hbB hs0 R0
    go_wp2_with fail
    refine (rput_own (k := 8) (v := x.gen) R1 (by omega) (by omega) (by have := HX.out.g; omega)).mono ?_
    rintro e w2 ⟨A2, d2, rfl, ho2, hb2⟩
    have R2 := Lib.hid (OwnL.rdT (c := d2) ho2).1
    have hx3 := b2.out.below hb2
    have v4 : w2.cell? ⟨p, 4, none⟩ = some (.int .u16 (x.size : Int)) := (hx3.cell 4).trans c4
    clear hx3
    have hs1 := HB1.out.size
    have HB2 := Lib.hid (HB1.out.trans (hb2.mono (by have := HSA.out; omega)))
    clear ho2 hb2 b2 R1
    go_wp2_with fail
    refine (rput_own (k := 2) (v := x.size) R2 (by omega) (by omega) (by have := HX.out.s; omega)).mono ?_
    rintro e w3 ⟨A3, d3, rfl, ho3, hb3⟩
    have hs2 := HB2.out.size
    have HB3 := Lib.hid (HB2.out.trans (hb3.mono (by have := HSA.out; omega)))
    have HO3 := Lib.hid ((OwnL.low ho3 (base' := p + 1) (by have := HSA.out; omega)).alloc ByR.stable (.cells #[.int .u8 0, .int .u8 0] 5))
    have HR3 : Hid (RdL ByR 1 (fun _ => True) (w3.alloc (.cells #[.int .u8 0, .int .u8 0] 5)) (some ⟨w3.heap.size, 0, none⟩) 2 [0, 0]) := Lib.hid (rd_two (a := 0) (b := 0) (BoxAt.new _ _ _) (by omega) (by omega))
    have HB4 := Lib.hid (HB3.out.alloc (by have := HSA.out; have := HB3.out.size; omega) (.cells #[.int .u8 0, .int .u8 0] 5))
    have hs3 : p + 1 ≤ w3.heap.size := by have := HSA.out; have := HB3.out.size; omega
    clear ho3 hb3 R2 hs2 hs1
    go_wp2_with (at_builtin; go_must (refine wpList_appL ByR.stable ByR.one sl_by (by rfl) (by rfl) (base := p + 1) (S := fun _ => True) (by rfl) HO3.out (by rfl) HR3.out (fun _ _ h => h) (by unfold maxLen; omega) (by omega) (by simp only [World.size_alloc]; omega) ?_); intro A7 c7 w7 hc7 hown7 hg7 hat7; have hb7 : Below (p + 1) _ w7 := (Below.refl _ _).grown hg7 (by simp only [World.size_alloc]; omega) (fun k hk => (HO3.out.lt k hk).1); have HO7 := Lib.hid hown7; have HB7 := Lib.hid (HB4.out.trans hb7); clear hown7 hg7 hat7 hb7 HB4 HR3)
    have hsn := sncH_eq HX.out.k HX.out.i
    have HO8 := Lib.hid (show OwnL ByR 5 1 (p + 1) (fun _ => True) w7 (.slice A7 16 c7) 16 (sncH x ++ x.body.take 0) by rw [List.take_zero, List.append_nil, hsn]; exact HO7.out)
    clear hsn HO7 HO3
    go_loopw [4, 5] (fun vb vi wr => ∃ (i : Nat) (A : Option Addr) (c' : Nat), i ≤ 44 ∧ vi = .int .i64 i ∧ vb = .slice A (16 + i) c' ∧ Hid (OwnL ByR 5 1 (p + 1) (fun _ => True) wr (.slice A (16 + i) c') (16 + i) (sncH x ++ x.body.take i)) ∧ Hid (Below (p + 1) wA wr)) (fun _ vi _ => 44 - (intOf vi).toNat)
    case atStart => exact ⟨0, A7, c7, Nat.zero_le _, rfl, rfl, HO8, HB7⟩
    case round =>
      obtain ⟨i, AO, cO, hi, rfl, rfl, HO, HB⟩ := hrel
      have i0 : (0 : Int) ≤ (i : Int) := Int.natCast_nonneg _
      by_cases hlt : i < 44
      · have i1 : (i : Int) < 44 := by omega
        have hbl : i < x.body.length := by rw [HX.out.l]; exact hlt
        have hsz : p + 1 ≤ wr.heap.size := by have := HSA.out; have := HB.out.size; omega
        have hbx := HP.out.keep (HB.out.block p (by omega))
        have vb : wr.cell? ⟨p, 5 + i, none⟩ = some (.int .u8 (gt x.body i : Int)) := (hbx.cell (5 + i)).trans (shC_b hbl)
        have hyl : gt x.body i < 256 := HX.out.b _ (List.mem_of_getElem? (gt_of_lt hbl))
        have HN := Lib.hid (show sncH x ++ x.body.take (i + 1) = sncH x ++ x.body.take i ++ [gt x.body i] by rw [List.take_add_one, gt_of_lt hbl, Option.toList_some, List.append_assoc])
        obtain ⟨y, hy⟩ : ∃ y, gt x.body i = y := ⟨_, rfl⟩
        rw [hy] at vb hyl HN
        clear hy hbl hbx
        go_wp2_with (at_builtin; go_must (refine wpList_push1 ByR.stable ByR.one sl_by (by rfl) (by rfl) (base := p + 1) (S := fun _ => True) (cs := #[.int .u8 (y : Int)]) (y := y) (by rfl) (by rfl) HO.out (by rfl) ⟨hyl, rfl⟩ (by unfold maxLen; omega) (by omega) hsz ?_); intro A8 c8 ug hc8 own9 hlt8 hb8 hat8; rw [← HN.out] at own9; have HO9 := Lib.hid own9; have HB9 := Lib.hid (HB.out.trans hb8); clear own9 hb8 hlt8 hat8)
        exact ⟨⟨i + 1, A8, c8, hlt, by go_num, rfl, HO9, HB9⟩, by simp [intOf]; omega⟩
      · have i1 : ¬ (i : Int) < 44 := by omega
        obtain rfl : i = 44 := by omega
        have i2 : ¬ (44 : Int) < 44 := by omega
        have h60 : x.body.take 44 = x.body := List.take_of_length_le (by rw [HX.out.l]; omega)
        have R6 := Lib.hid (show RdL ByR 1 (fun _ => True) wr AO 60 (snc60 x) by have := (OwnL.rdT (c := cO) HO.out).1; rw [h60] at this; exact this.weaken ByR.stable (fun _ _ => trivial))
        have HCL := Lib.hid (rclosed_any (c := cO) R6 (by omega))
        have hsz := HB.out.size
        clear h60 R6 HO hlt i0 i1
        go_wp2_with fail
        refine HCL.out.mono ?_
        clear HCL
        rintro e w9 ⟨A9, c9, rfl, ho9, hb9⟩
        obtain ⟨A', c', e, hcc, hr⟩ := ho9.rd (S' := fun j => p ≤ j) (fun j hj => by have := HSA.out; omega) (fun cs x hx => hx)
        injection e with e1 _ e2
        subst e1; subst e2
        have HR9 := Lib.hid hr
        have HC9 := Lib.hid hcc
        have HBW := Lib.hid (HBA.out.trans ((HB.out.mono (by have := HBA.out.size; have := HSA.out; omega)).trans (hb9.mono (by have := HSA.out; omega))))
        clear hr hcc ho9 hb9
        go_wp2_with fail
        go_ret2
        refine ⟨by rw [hp]; exact HBW.out, .inr ⟨HBB.out, A9, c9, rfl, HC9.out, by rw [hp]; exact HR9.out⟩⟩
end
section
theorem fill_set {ys : List Nat} {a : Nat} (h : a < ys.length) (h4 : a < 44) : (fillL 44 (ys.take a)).set a (gt ys a) = fillL 44 (ys.take (a + 1)) := by
  have hl : (ys.take a).length = a := by rw [List.length_take]; omega
  have hl2 : (ys.take (a + 1)).length = a + 1 := by rw [List.length_take]; omega
  unfold fillL
  rw [hl, hl2, List.set_append_right _ _ (by omega), hl, Nat.sub_self, show 44 - a = (44 - (a + 1)) + 1 by omega, List.replicate_succ, List.set_cons_zero, List.take_add_one, gt_of_lt h, Option.toList_some, List.append_assoc, List.singleton_append]
theorem fill_end {ys : List Nat} {a : Nat} (ha : a ≤ 44) (h : ¬ (a < 44 ∧ a < ys.length)) : ys.take a = ys.take 44 := by
  by_cases h4 : a = 44
  · rw [h4]
  · rw [List.take_of_length_le (by omega), List.take_of_length_le (by omega)]
theorem fill_zero (ys : List Nat) : fillL 44 (ys.take 0) = List.replicate 44 0 := by
  unfold fillL; simp
theorem gt_dropk (xs : List Nat) (k a : Nat) : gt (xs.drop k) a = gt xs (k + a) := by
  unfold gt
  rw [List.getD_eq_getElem?_getD, List.getD_eq_getElem?_getD, List.getElem?_drop]
def splP (xs : List Nat) (i : Nat) : Rws := (List.range i).map fun j => fillL 44 ((xs.drop (j * 44)).take 44)
theorem splP_next (xs : List Nat) (i : Nat) : splP xs (i + 1) = splP xs i ++ [fillL 44 ((xs.drop (i * 44)).take 44)] := by
  unfold splP
  rw [List.range_succ, List.map_append]; rfl
theorem splP_all (xs : List Nat) (k : Nat) : splP xs k = splF 44 xs k k := (splF_end 44 xs k).symm
set_option maxRecDepth 100000 in
set_option maxHeartbeats 8000000 in
theorem rsplit_any {w : World} {k n c : Nat} {A : Option Addr} {S : Nat → Prop} {xs : List Nat} (R : RdL ByR 1 S w A n xs) (hk : k ≤ 255) (hn : n ≤ k * 44) :
    Calls Tryz.prog 100 #[.int .i64 (k : Int), .slice A n c, .int .i64 44] w fun e w' => ∃ A' c', e = .returned (.tuple #[.slice A' k c', .int .i64 0]) ∧ RdL RowR 1 (fun j => w.heap.size ≤ j) w' A' k (splF 44 xs k k) ∧ Below w.heap.size w w' := by
  have hxl := R.1
  have HR := Lib.hid R
  have hbt := by_byt R
  have HBT := Lib.hid hbt
  have q0 : (k : Int) ≤ 255 := by omega
  have q1 : (0 : Int) ≤ (k : Int) := Int.natCast_nonneg _
  have q2 : ¬ (k : Int) * 44 < (n : Int) := by omega
  have q3 : (0 : Int) ≤ (n : Int) := Int.natCast_nonneg _
  clear R hbt
  go_enter Tryz.func100, Tryz.ntmps100
  go_wp2_with fail
  go_loopw [8, 9] (fun vs vi wr => ∃ (i : Nat) (A : Option Addr) (c' : Nat), i ≤ k ∧ vi = .int .i64 i ∧ vs = .slice A i c' ∧ Hid (OwnL RowR 68 1 w.heap.size (fun j => w.heap.size ≤ j) wr (.slice A i c') i (splP xs i)) ∧ Hid (Below w.heap.size w wr)) (fun _ vi _ => k - (intOf vi).toNat)
  case atStart => exact ⟨0, none, 0, Nat.zero_le _, rfl, rfl, Lib.hid (by exact OwnL.nil_), Lib.hid (Below.refl _ _)⟩
  case round =>
    obtain ⟨i, AO, cO, hi, rfl, rfl, HO, HB⟩ := hrel
    have p0 : (0 : Int) ≤ (i : Int) := Int.natCast_nonneg _
    by_cases hlt : i < k
    · have p1 : (i : Int) < (k : Int) := by omega
      obtain ⟨wo, hwo⟩ : ∃ wo, wo = wr := ⟨_, rfl⟩
      have hmk := makeBy 44 (by omega) wr
      have hin := RowIn.made wr 44 5
      have hbz : Below wr.heap.size wr (wr.alloc (.cells (Array.replicate 44 (.int .u8 0)) 5)) := (Below.refl _ _).alloc (Nat.le_refl _) _
      obtain ⟨g, hg⟩ : ∃ g, wr.heap.size = g := ⟨_, rfl⟩
      obtain ⟨w2, hw2⟩ : ∃ w2, wr.alloc (.cells (Array.replicate 44 (.int .u8 0)) 5) = w2 := ⟨_, rfl⟩
      rw [hw2] at hmk hin hbz
      rw [hg] at hmk hin hbz
      change (Instr.makeSlice 68 (.int .i64 44) (.int .i64 44)).run Tryz.prog wr = .ok (.slice (some ⟨g, 0, none⟩) 44 44) w2 at hmk
      have HIN := Lib.hid hin
      have HBZ := Lib.hid hbz
      have HG := Lib.hid hg
      clear hin hbz hw2 hg hwo
      go_wp2_with fail
      go_loopw [11] (fun va wr3 => ∃ (a : Nat) (cur : Array Value), a ≤ 44 ∧ va = .int .i64 a ∧ Hid (RowIn wr3 g cur (fillL 44 ((xs.drop (i * 44)).take a))) ∧ Hid (Below g wr wr3)) (fun va _ => 44 - (intOf va).toNat)
      case atStart => exact ⟨0, _, Nat.zero_le _, rfl, Lib.hid (by rw [fill_zero]; exact HIN.out), HBZ⟩
      case round =>
        obtain ⟨a, cur, ha, rfl, HC, HB2⟩ := hrel
        have a0 : (0 : Int) ≤ (a : Int) := Int.natCast_nonneg _
        have HBW := Lib.hid (HB.out.trans (HB2.out.mono (by rw [← HG.out]; exact HB.out.size)))
        have hlen : (fillL 44 ((xs.drop (i * 44)).take a)).length = 44 := fillL_len (by rw [List.length_take]; omega)
        have HLEN := Lib.hid hlen
        clear hlen
        by_cases h4 : a < 44
        · have a1 : (a : Int) < 44 := by omega
          by_cases hin : i * 44 + a < n
          · have a2 : (i : Int) * 44 + (a : Int) < (n : Int) := by omega
            obtain ⟨ba, oa, rfl, _, hba⟩ := HR.out.addr hin
            obtain ⟨v1, x1⟩ := by_at HR.out hin
            have v2 := (HBW.out.cell (p := ⟨ba, oa + (i * 44 + a), none⟩) hba).trans v1
            have HS := Lib.hid (show (fillL 44 ((xs.drop (i * 44)).take a)).set a (gt xs (i * 44 + a)) = fillL 44 ((xs.drop (i * 44)).take (a + 1)) by rw [← gt_dropk]; exact fill_set (by rw [List.length_drop]; omega) h4)
            have hca := HC.out.cell (i := a) (by rw [HLEN.out]; exact h4)
            have hfa := HC.out.frozen a
            obtain ⟨y, hy⟩ : ∃ y, gt xs (i * 44 + a) = y := ⟨_, rfl⟩
            rw [hy] at v2 x1 HS
            clear v1 hy
            have hgw : g < wr.heap.size := HC.out.box.lt
            have HCN := Lib.hid (show RowIn (wr.setCell ⟨g, a, none⟩ (.int .u8 (y : Int))) g _ (fillL 44 ((xs.drop (i * 44)).take (a + 1))) by rw [← HS.out]; exact HC.out.set (by rw [HLEN.out]; exact h4) x1)
            have HBN := Lib.hid (HB2.out.setCell (p := ⟨g, a, none⟩) (Nat.le_refl _) (.int .u8 (y : Int)))
            go_wp2_with fail
            exact ⟨⟨a + 1, _, h4, by go_num, HCN, HBN⟩, by simp [intOf]; omega⟩
          · have a2 : ¬ (i : Int) * 44 + (a : Int) < (n : Int) := by omega
            have HE := Lib.hid (show (xs.drop (i * 44)).take a = (xs.drop (i * 44)).take 44 from fill_end ha (by rw [List.length_drop]; omega))
            have HN := Lib.hid (splP_next xs i)
            have HO3 := Lib.hid (HO.out.keep RowR.stable (by rw [HG.out]; exact HB2.out))
            have HY : Hid (RowR (Cib.Rest (fun j => w.heap.size ≤ j) (.slice AO i cO)) wr [.slice (some ⟨g, 0, none⟩) 44 44] (fillL 44 ((xs.drop (i * 44)).take 44))) := Lib.hid (by
              have hrd := HC.out.rd (S := Cib.Rest (fun j => w.heap.size ≤ j) (.slice AO i cO)) (HO.out.rest (by rw [← HG.out]; exact HB.out.size) (by rw [HG.out]; omega))
              rw [HLEN.out, HE.out] at hrd
              exact ⟨some ⟨g, 0, none⟩, 44, 44, rfl, Nat.le_refl _, hrd⟩)
            have hszr := HBW.out.size
            clear HE HC
            go_wp2_with (at_builtin; go_must (refine wpList_push1 RowR.stable RowR.one sl_rows (by rfl) (by rfl) (base := w.heap.size) (S := fun j => w.heap.size ≤ j) (cs := #[.slice (some ⟨g, 0, none⟩) 44 44]) (y := fillL 44 ((xs.drop (i * 44)).take 44)) (by rfl) (by rfl) HO3.out (by rfl) HY.out (by unfold maxLen; omega) (by omega) hszr ?_); intro A8 c8 ug hc8 own9 hlt8 hb8 hat8; rw [← HN.out] at own9; have HO9 := Lib.hid own9; have HB9 := Lib.hid (HBW.out.trans hb8); clear own9 hb8 hlt8 hat8)
            exact ⟨⟨i + 1, A8, c8, hlt, by go_num, rfl, HO9, HB9⟩, by simp [intOf]; omega⟩
        · have a1 : ¬ (a : Int) < 44 := by omega
          have HE := Lib.hid (show (xs.drop (i * 44)).take a = (xs.drop (i * 44)).take 44 from fill_end ha (by rw [List.length_drop]; omega))
          have HN := Lib.hid (splP_next xs i)
          have HO3 := Lib.hid (HO.out.keep RowR.stable (by rw [HG.out]; exact HB2.out))
          have HY : Hid (RowR (Cib.Rest (fun j => w.heap.size ≤ j) (.slice AO i cO)) wr [.slice (some ⟨g, 0, none⟩) 44 44] (fillL 44 ((xs.drop (i * 44)).take 44))) := Lib.hid (by
            have hrd := HC.out.rd (S := Cib.Rest (fun j => w.heap.size ≤ j) (.slice AO i cO)) (HO.out.rest (by rw [← HG.out]; exact HB.out.size) (by rw [HG.out]; omega))
            rw [HLEN.out, HE.out] at hrd
            exact ⟨some ⟨g, 0, none⟩, 44, 44, rfl, Nat.le_refl _, hrd⟩)
          have hszr := HBW.out.size
          clear HE HC
          go_wp2_with (at_builtin; go_must (refine wpList_push1 RowR.stable RowR.one sl_rows (by rfl) (by rfl) (base := w.heap.size) (S := fun j => w.heap.size ≤ j) (cs := #[.slice (some ⟨g, 0, none⟩) 44 44]) (y := fillL 44 ((xs.drop (i * 44)).take 44)) (by rfl) (by rfl) HO3.out (by rfl) HY.out (by unfold maxLen; omega) (by omega) hszr ?_); intro A8 c8 ug hc8 own9 hlt8 hb8 hat8; rw [← HN.out] at own9; have HO9 := Lib.hid own9; have HB9 := Lib.hid (HBW.out.trans hb8); clear own9 hb8 hlt8 hat8)
          exact ⟨⟨i + 1, A8, c8, hlt, by go_num, rfl, HO9, HB9⟩, by simp [intOf]; omega⟩
    · have p1 : ¬ (i : Int) < (k : Int) := by omega
      obtain rfl : i = k := by omega
      go_wp2_with fail
      go_ret2
      obtain ⟨A', c', e, _, hr⟩ := HO.out.rd (S' := fun j => w.heap.size ≤ j) (fun j hj => hj) (fun cs x hx => RowR.stable _ _ _ _ _ _ hx fun b hb _ => ⟨hb.1, rfl⟩)
      injection e with e1 _ e2
      subst e1; subst e2
      exact ⟨AO, ⟨cO, rfl⟩, by rw [← splP_all]; exact hr, HB.out⟩
end
section
set_option maxRecDepth 100000 in
set_option maxHeartbeats 4000000 in
theorem rhome_any {w : World} {n place i : Nat} (hn : 1 ≤ n) (hn2 : n ≤ 1000) : Calls Tryz.prog 69 #[.int .i64 (n : Int), .int .i64 (place : Int), .int .i64 (i : Int)] w fun e w' => e = .returned (.int .i64 (homeN n place i : Int)) ∧ Below w.heap.size w w' := by
  have q0 : ¬ (n : Int) < 1 := by omega
  have q1 : ¬ (place : Int) < 0 := by omega
  have q2 : ¬ (i : Int) < 0 := by omega
  have q3 : ¬ n = 0 := by omega
  have q31 : ((n : Int) == 0) = false := by simp; omega
  have t1 : (place : Int).tmod (n : Int) = ((place % n : Nat) : Int) := by rw [Int.tmod_eq_emod_of_nonneg (Int.natCast_nonneg _)]; push_cast; rfl
  have t2 : (i : Int).tmod (n : Int) = ((i % n : Nat) : Int) := by rw [Int.tmod_eq_emod_of_nonneg (Int.natCast_nonneg _)]; push_cast; rfl
  have l1 : place % n < n := Nat.mod_lt _ (by omega)
  have l2 : i % n < n := Nat.mod_lt _ (by omega)
  obtain ⟨u, hu⟩ : ∃ u, place % n = u := ⟨_, rfl⟩
  obtain ⟨v, hv⟩ : ∃ v, i % n = v := ⟨_, rfl⟩
  rw [hu] at t1 l1
  rw [hv] at t2 l2
  have t3 : ((u : Int) + (v : Int)).tmod (n : Int) = (((u + v) % n : Nat) : Int) := by rw [show (u : Int) + (v : Int) = ((u + v : Nat) : Int) by push_cast; rfl, Int.tmod_eq_emod_of_nonneg (Int.natCast_nonneg _)]; push_cast; rfl
  have q4 : IntKind.i64.wrap ((u : Int) + (v : Int)) = (u : Int) + (v : Int) := by rw [IntKind.wrap_i64]; omega
  have HH := Lib.hid (show homeN n place i = (u + v) % n by unfold homeN; rw [hu, hv])
  obtain ⟨x, hx⟩ : ∃ x, (u + v) % n = x := ⟨_, rfl⟩
  rw [hx] at t3 HH
  clear hu hv hx
  go_enter Tryz.func69, Tryz.ntmps69
  go_wp2_with fail
  refine wp_region_held_drew (S := fun _ => True) (by kernel_rfl) (trivial) (fun hHeld => ?_)
  refine tkH 0 rfl ?_
  refine tkH 1 rfl ?_
  refine tkH 2 rfl ?_
  refine tkH 3 rfl ?_
  refine tkH 4 rfl ?_
  refine tkH 5 rfl ?_
  refine tkH 6 rfl ?_
  refine tkH 7 rfl ?_
  refine tkH 8 rfl ?_
  refine tkH 9 rfl ?_
  refine wpAnyH_done (by kernel_rfl) ?_ _
  go_wp2_with fail
  go_ret
  exact ⟨by rw [HH.out]; rfl, (Below.refl _ _).drew⟩
theorem shC_setb (x : Shd) (k y : Nat) : (shC x).setIfInBounds (5 + k) (.int .u8 (y : Int)) = shC { x with body := x.body.set k y } := by
  unfold shC shV
  rw [List.setIfInBounds_toArray, List.set_append_right _ _ (by simp)]
  simp [List.map_set]
theorem fill_full {row : List Nat} (h : row.length = 44) : fillL 44 (row.take 44) = row := by
  rw [List.take_of_length_le (by omega)]
  unfold fillL
  rw [h]; simp
attribute [local go_sem ↓] shut_loadS shut_zeroS shut_buildS shut_storeS
attribute [local go_sem] run_zeroS
set_option maxRecDepth 100000 in
set_option maxHeartbeats 8000000 in
theorem rsector_any {w : World} {r : Ref} {i size c : Nat} {A : Option Addr} {S : Nat → Prop} {row : List Nat} (R : RdL ByR 1 S w A 44 row) (h1 : 1 ≤ r.kind) (h4 : r.kind ≤ 4) (hi : i < 256) (hp : r.place < 65536) (hg : Hid (r.gen < 2 ^ 64)) (hs : size < 65536) :
    Calls Tryz.prog 102 #[.agg (refC r), .int .i64 (i : Int), .int .i64 (size : Int), .slice A 44 c] w fun e w' => ∃ A' c', e = .returned (.slice A' 64 c') ∧ 64 ≤ c' ∧ RdL ByR 1 (fun j => w.heap.size ≤ j) w' A' 64 (sncS (shR r i size row)) ∧ Below w.heap.size w w' := by
  have g1 : IntKind.u8.wrap (i : Int) = (i : Int) := by rw [IntKind.wrap_u8]; omega
  have g2 : IntKind.u16.wrap (r.place : Int) = (r.place : Int) := by rw [IntKind.wrap_u16]; omega
  have g3 : IntKind.u16.wrap (size : Int) = (size : Int) := by rw [IntKind.wrap_u16]; omega
  have hrl : row.length = 44 := R.1
  have hby := by_byt R
  have HXO := Lib.hid (show (shR r i size row).ok from ⟨by show r.kind < 256; omega, hi, hp, hg.out, hs, hrl, hby⟩)
  have hkb : kindB (shR r i size row).kind = true := decide_eq_true ⟨h1, h4⟩
  have HKB := Lib.hid hkb
  have HR := Lib.hid R
  have b0 := BoxAt.new w #[.int .u8 (r.kind : Int), .int .i64 (r.place : Int), .int .u64 (r.gen : Int)] 38
  have hb0 : Below w.heap.size w (w.alloc (.cells #[.int .u8 (r.kind : Int), .int .i64 (r.place : Int), .int .u64 (r.gen : Int)] 38)) := (Below.refl _ _).alloc (Nat.le_refl _) _
  obtain ⟨WA, hWA⟩ : ∃ W, w.alloc (.cells #[.int .u8 (r.kind : Int), .int .i64 (r.place : Int), .int .u64 (r.gen : Int)] 38) = W := ⟨_, rfl⟩
  rw [hWA] at b0 hb0
  have b1 := BoxAt.new WA (shC sh0) 193
  have hb1 : Below w.heap.size w (WA.alloc (.cells (shC sh0) 193)) := hb0.alloc hb0.size _
  have b01 := b0.alloc (.cells (shC sh0) 193)
  obtain ⟨W1, hW1⟩ : ∃ W, WA.alloc (.cells (shC sh0) 193) = W := ⟨_, rfl⟩
  rw [hW1] at b1 hb1 b01
  obtain ⟨q, hq⟩ : ∃ q, WA.heap.size = q := ⟨_, rfl⟩
  rw [hq] at b1
  have hqw : w.heap.size ≤ q := by rw [← hq]; exact hb0.size
  have hx0 : (⟨r.kind, i, r.place, r.gen, size, z44⟩ : Shd).body.length = 44 := z44_len
  have hst1 := run_storeS (y := ⟨r.kind, i, r.place, r.gen, size, z44⟩) b1 sh0_ok.l hx0
  have b2 := shC_set (y := ⟨r.kind, i, r.place, r.gen, size, z44⟩) b1 sh0_ok.l hx0
  have hb2 := setS_below hb1 (p := q) (by omega) (shV ⟨r.kind, i, r.place, r.gen, size, z44⟩)
  obtain ⟨W2, hW2⟩ : ∃ W, W1.setCells q 0 (shV ⟨r.kind, i, r.place, r.gen, size, z44⟩) = W := ⟨_, rfl⟩
  rw [hW2] at hst1 b2 hb2
  have hbl := run_build5 r.kind i r.place r.gen size
  have v0 := b0.cell 0
  have v1 := b0.cell 1
  have v2 := b0.cell 2
  have HB2 := Lib.hid (show BoxAt W2 q (shC (shR r i size (fillL 44 (row.take 0)))) by rw [fill_zero]; exact b2)
  have HBL := Lib.hid hb2
  have HRL := Lib.hid hrl
  have HQW := Lib.hid hqw
  clear R hby hkb b1 hb1 b01 b2 hb2 hb0 hx0 b0 hrl hqw hi hp hs h1 h4
  unfold refC
  go_enter Tryz.func102, Tryz.ntmps102
  go_wp2_with fail
  clear hW2 hst1 hbl v0 v1 v2 hW1 hq hWA
  go_loopw [10] (fun vk wr => ∃ k : Nat, k ≤ 44 ∧ vk = .int .i64 k ∧ Hid (BoxAt wr q (shC (shR r i size (fillL 44 (row.take k))))) ∧ Hid (Below w.heap.size w wr)) (fun vk _ => 44 - (intOf vk).toNat)
  case atStart => exact ⟨0, Nat.zero_le _, rfl, HB2, HBL⟩
  case round =>
    obtain ⟨k, hk, rfl, HX, HB⟩ := hrel
    have k0 : (0 : Int) ≤ (k : Int) := Int.natCast_nonneg _
    by_cases hlt : k < 44
    · have k1 : (k : Int) < 44 := by omega
      have hfl : (fillL 44 (row.take k)).length = 44 := fillL_len (by rw [List.length_take]; omega)
      obtain ⟨ba, oa, rfl, _, hba⟩ := HR.out.addr hlt
      obtain ⟨y1, x1⟩ := by_at HR.out hlt
      have y2 := (HB.out.cell (p := ⟨ba, oa + k, none⟩) hba).trans y1
      have HS := Lib.hid (show (fillL 44 (row.take k)).set k (gt row k) = fillL 44 (row.take (k + 1)) from fill_set (by rw [HRL.out]; exact hlt) hlt)
      have hxc := (HX.out.cell (5 + k)).trans (shC_b (x := shR r i size (fillL 44 (row.take k))) (i := k) (by show k < (fillL 44 (row.take k)).length; omega))
      have hxf := HX.out.frozen (5 + k)
      have hqk := HX.out.lt
      obtain ⟨y, hy⟩ : ∃ y, gt row k = y := ⟨_, rfl⟩
      rw [hy] at y2 x1 HS
      have HXN := Lib.hid (show BoxAt (wr.setCell ⟨q, 5 + k, none⟩ (.int .u8 (y : Int))) q (shC (shR r i size (fillL 44 (row.take (k + 1))))) by
        have h9 := HX.out.set (5 + k) (.int .u8 (y : Int))
        rw [shC_setb] at h9
        rw [← HS.out]
        exact h9)
      have HBN := Lib.hid (HB.out.setCell (p := ⟨q, 5 + k, none⟩) HQW.out (.int .u8 (y : Int)))
      clear y1 hy hfl hba
      go_wp2_with fail
      exact ⟨⟨k + 1, hlt, by go_num, HXN, HBN⟩, by simp [intOf]; omega⟩
    · have k1 : ¬ (k : Int) < 44 := by omega
      obtain rfl : k = 44 := by omega
      have hbx := HX.out
      rw [fill_full HRL.out] at hbx
      have hld := run_loadS (w := wr) (x := shR r i size row) hbx HRL.out
      have hput := rshput_any (w := wr) HXO.out
      clear hbx k0 hlt
      go_wp2_with fail
      refine hput.mono ?_
      clear hput hld
      rintro e w4 ⟨hb4, ⟨hk, _⟩ | ⟨_, A6, c6, rfl, hc6, hr6⟩⟩
      · exact absurd (hk.symm.trans HKB.out) (by decide)
      have HC6 := Lib.hid hc6
      have HR6 := Lib.hid hr6
      have HW4 := Lib.hid (HB.out.trans (hb4.mono HB.out.size))
      clear hb4 hc6 hr6
      go_wp2_with fail
      go_ret
      exact ⟨A6, c6, rfl, HC6.out, HR6.out.weaken ByR.stable (fun j hj => Nat.le_trans HB.out.size hj), HW4.out⟩
end
section

section
variable {A A2 A3 : Option Addr} {n c n2 c2 n3 c3 m : Nat} {d : Bool} {p : Nat} {w : World}
end
end
section

theorem slEv : SlTy Tryz.prog 94 232 (.agg #[.int .i64 0, .slice none 0 0, .int .i64 0, .int .u32 0]) 4 48 := ⟨Tryz.underlying94, by kernel_rfl, rfl, by omega⟩

/-- The document's drive of n sectors, at x; its blocks are G. -/
structure RefB (Sb : Nat → Prop) (w : World) (x n : Nat) (vL vW : Value) (rs : RSt) : Prop where
  box : BoxAt w x #[.int .i64 n, vL, vW, .bool rs.gone]
  oL : OwnL EvR 232 4 0 Sb w vL rs.L.length rs.L
  oW : OwnL EvR 232 4 0 Sb w vW rs.wait.length rs.wait
  sx : ∀ b, Sb b → b ≠ x ∧ some b ≠ vL.ownBlock ∧ some b ≠ vW.ownBlock
  lx : vL.ownBlock ≠ some x
  wx : vW.ownBlock ≠ some x
  lw : vL.ownBlock = none ∨ vL.ownBlock ≠ vW.ownBlock
def RefAt (G : Nat → Prop) (w : World) (x n : Nat) (rs : RSt) : Prop := ∃ Sb vL vW, RefB Sb w x n vL vW rs ∧ G x ∧ (∀ b, Sb b → G b) ∧ (∀ k, vL.ownBlock = some k → G k) ∧ (∀ k, vW.ownBlock = some k → G k) ∧ ∀ k, G k → k < w.heap.size

theorem RefAt.keep {F G : Nat → Prop} {w w' : World} {x n : Nat} {rs : RSt} (h : RefAt G w x n rs) (hk : Keep F w w') (hd : ∀ k, G k → ¬ F k) : RefAt G w' x n rs := by
  obtain ⟨Sb, vL, vW, hb, g1, g2, g3, g4, lt⟩ := h
  have hh : ∀ k, G k → w'.heap[k]? = w.heap[k]? := fun k hf => hk.block k (lt k hf) (hd k hf)
  exact ⟨Sb, vL, vW, ⟨hb.box.keep (hh x g1), ownL_blocks EvR.stable hb.oL (fun k hk => hh k (g3 k hk)) (fun b hs => hh b (g2 b hs)), ownL_blocks EvR.stable hb.oW (fun k hk => hh k (g4 k hk)) (fun b hs => hh b (g2 b hs)), hb.sx, hb.lx, hb.wx, hb.lw⟩, g1, g2, g3, g4, fun k hf => Nat.lt_of_lt_of_le (lt k hf) hk.size⟩
theorem RefAt.below {G : Nat → Prop} {w w' : World} {x n : Nat} {rs : RSt} (h : RefAt G w x n rs) (hk : Below w.heap.size w w') : RefAt G w' x n rs := h.keep (Keep.of_below (F := fun _ => False) hk) (fun _ _ h => h)
theorem RefAt.lt {G : Nat → Prop} {w : World} {x n : Nat} {rs : RSt} (h : RefAt G w x n rs) {k : Nat} (hk : G k) : k < w.heap.size := by
  obtain ⟨Sb, vL, vW, hb, _, _, _, _, lt⟩ := h; exact lt k hk
/-- A call changed the document's drive. -/
def RUpd (G : Nat → Prop) (w w' : World) (x n : Nat) (rs' : RSt) : Prop := ∃ G', RefAt G' w' x n rs' ∧ (∀ k, G' k → k < w.heap.size → G k) ∧ Keep G w w'

set_option maxRecDepth 100000 in
theorem rnew_good (n : Nat) (h1 : 1 ≤ n) (h2 : n ≤ 600) (w : World) :
    Calls Tryz.prog 143 #[.int .i64 n] w fun e w' => ∃ x G, e = .returned (.pointer (some ⟨x, 0, none⟩)) ∧ RefAt G w' x n RSt.new ∧ (∀ b, G b → w.heap.size ≤ b) ∧ Below w.heap.size w w' := by
  go_enter Tryz.func143, Tryz.ntmps143
  go_wp2_with fail
  go_ret
  have hb := BoxAt.new w #[.int .i64 n, .slice none 0 0, .slice none 0 0, .bool false] 96
  refine ⟨w.heap.size, fun b => b = w.heap.size, rfl, ⟨fun _ => False, .slice none 0 0, .slice none 0 0, ⟨hb, OwnL.nil_, OwnL.nil_, fun _ h => h.elim, by simp [Value.ownBlock], by simp [Value.ownBlock], .inl rfl⟩, rfl, fun _ h => h.elim, by simp [Value.ownBlock], by simp [Value.ownBlock], ?_⟩, ?_, (Below.refl _ _).alloc (Nat.le_refl _) _⟩
  · rintro k rfl; exact hb.lt
  · rintro k rfl; exact Nat.le_refl _

theorem ref_cells {Sb : Nat → Prop} {w : World} {x n : Nat} {vL vW : Value} {rs : RSt} (h : RefB Sb w x n vL vW rs) : w.cell? ⟨x, 0, none⟩ = some (.int .i64 n) ∧ w.cell? ⟨x, 1, none⟩ = some vL ∧ w.cell? ⟨x, 2, none⟩ = some vW ∧ w.cell? ⟨x, 3, none⟩ = some (.bool rs.gone) :=
  ⟨h.box.cell 0, h.box.cell 1, h.box.cell 2, h.box.cell 3⟩
/-- All events let go, the mark set anew. -/
theorem RefAt.blank {G : Nat → Prop} {w : World} {x n : Nat} {rs : RSt} (h : RefAt G w x n rs) (d : Bool) : RUpd G w (((w.setCell ⟨x, 3, none⟩ (.bool d)).setCell ⟨x, 1, none⟩ (.slice none 0 0)).setCell ⟨x, 2, none⟩ (.slice none 0 0)) x n ⟨[], [], d⟩ := by
  obtain ⟨Sb, vL, vW, hb, g1, g2, g3, g4, lt⟩ := h
  have hx := ((hb.box.set 3 (.bool d)).set 1 (.slice none 0 0)).set 2 (.slice none 0 0)
  have hK : Keep G w (((w.setCell ⟨x, 3, none⟩ (.bool d)).setCell ⟨x, 1, none⟩ (.slice none 0 0)).setCell ⟨x, 2, none⟩ (.slice none 0 0)) := (((Keep.refl G w).setCell (p := ⟨x, 3, none⟩) (fun _ => g1) _).setCell (p := ⟨x, 1, none⟩) (fun _ => g1) _).setCell (p := ⟨x, 2, none⟩) (fun _ => g1) _
  refine ⟨fun b => b = x, ⟨fun _ => False, .slice none 0 0, .slice none 0 0, ⟨hx, OwnL.nil_, OwnL.nil_, fun _ h => h.elim, by simp [Value.ownBlock], by simp [Value.ownBlock], .inl rfl⟩, rfl, fun _ h => h.elim, by simp [Value.ownBlock], by simp [Value.ownBlock], ?_⟩, ?_, hK⟩
  · rintro k rfl; exact hx.lt
  · rintro k rfl _; exact g1

set_option maxRecDepth 100000 in
theorem rfail_any {G : Nat → Prop} {w : World} {x n : Nat} {rs : RSt} (h : Hid (RefAt G w x n rs)) :
    Calls Tryz.prog 109 #[.pointer (some ⟨x, 0, none⟩)] w fun e w' => e = .returned (.tuple #[]) ∧ RUpd G w w' x n ⟨[], [], true⟩ := by
  obtain ⟨Sb, vL, vW, hb, _⟩ := h.out
  obtain ⟨k0, k1, k2, k3⟩ := ref_cells hb
  have z1 := hb.box.frozen 1; have z2 := hb.box.frozen 2; have z3 := hb.box.frozen 3
  clear hb
  go_enter Tryz.func109, Tryz.ntmps109
  go_wp2_with fail
  go_end0
  exact ⟨rfl, h.out.blank true⟩
set_option maxRecDepth 100000 in
theorem rreplace_any {G : Nat → Prop} {w : World} {x n : Nat} {rs : RSt} (h : Hid (RefAt G w x n rs)) :
    Calls Tryz.prog 111 #[.pointer (some ⟨x, 0, none⟩)] w fun e w' => e = .returned (.tuple #[]) ∧ RUpd G w w' x n ⟨[], [], false⟩ := by
  obtain ⟨Sb, vL, vW, hb, _⟩ := h.out
  obtain ⟨k0, k1, k2, k3⟩ := ref_cells hb
  have z1 := hb.box.frozen 1; have z2 := hb.box.frozen 2; have z3 := hb.box.frozen 3
  clear hb
  go_enter Tryz.func111, Tryz.ntmps111
  go_wp2_with fail
  go_end0
  exact ⟨rfl, h.out.blank false⟩

set_option maxRecDepth 100000 in
theorem rhas_any {G : Nat → Prop} {w : World} {x n : Nat} {rs : RSt} (h : Hid (RefAt G w x n rs)) (z : Int) :
    Calls Tryz.prog 151 #[.pointer (some ⟨x, 0, none⟩), .int .i64 z] w fun e w' => e = .returned (.bool (decide (0 ≤ z ∧ z < n))) ∧ Below w.heap.size w w' := by
  obtain ⟨Sb, vL, vW, hb, _⟩ := h.out
  obtain ⟨k0, k1, k2, k3⟩ := ref_cells hb
  clear hb
  by_cases h0 : 0 ≤ z
  · go_enter Tryz.func151, Tryz.ntmps151
    go_wp2_with fail
    go_ret
    exact ⟨ret_bool2 (by simp [h0] <;> omega), Below.refl _ _⟩
  · go_enter Tryz.func151, Tryz.ntmps151
    go_wp2_with fail
    go_ret
    exact ⟨ret_bool2 (by simp [h0] <;> omega), Below.refl _ _⟩
end
section
attribute [local go_sem ↓] shut_build shut_slice

theorem slU8 : SlTy Tryz.prog 68 5 (.int .u8 0) 1 1 := ⟨Tryz.underlying68, by kernel_rfl, rfl, by omega⟩

theorem ownL_wide {X : Type} {R : (Nat → Prop) → World → List Value → X → Prop} {E : TypeId} {s base : Nat} {S T : Nat → Prop} {w : World} {v : Value} {n : Nat} {xs : List X} (hR : Stable R) (h : OwnL R E s base S w v n xs) (hS : ∀ b, S b → T b) : OwnL R E s base T w v n xs := by
  obtain ⟨css, h1, h2, h3, h4, h5⟩ := h
  exact ⟨css, h1, h2, h3, h4, fun i cs x hc hx => hR _ _ _ _ _ _ (h5 i cs x hc hx) fun b hb _ => ⟨⟨hS b hb.1, hb.2⟩, rfl⟩⟩
theorem rwrite_post {G Sb : Nat → Prop} {w w1 w8 u : World} {x n : Nat} {vL vW vN : Value} {rs : RSt} {e : Ev} (hB : RefB Sb w1 x n vL vW rs) (g1 : G x) (g2 : ∀ b, Sb b → G b) (g3 : ∀ k, vL.ownBlock = some k → G k) (g4 : ∀ k, vW.ownBlock = some k → G k) (lt : ∀ k, G k → k < w1.heap.size)
    (h1 : Below w.heap.size w w1) (h8 : Below w1.heap.size w1 w8) (hu : w8.grownBy u vW.ownBlock) (hs : w8.heap.size < u.heap.size)
    (own : OwnL EvR 232 4 0 (fun b => Sb b ∨ (w1.heap.size ≤ b ∧ b < w8.heap.size)) u vN (rs.wait.length + 1) (rs.wait ++ [e])) (hat : vN.ownBlock = vW.ownBlock ∨ vN.ownBlock = some (w8.heap.size + 1)) :
    RUpd G w (u.setCell ⟨x, 2, none⟩ vN) x n { rs with wait := rs.wait ++ [e] } := by
  have s8 := h8.size
  have hk : ∀ k, k < w1.heap.size → some k ≠ vW.ownBlock → u.heap[k]? = w1.heap[k]? := fun k hk hn => (hu.block k (by omega) hn).trans (h8.block k hk)
  have hset : ∀ k, k ≠ x → (u.setCell ⟨x, 2, none⟩ vN).heap[k]? = u.heap[k]? := fun k hk => Below.heap_setCell _ _ _ _ hk
  have hx : x < w1.heap.size := lt x g1
  have hN : ∀ k, vN.ownBlock = some k → (vW.ownBlock = some k) ∨ k = w8.heap.size + 1 := fun k hk => by
    rcases hat with h | h
    · exact .inl (h ▸ hk)
    · rw [h] at hk; injection hk with hk; exact .inr hk.symm
  have hNx : vN.ownBlock ≠ some x := fun e => by
    rcases hN x e with h | h
    · exact hB.wx h
    · omega
  have hlen : (rs.wait ++ [e]).length = rs.wait.length + 1 := by simp
  refine ⟨fun b => G b ∨ (w1.heap.size ≤ b ∧ b < u.heap.size), ⟨fun b => Sb b ∨ (w1.heap.size ≤ b ∧ b < w8.heap.size), vL, vN, ⟨?_, ?_, ?_, ?_, hB.lx, hNx, ?_⟩, .inl g1, ?_, fun k hk => .inl (g3 k hk), ?_, ?_⟩, ?_, ?_⟩
  · exact (hB.box.keep (hk x hx (fun e => hB.wx e.symm))).set 2 vN
  · refine ownL_wide EvR.stable (ownL_blocks EvR.stable hB.oL (fun k hk2 => ?_) (fun b hs2 => ?_)) (fun b hb => .inl hb)
    · refine (hset k (fun e => hB.lx (e ▸ hk2))).trans (hk k (lt k (g3 k hk2)) (fun e => ?_))
      rcases hB.lw with h | h
      · rw [h] at hk2; cases hk2
      · exact h (hk2.trans e)
    · exact (hset b (hB.sx b hs2).1).trans (hk b (lt b (g2 b hs2)) (hB.sx b hs2).2.2)
  · show OwnL EvR _ 4 0 _ _ vN (rs.wait ++ [e]).length (rs.wait ++ [e])
    rw [hlen]
    refine ownL_blocks EvR.stable own (fun k hk2 => hset k (fun e => hNx (e ▸ hk2))) (fun b hs2 => hset b ?_)
    rcases hs2 with h | h
    · exact (hB.sx b h).1
    · omega
  · rintro b (h | h)
    · refine ⟨(hB.sx b h).1, (hB.sx b h).2.1, fun e => ?_⟩
      have := lt b (g2 b h)
      rcases hN b e.symm with h2 | h2
      · exact (hB.sx b h).2.2 h2.symm
      · omega
    · refine ⟨by omega, fun e => ?_, fun e => ?_⟩
      · have := lt b (g3 b e.symm); omega
      · rcases hN b e.symm with h2 | h2
        · have := lt b (g4 b h2); omega
        · omega
  · rcases hB.lw with h | h
    · exact .inl h
    · right
      intro e
      cases hv : vL.ownBlock with
      | none => rw [hv] at e; rcases hat with h2 | h2 <;> rw [← e] at h2
                · exact h (hv.trans h2)
                · cases h2
      | some k =>
        have hk3 := hN k (e ▸ hv)
        have := lt k (g3 k hv)
        rcases hk3 with h2 | h2
        · exact h (hv.trans h2.symm)
        · omega
  · rintro b (h | h)
    · exact .inl (g2 b h)
    · exact .inr ⟨h.1, by omega⟩
  · intro k hk2
    rcases hN k hk2 with h2 | h2
    · exact .inl (g4 k h2)
    · right
      have := (own.lt k hk2).2
      exact ⟨by omega, this⟩
  · rintro k (h | h)
    · have := lt k h; simp; omega
    · simpa using h.2
  · rintro k (h | h) hlk
    · exact h
    · have := h1.size; omega
  · refine (Keep.of_below (F := G) h1).trans (G := G) ?_ (fun k h _ => h)
    exact ⟨hu.os.trans h8.os, hu.tape.trans h8.tape, hu.output.trans h8.output, by simp; omega, fun k hk2 hg => (hset k (fun e => hg (e ▸ g1))).trans (hk k hk2 (fun e => hg (g4 k e.symm)))⟩

set_option maxRecDepth 100000 in
set_option maxHeartbeats 8000000 in
theorem rwrite_good {G : Nat → Prop} {w : World} {x n : Nat} {rs : RSt} (h : Hid (RefAt G w x n rs)) (hd : rs.gone = false) (z : Nat) (hz : z < n) {S0 : Nat → Prop} {A : Option Addr} {c : Nat} {bs : List Int} (hb : Hid (RdL U8R 1 S0 w A 64 bs)) (hcl : rs.wait.length < 1000000) :
    Calls Tryz.prog 146 #[.pointer (some ⟨x, 0, none⟩), .int .i64 z, .slice A 64 c] w fun e w' => e = .returned (.int .i64 0) ∧ RUpd G w w' x n { rs with wait := rs.wait ++ [⟨z, bs, 0, 0⟩] } := by
  obtain ⟨Sb, vL, vW, hB, _⟩ := h.out
  obtain ⟨k0, k1, k2, k3⟩ := ref_cells hB
  rw [hd] at k3
  clear hB
  go_enter Tryz.func146, Tryz.ntmps146
  go_wp2_with fail
  refine (rhas_any h z).mono ?_
  rintro e w1 ⟨rfl, h1⟩
  have e1 : decide (0 ≤ (z : Int) ∧ (z : Int) < n) = true := by simp; omega
  rw [e1]
  clear e1 k0 k1 k2 k3
  have U1 := Lib.hid h1
  obtain ⟨Sb, vL, vW, hB, g1, g2, g3, g4, lt⟩ := h.out.below h1
  have R1 := Lib.hid (hb.out.below U8R.stable h1)
  obtain ⟨k0, k1, k2, k3⟩ := ref_cells hB
  have z2 := hB.box.frozen 2
  have HB := Lib.hid hB
  obtain ⟨AW, cW, rfl, hWc⟩ := hB.oW.form
  have B0 : Below w1.heap.size w1 (w1.alloc (.cells #[] 5)).drew := ((Below.refl _ _).alloc (Nat.le_refl _) _).drew
  have own0 : OwnL U8R 5 1 w1.heap.size (fun _ => False) (w1.alloc (.cells #[] 5)).drew (.slice (some ⟨w1.heap.size, 0, none⟩) 0 0) 0 [] := (OwnL.made (R := U8R) (E := 5) (s := 1) (S := fun _ => False) (base := w1.heap.size) (w := w1) #[] 0 (Nat.le_refl _) (by decide) (by simp)).keep U8R.stable ((Below.refl _ _).drew)
  have rd8 := R1.out.below U8R.stable B0
  have k2a : ∀ o, (w1.alloc o).cell? ⟨x, 2, none⟩ = some (.slice AW rs.wait.length cW) := fun o => cell_alloc2 k2 o
  have g8 : ∀ w8, (w1.alloc (.cells #[] 5)).drew.grownBy w8 (Value.slice (some ⟨w1.heap.size, 0, none⟩) 0 0).ownBlock → Below w1.heap.size w1 w8 := fun w8 hg => B0.trans ⟨hg.os, hg.tape, hg.output, hg.size, fun k hk => hg.block k (by simp; omega) (by simp [Value.ownBlock]; omega)⟩
  have KK8 := Lib.hid (fun w8 hg => (((g8 w8 hg).cell (p := ⟨x, 2, none⟩) (lt x g1)).trans k2))
  have KK8a := Lib.hid (fun w8 hg (o : Obj) => cell_alloc2 (((g8 w8 hg).cell (p := ⟨x, 2, none⟩) (lt x g1)).trans k2) o)
  have hxW : some x ≠ (Value.slice AW rs.wait.length cW).ownBlock := fun e => hB.wx e.symm
  have KO8 := Lib.hid (fun w8 (hg : (w1.alloc (.cells #[] 5)).drew.grownBy w8 (Value.slice (some ⟨w1.heap.size, 0, none⟩) 0 0).ownBlock) => ownL_wide (T := fun b => Sb b ∨ (w1.heap.size ≤ b ∧ b < w8.heap.size)) EvR.stable (ownL_blocks EvR.stable hB.oW (fun k hk => (g8 w8 hg).block k (lt k (g4 k hk))) (fun b hs => (g8 w8 hg).block b (lt b (g2 b hs)))) (fun b hb => .inl hb))
  have KE := Lib.hid (fun A8 c8 w8 (own8 : OwnL U8R 5 1 w1.heap.size (fun _ => False) w8 (.slice A8 (0 + 64) c8) (0 + 64) ([] ++ bs)) (hg : (w1.alloc (.cells #[] 5)).drew.grownBy w8 (Value.slice (some ⟨w1.heap.size, 0, none⟩) 0 0).ownBlock) =>
    (show EvR (Go.Cib.Rest (fun b => Sb b ∨ (w1.heap.size ≤ b ∧ b < w8.heap.size)) (.slice AW rs.wait.length cW)) w8 [.int .i64 z, .slice A8 64 c8, .int .i64 0, .int .u32 0] ⟨z, bs, 0, 0⟩ from by
      obtain ⟨A', c', e, hcc9, hr⟩ := own8.rd (S' := (w1.heap.size ≤ ·)) (fun k hk => hk) (fun _ _ h => h)
      obtain ⟨rfl, rfl⟩ : A8 = A' ∧ c8 = c' := by simpa using e
      obtain ⟨b, o, rfl, h1, h2, h3⟩ := u8_exact hr (by omega)
      refine ⟨_, 64, c8, rfl, (h3.weaken U8R.stable (S' := Go.Cib.Rest (fun b => Sb b ∨ (w1.heap.size ≤ b ∧ b < w8.heap.size)) (.slice AW rs.wait.length cW)) ?_), by omega⟩
      rintro b' rfl
      exact ⟨.inr ⟨h1, h2⟩, fun e => by have := lt b' (g4 b' e.symm); omega⟩))
  have KF := Lib.hid (fun w8 (hg : (w1.alloc (.cells #[] 5)).drew.grownBy w8 (Value.slice (some ⟨w1.heap.size, 0, none⟩) 0 0).ownBlock) (u : Grw (Value.slice AW rs.wait.length cW).ownBlock w8) =>
    (show u.to.cell? ⟨x, 2, none⟩ = some (.slice AW rs.wait.length cW) ∧ u.to.frozen? ⟨x, 2, none⟩ = false from
      ⟨cell_far2 (((g8 w8 hg).cell (p := ⟨x, 2, none⟩) (lt x g1)).trans k2) u.ok hxW, frozen_far2 (((g8 w8 hg).cell (p := ⟨x, 2, none⟩) (lt x g1)).trans k2) (((g8 w8 hg).frozen (p := ⟨x, 2, none⟩) (lt x g1)).trans z2) u.ok hxW⟩))
  clear hB h hb h1
  go_wp2_with fail
  go_region_law (first | (refine step_of_list (by rfl) (wpList_appL U8R.stable U8R.one slU8 (by rfl) (by rfl) (base := w1.heap.size) (S := fun _ => False) (by rfl) own0 (by rfl) rd8 (fun _ _ hy => hy) (by decide) (by decide) (by simp) ?_); intro A8 c8 w8 hc8 own8 hg8 hat8; refine And.intro rfl ?_; have k28 := KK8.out w8 hg8; have k28a := KK8a.out w8 hg8; have own9 := KO8.out w8 hg8) | (refine step_of_list (by rfl) (wpList_push1 EvR.stable EvR.one slEv (by rfl) (by rfl) (base := 0) (S := fun b => Sb b ∨ (w1.heap.size ≤ b ∧ b < w8.heap.size)) (cs := #[.int .i64 z, .slice A8 64 c8, .int .i64 0, .int .u32 0]) (y := ⟨z, bs, 0, 0⟩) (by rfl) (by rfl) own9 (by rfl) (KE.out A8 c8 w8 own8 hg8) (by unfold maxLen; omega) (by omega) (Nat.zero_le _) ?_); intro A11 c11 u11 hc11 own11 hlt11 hb11 hat11; refine And.intro rfl ?_; obtain ⟨k30, k31⟩ := KF.out w8 hg8 u11))
  all_goals go_wp2_with fail
  all_goals go_ret
  all_goals exact ⟨rfl, rwrite_post HB.out g1 g2 g3 g4 lt U1.out (g8 w8 hg8) u11.ok hlt11 own11 hat11⟩
end
end Go.Proofs.YtihnlhfngmbglaaGreat
