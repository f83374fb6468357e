/-
  The document's drive, whatever is asked; a drive and the document's side by side.
-/
import Derived.Test.YtnceaimhhfjmdaaRefD8
import Derived.Test.YtnceaimhhfjmdaaDrvZ
set_option linter.unusedSimpArgs false
set_option linter.unusedVariables false
namespace Go.Proofs.Ytnceaimhhfjmdaa
open Go.RowKit Go.Cib
attribute [local go_sem] cell_set Later.cell Later.frozen Grw.cell Grw.frozen

theorem RefAt.rupd {G : Nat → Prop} {w w' : World} {x n : Nat} {rs : RSt} (h : RefAt G w x n rs) (hb : Below w.heap.size w w') : RUpd G w w' x n rs := ⟨G, h.below hb, fun _ hk _ => hk, Keep.of_below hb⟩
def wrOk (rs : RSt) (n : Nat) (z : Int) (m : Nat) : Prop := rs.gone = false ∧ (0 ≤ z ∧ z < n) ∧ m = 64
instance (rs : RSt) (n : Nat) (z : Int) (m : Nat) : Decidable (wrOk rs n z m) := by unfold wrOk; infer_instance
theorem rwrite_all {G : Nat → Prop} {w : World} {x n : Nat} {rs : RSt} (h : Hid (RefAt G w x n rs)) (z : Int) {S0 : Nat → Prop} {A : Option Addr} {m c : Nat} {bs : List Int} (hb : Hid (RdL U8R 1 S0 w A m bs)) (hcl : rs.wait.length < 1000000) :
    Calls Try.prog 59 #[.pointer (some ⟨x, 0, none⟩), .int .i64 z, .slice A m c] w fun e w' => (∃ E, e = .returned (.int .i64 E)) ∧ RUpd G w w' x n (if wrOk rs n z m then { rs with wait := rs.wait ++ [⟨z, bs, 0, 0⟩] } else rs) := by
  by_cases hok : wrOk rs n z m
  · obtain ⟨hd, hz, rfl⟩ := id hok
    obtain ⟨k, rfl⟩ : ∃ k : Nat, z = k := ⟨z.toNat, by omega⟩
    refine (rwrite_good h hd k (by omega) hb hcl).mono ?_
    rintro e w' ⟨rfl, hu⟩
    rw [if_pos hok]
    exact ⟨⟨_, rfl⟩, hu⟩
  · refine (rwrite_bad h z A m c hok).mono ?_
    rintro e w' ⟨⟨E, rfl⟩, hu⟩
    rw [if_neg hok]
    exact ⟨⟨_, rfl⟩, h.out.rupd hu⟩
theorem rflush_all {G : Nat → Prop} {w : World} {x n : Nat} {rs : RSt} (h : Hid (RefAt G w x n rs)) (hcl : rs.L.length + rs.wait.length < 1000000) :
    Calls Try.prog 60 #[.pointer (some ⟨x, 0, none⟩)] w fun e w' => (∃ E, e = .returned (.int .i64 E)) ∧ RUpd G w w' x n (if rs.gone = false then { rs with L := rs.L ++ rs.wait, wait := [] } else rs) := by
  by_cases hd : rs.gone = false
  · refine (rflush_good h hd hcl).mono ?_
    rintro e w' ⟨rfl, hu⟩
    rw [if_pos hd]
    exact ⟨⟨_, rfl⟩, hu⟩
  · refine (rflush_gone h (by simpa using hd)).mono ?_
    rintro e w' ⟨rfl, hu⟩
    rw [if_neg hd]
    exact ⟨⟨_, rfl⟩, h.out.rupd hu⟩
instance (rs : RSt) (n : Nat) (z off mask : Int) : Decidable (rrotOk rs n z off mask) := by unfold rrotOk; infer_instance
theorem rrot_all {G : Nat → Prop} {w : World} {x n : Nat} {rs : RSt} (h : Hid (RefAt G w x n rs)) (z off mask : Int) (hcl : rs.L.length < 1000000) :
    Calls Try.prog 64 #[.pointer (some ⟨x, 0, none⟩), .int .i64 z, .int .i64 off, .int .u32 mask] w fun e w' => (∃ E, e = .returned (.int .i64 E)) ∧ RUpd G w w' x n (if rrotOk rs n z off mask then { rs with L := rs.L ++ [⟨z, [], off, mask⟩] } else rs) := by
  by_cases hz : rrotOk rs n z off mask
  · refine (rrot_good h z off mask hcl hz).mono ?_
    rintro e w' ⟨rfl, hu⟩
    rw [if_pos hz]
    exact ⟨⟨_, rfl⟩, hu⟩
  · refine (rrot_bad h z off mask hcl hz).mono ?_
    rintro e w' ⟨⟨E, rfl⟩, hu⟩
    rw [if_neg hz]
    exact ⟨⟨_, rfl⟩, h.out.rupd hu⟩

/-- A drive and the document's, apart. -/
structure Two (F G : Nat → Prop) (w : World) (p x n : Nat) (st : DSt) (rs : RSt) : Prop where
  d : DrvAt F w p n st
  r : RefAt G w x n rs
  fg : ∀ k, F k → ¬ G k
/-- Both went on since w. -/
def Both (F G : Nat → Prop) (w w' : World) (p x n : Nat) (st : DSt) (rs : RSt) : Prop := ∃ F' G', Two F' G' w' p x n st rs ∧ (∀ k, F' k → k < w.heap.size → F k) ∧ (∀ k, G' k → k < w.heap.size → G k) ∧ Keep (fun k => F k ∨ G k) w w'
theorem Two.both {F G : Nat → Prop} {w : World} {p x n : Nat} {st : DSt} {rs : RSt} (h : Two F G w p x n st rs) : Both F G w w p x n st rs := ⟨F, G, h, fun _ h _ => h, fun _ h _ => h, Keep.refl _ _⟩
theorem drvAt_lt {F : Nat → Prop} {w : World} {p n : Nat} {st : DSt} (h : DrvAt F w p n st) {k : Nat} (hk : F k) : k < w.heap.size := by
  obtain ⟨_, _, _, _, _, _, _, _, _, _, _, _, _, lt⟩ := h; exact lt k hk
theorem Two.below {F G : Nat → Prop} {w w' : World} {p x n : Nat} {st : DSt} {rs : RSt} (h : Two F G w p x n st rs) (hb : Below w.heap.size w w') : Two F G w' p x n st rs := ⟨h.d.below hb, h.r.below hb, h.fg⟩
theorem Two.drv {F G : Nat → Prop} {w w' : World} {p x n : Nat} {st st' : DSt} {rs : RSt} (h : Two F G w p x n st rs) (hu : Upd F w w' p n st') : ∃ F', Two F' G w' p x n st' rs ∧ (∀ k, F' k → k < w.heap.size → F k) ∧ Keep F w w' := by
  obtain ⟨F', hD, hF, hK⟩ := hu
  refine ⟨F', ⟨hD, h.r.keep hK (fun k hg hf => h.fg k hf hg), fun k hf hg => ?_⟩, hF, hK⟩
  exact h.fg k (hF k hf (h.r.lt hg)) hg
theorem Two.ref {F G : Nat → Prop} {w w' : World} {p x n : Nat} {st : DSt} {rs rs' : RSt} (h : Two F G w p x n st rs) (hu : RUpd G w w' x n rs') : ∃ G', Two F G' w' p x n st rs' ∧ (∀ k, G' k → k < w.heap.size → G k) ∧ Keep G w w' := by
  obtain ⟨G', hD, hG, hK⟩ := hu
  refine ⟨G', ⟨h.d.keep hK (fun k hf hg => h.fg k hf hg), hD, fun k hf hg => ?_⟩, hG, hK⟩
  exact h.fg k hf (hG k hg (drvAt_lt h.d hf))
end Go.Proofs.Ytnceaimhhfjmdaa
