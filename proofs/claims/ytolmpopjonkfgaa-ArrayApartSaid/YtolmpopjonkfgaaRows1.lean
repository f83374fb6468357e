/-
  ArrayRows: two rows that are built, and what the drives are.
-/
import Derived.Test.YtolmpopjonkfgaaArr10
set_option linter.unusedSimpArgs false
set_option linter.unusedVariables false
namespace Go.Proofs.Ytolmpopjonkfgaa
open Go.RowKit Go.Cib
attribute [local go_sem] cell_set Later.cell Later.frozen Grw.cell Grw.frozen

/-- Each drive is as new, or dead. -/
def NewOrGone (s : Nat) (sts : List DSt) : Prop := ∀ st ∈ sts, st = DSt.new s ∨ st = DSt.gone s
theorem NewOrGone.rep (n s : Nat) : NewOrGone s (List.replicate n (DSt.new s)) := fun st h => .inl (List.eq_of_mem_replicate h)
theorem NewOrGone.fail {s : Nat} {sts : List DSt} (h : NewOrGone s sts) (d : Int) : NewOrGone s (failA s sts d) := by
  unfold failA
  split
  · intro st hst
    rcases List.mem_or_eq_of_mem_set hst with h1 | h1
    · exact h st h1
    · exact .inr h1
  · exact h
theorem failA_len (s : Nat) (sts : List DSt) (d : Int) : (failA s sts d).length = sts.length := by unfold failA; split <;> simp
theorem NewOrGone.cache {s : Nat} {sts : List DSt} (h : NewOrGone s sts) : ∀ st ∈ sts, st.cache.length < 1000000 := by
  intro st hst
  rcases h st hst with rfl | rfl <;> simp [DSt.new, DSt.gone]

section
variable {s z : Nat} {x : List Int}
theorem putG_new (hz : z < s) (rows : List (List Int)) (d : Nat) (hx : (rAt rows d).length = 64) : putG s z rows d (DSt.new s) = (DSt.new s).write z (rAt rows d) := by
  have h1 : readyE (DSt.new s).dead s z = 0 := (ready_iff (DSt.new s) s z).2 ⟨rfl, by omega, by omega⟩
  unfold putG wrDA
  rw [if_pos (by omega), if_pos ⟨h1, hx⟩]
theorem putG_gone (rows : List (List Int)) (d : Nat) : putG s z rows d (DSt.gone s) = DSt.gone s := by
  have h1 : ¬ readyE (DSt.gone s).dead s z = 0 := fun h => by have := (ready_iff (DSt.gone s) s z).1 h; exact absurd this.1 (by simp [DSt.gone])
  unfold putG wrDA
  split
  · rw [if_neg (fun h => h1 h.1)]
  · rfl
theorem putOk_new (hz : z < s) (rows : List (List Int)) (d : Nat) (hx : (rAt rows d).length = 64) : putOk s z rows d (DSt.new s) = true := by
  have h1 : readyE (DSt.new s).dead s z = 0 := (ready_iff (DSt.new s) s z).2 ⟨rfl, by omega, by omega⟩
  unfold putOk writeE
  simp [hx, h1]
theorem putOk_gone (rows : List (List Int)) (d : Nat) : putOk s z rows d (DSt.gone s) = false := by
  have h1 : readyE (DSt.gone s).dead s z ≠ 0 := fun h => by have := (ready_iff (DSt.gone s) s z).1 h; exact absurd this.1 (by simp [DSt.gone])
  unfold putOk writeE
  simp [h1]
theorem seen_one (hz : z < s) (x : List Int) (keep : Nat → Bool) (h0 : keep 0 = true) : (((DSt.new s).write z x).settle keep).seen z = x := by
  rw [crash_one (DSt.new s) rfl z x keep (n := s) (by simp [DSt.new]) hz, if_pos ⟨h0, rfl⟩]
theorem settle_seen (st : DSt) (h : st.cache = []) (keep : Nat → Bool) (k : Nat) : (st.settle keep).seen k = st.seen k := by
  rw [DSt.seen_settle, h, DSt.seen_nil h]; rfl
theorem settle_gone (keep : Nat → Bool) : (DSt.gone s).settle keep = DSt.gone s := rfl
def fin4 (s z : Nat) (rows : List (List Int)) (d : Nat) (st : DSt) : DSt := crashG [] d (flushG (putG s z rows d st))
def finB (s z : Nat) (rows : List (List Int)) (lk : List (List Bool)) (d : Nat) (st : DSt) : DSt := crashG lk d (putG s z rows d st)
theorem fin4_new (hz : z < s) (rows : List (List Int)) (d : Nat) (hx : (rAt rows d).length = 64) : readL (fin4 s z rows d (DSt.new s)) s z = rAt rows d ∧ (fin4 s z rows d (DSt.new s)).dead = false := by
  have hd : (fin4 s z rows d (DSt.new s)).dead = false := by
    unfold fin4
    rw [putG_new hz rows d hx]; rfl
  have h1 : readyE (fin4 s z rows d (DSt.new s)).dead s z = 0 := (ready_iff _ s z).2 ⟨hd, by omega, by omega⟩
  refine ⟨?_, hd⟩
  unfold readL
  rw [if_pos h1, Int.toNat_natCast]
  unfold fin4
  rw [putG_new hz rows d hx]
  show ((((DSt.new s).write z (rAt rows d)).settle (fun _ => true)).settle _).seen z = _
  rw [settle_seen _ rfl]
  exact seen_one hz _ _ rfl
theorem fin4_gone (rows : List (List Int)) (d : Nat) : readL (fin4 s z rows d (DSt.gone s)) s z = [] ∧ (fin4 s z rows d (DSt.gone s)).dead = true := by
  have e : fin4 s z rows d (DSt.gone s) = DSt.gone s := by
    unfold fin4
    rw [putG_gone]; rfl
  rw [e]
  refine ⟨?_, rfl⟩
  unfold readL
  rw [if_neg (fun h => by have := (ready_iff (DSt.gone s) s z).1 h; exact absurd this.1 (by simp [DSt.gone]))]
theorem finB_new (hz : z < s) (rows : List (List Int)) (lk : List (List Bool)) (d : Nat) (hx : (rAt rows d).length = 64) (hk : kAt lk d = [true]) : readL (finB s z rows lk d (DSt.new s)) s z = rAt rows d := by
  have hd : (finB s z rows lk d (DSt.new s)).dead = false := by
    unfold finB
    rw [putG_new hz rows d hx]; rfl
  have h1 : readyE (finB s z rows lk d (DSt.new s)).dead s z = 0 := (ready_iff _ s z).2 ⟨hd, by omega, by omega⟩
  unfold readL
  rw [if_pos h1, Int.toNat_natCast]
  unfold finB
  rw [putG_new hz rows d hx]
  exact seen_one hz _ _ (by rw [hk]; rfl)
theorem finB_gone (rows : List (List Int)) (lk : List (List Bool)) (d : Nat) : readL (finB s z rows lk d (DSt.gone s)) s z = [] := by
  have e : finB s z rows lk d (DSt.gone s) = DSt.gone s := by
    unfold finB
    rw [putG_gone]; rfl
  rw [e]
  unfold readL
  rw [if_neg (fun h => by have := (ready_iff (DSt.gone s) s z).1 h; exact absurd this.1 (by simp [DSt.gone]))]
end

/-- Two arrays apart, made since w0; what lies in [B, Q) is neither's. -/
structure Duo (w0 : World) (B Q : Nat) (U V : Nat → Prop) (wr : World) (a b s : Nat) (sa sb : List DSt) : Prop where
  da : ArrAt U wr a s sa
  db : ArrAt V wr b s sb
  dis : ∀ k, U k → ¬ V k
  u1 : ∀ k, U k → w0.heap.size ≤ k
  u2 : ∀ k, U k → k < Q → k < B
  v1 : ∀ k, V k → Q ≤ k
  below : Below w0.heap.size w0 wr
  hQ : Q ≤ wr.heap.size
  h0 : w0.heap.size ≤ Q
theorem Duo.later {w0 : World} {B Q : Nat} {U V : Nat → Prop} {wr w2 : World} {a b s : Nat} {sa sb : List DSt} (h : Duo w0 B Q U V wr a b s sa sb) (hb : Below wr.heap.size wr w2) : Duo w0 B Q U V w2 a b s sa sb :=
  ⟨h.da.below hb, h.db.below hb, h.dis, h.u1, h.u2, h.v1, h.below.trans (hb.mono h.below.size), Nat.le_trans h.hQ hb.size, h.h0⟩
theorem Duo.updA {w0 : World} {B Q : Nat} {U V : Nat → Prop} {wr w2 : World} {a b s : Nat} {sa sb sa' : List DSt} (h : Duo w0 B Q U V wr a b s sa sb) (hu : AUpd U wr w2 a s sa') : ∃ U', Duo w0 B Q U' V w2 a b s sa' sb ∧ Keep U wr w2 := by
  obtain ⟨U', hA, hU, hK⟩ := hu
  have hs := h.below.size
  have hQ := h.hQ
  refine ⟨U', ⟨hA, h.db.keep hK (fun k hv hu => h.dis k hu hv), fun k hu hv => h.dis k (hU k hu (h.db.lt hv)) hv, fun k hu => ?_, fun k hu hlt => h.u2 k (hU k hu (by omega)) hlt, h.v1, h.below.trans (hK.below hs h.u1), Nat.le_trans h.hQ hK.size, h.h0⟩, hK⟩
  by_cases hlt : k < wr.heap.size
  · exact h.u1 k (hU k hu hlt)
  · omega
theorem Duo.updB {w0 : World} {B Q : Nat} {U V : Nat → Prop} {wr w2 : World} {a b s : Nat} {sa sb sb' : List DSt} (h : Duo w0 B Q U V wr a b s sa sb) (hu : AUpd V wr w2 b s sb') : ∃ V', Duo w0 B Q U V' w2 a b s sa sb' ∧ Keep V wr w2 := by
  obtain ⟨V', hA, hV, hK⟩ := hu
  have hs := h.below.size
  have hQ := h.hQ
  have h0 := h.h0
  refine ⟨V', ⟨h.da.keep hK (fun k hu hv => h.dis k hu hv), hA, fun k hu hv => h.dis k hu (hV k hv (h.da.lt hu)), h.u1, h.u2, fun k hv => ?_, h.below.trans (hK.below hs (fun k hv => Nat.le_trans h0 (h.v1 k hv))), Nat.le_trans h.hQ hK.size, h.h0⟩, hK⟩
  by_cases hlt : k < wr.heap.size
  · exact h.v1 k (hV k hv hlt)
  · omega

/-- Two rows that grow side by side. -/
structure Pair (B : Nat) (w : World) (vA vK : Value) (i j : Nat) (la : List (List Int)) (lk : List (List Bool)) (SA SK : Nat → Prop) : Prop where
  oA : OwnL BytesR 27 1 B SA w vA i la
  oK : OwnL BoolsR 23 1 B SK w vK j lk
  sa : ∀ b, SA b → B ≤ b ∧ b < w.heap.size ∧ some b ≠ vA.ownBlock ∧ some b ≠ vK.ownBlock
  sk : ∀ b, SK b → B ≤ b ∧ b < w.heap.size ∧ some b ≠ vA.ownBlock ∧ some b ≠ vK.ownBlock
  ne : vA.ownBlock = none ∨ vA.ownBlock ≠ vK.ownBlock
theorem Pair.nil_ (B : Nat) (w : World) : Pair B w (.slice none 0 0) (.slice none 0 0) 0 0 [] [] (fun _ => False) (fun _ => False) :=
  ⟨OwnL.nil_, OwnL.nil_, fun _ h => h.elim, fun _ h => h.elim, .inl rfl⟩
theorem Pair.later {B : Nat} {w w2 : World} {vA vK : Value} {i j : Nat} {la : List (List Int)} {lk : List (List Bool)} {SA SK : Nat → Prop} (h : Pair B w vA vK i j la lk SA SK) (hb : Below w.heap.size w w2) : Pair B w2 vA vK i j la lk SA SK :=
  ⟨h.oA.keep BytesR.stable hb, h.oK.keep BoolsR.stable hb, fun b hs => ⟨(h.sa b hs).1, Nat.lt_of_lt_of_le (h.sa b hs).2.1 hb.size, (h.sa b hs).2.2⟩, fun b hs => ⟨(h.sk b hs).1, Nat.lt_of_lt_of_le (h.sk b hs).2.1 hb.size, (h.sk b hs).2.2⟩, h.ne⟩
theorem Pair.pushA {B : Nat} {w u : World} {vA vK vN : Value} {i j b : Nat} {la : List (List Int)} {lk : List (List Bool)} {SA SK : Nat → Prop} {x : List Int} (h : Pair B w vA vK i j la lk SA SK) (h1 : B ≤ b) (h2 : b < w.heap.size) (h3 : some b ≠ vA.ownBlock) (h4 : some b ≠ vK.ownBlock)
    (hu : w.grownBy u vA.ownBlock) (hs : w.heap.size < u.heap.size) (own : OwnL BytesR 27 1 B (fun k => SA k ∨ k = b) u vN (i + 1) (la ++ [x])) (hat : vN.ownBlock = vA.ownBlock ∨ vN.ownBlock = some (w.heap.size + 1)) :
    Pair B u vN vK (i + 1) j (la ++ [x]) lk (fun k => SA k ∨ k = b) SK := by
  have hN : ∀ k, k < w.heap.size → some k ≠ vA.ownBlock → some k ≠ vN.ownBlock := fun k hk hn e => by
    rcases hat with h5 | h5
    · exact hn (e.trans h5)
    · rw [h5] at e; injection e with e; omega
  have hkl : ∀ k, vK.ownBlock = some k → k < w.heap.size := fun k hk => (h.oK.lt k hk).2
  refine ⟨own, h.oK.other BoolsR.stable hu ?_ (fun b hs => (h.sk b hs).2.2.1) (fun _ hs _ => hs), ?_, ?_, ?_⟩
  · cases hv : vK.ownBlock with
    | none => exact .inl rfl
    | some k =>
      right
      intro e
      rcases h.ne with h5 | h5
      · rw [h5] at e; cases e
      · exact h5 (e.symm.trans hv.symm)
  · rintro k (hk | rfl)
    · obtain ⟨q1, q2, q3, q4⟩ := h.sa k hk
      exact ⟨q1, by omega, hN k q2 q3, q4⟩
    · exact ⟨h1, by omega, hN _ h2 h3, h4⟩
  · intro k hk
    obtain ⟨q1, q2, q3, q4⟩ := h.sk k hk
    exact ⟨q1, by omega, hN k q2 q3, q4⟩
  · rcases hat with h5 | h5
    · rw [h5]; exact h.ne
    · right
      intro e
      rw [h5] at e
      have := hkl _ e.symm
      omega
theorem Pair.pushK {B : Nat} {w u : World} {vA vK vN : Value} {i j b : Nat} {la : List (List Int)} {lk : List (List Bool)} {SA SK : Nat → Prop} {x : List Bool} (h : Pair B w vA vK i j la lk SA SK) (h1 : B ≤ b) (h2 : b < w.heap.size) (h3 : some b ≠ vA.ownBlock) (h4 : some b ≠ vK.ownBlock)
    (hu : w.grownBy u vK.ownBlock) (hs : w.heap.size < u.heap.size) (own : OwnL BoolsR 23 1 B (fun k => SK k ∨ k = b) u vN (j + 1) (lk ++ [x])) (hat : vN.ownBlock = vK.ownBlock ∨ vN.ownBlock = some (w.heap.size + 1)) :
    Pair B u vA vN i (j + 1) la (lk ++ [x]) SA (fun k => SK k ∨ k = b) := by
  have hN : ∀ k, k < w.heap.size → some k ≠ vK.ownBlock → some k ≠ vN.ownBlock := fun k hk hn e => by
    rcases hat with h5 | h5
    · exact hn (e.trans h5)
    · rw [h5] at e; injection e with e; omega
  have hkl : ∀ k, vA.ownBlock = some k → k < w.heap.size := fun k hk => (h.oA.lt k hk).2
  refine ⟨h.oA.other BytesR.stable hu ?_ (fun b hs => (h.sa b hs).2.2.2) (fun _ hs _ => hs), own, ?_, ?_, ?_⟩
  · exact h.ne
  · intro k hk
    obtain ⟨q1, q2, q3, q4⟩ := h.sa k hk
    exact ⟨q1, by omega, q3, hN k q2 q4⟩
  · rintro k (hk | rfl)
    · obtain ⟨q1, q2, q3, q4⟩ := h.sk k hk
      exact ⟨q1, by omega, q3, hN k q2 q4⟩
    · exact ⟨h1, by omega, h3, hN _ h2 h4⟩
  · rcases hat with h5 | h5
    · rw [h5]; exact h.ne
    · cases hv : vA.ownBlock with
      | none => exact .inl rfl
      | some k =>
        right
        intro e
        have := hkl k hv
        rw [h5] at e
        injection e with e
        omega
/-- A fresh block is none of a pair's. -/
theorem Pair.fresh {B : Nat} {w : World} {vA vK : Value} {i j : Nat} {la : List (List Int)} {lk : List (List Bool)} {SA SK : Nat → Prop} (h : Pair B w vA vK i j la lk SA SK) {b : Nat} (hb : w.heap.size ≤ b) : some b ≠ vA.ownBlock ∧ some b ≠ vK.ownBlock :=
  ⟨fun e => by have := (h.oA.lt b e.symm).2; omega, fun e => by have := (h.oK.lt b e.symm).2; omega⟩
/-- As readings: what lies between B and Q. -/
theorem Pair.rdA {B : Nat} {w : World} {vA vK : Value} {i j : Nat} {la : List (List Int)} {lk : List (List Bool)} {SA SK : Nat → Prop} (h : Pair B w vA vK i j la lk SA SK) : ∃ A c, vA = .slice A i c ∧ RdL BytesR 1 (fun b => B ≤ b ∧ b < w.heap.size) w A i la := by
  obtain ⟨A, c, e, _, hr⟩ := h.oA.rd (S' := (B ≤ ·)) (fun k hk => hk) (fun cs x ⟨A, m, c, e, hr⟩ => ⟨A, m, c, e, hr.weaken U8R.stable (fun b hb => (h.sa b hb.1).1)⟩)
  exact ⟨A, c, e, hr.stable BytesR.stable (fun b hb hlt => ⟨⟨hb, hlt⟩, rfl⟩)⟩
theorem Pair.rdK {B : Nat} {w : World} {vA vK : Value} {i j : Nat} {la : List (List Int)} {lk : List (List Bool)} {SA SK : Nat → Prop} (h : Pair B w vA vK i j la lk SA SK) : ∃ A c, vK = .slice A j c ∧ RdL BoolsR 1 (fun b => B ≤ b ∧ b < w.heap.size) w A j lk := by
  obtain ⟨A, c, e, _, hr⟩ := h.oK.rd (S' := (B ≤ ·)) (fun k hk => hk) (fun cs x ⟨A, m, c, e, hr⟩ => ⟨A, m, c, e, hr.weaken BoolR.stable (fun b hb => (h.sk b hb.1).1)⟩)
  exact ⟨A, c, e, hr.stable BoolsR.stable (fun b hb hlt => ⟨⟨hb, hlt⟩, rfl⟩)⟩
theorem ownL_wide2 {X : Type} {R : (Nat → Prop) → World → List Value → X → Prop} {E : TypeId} {s base : Nat} {S T : Nat → Prop} {w : World} {v : Value} {n : Nat} {xs : List X} (hR : Stable R) (h : OwnL R E s base S w v n xs) (hS : ∀ b, S b → T b) : OwnL R E s base T w v n xs := by
  obtain ⟨css, h1, h2, h3, h4, h5⟩ := h
  exact ⟨css, h1, h2, h3, h4, fun i cs x hc hx => hR _ _ _ _ _ _ (h5 i cs x hc hx) fun b hb _ => ⟨⟨hS b hb.1, hb.2⟩, rfl⟩⟩
theorem slRows : SlTy Try.prog 63 27 (.slice none 0 0) 1 24 := ⟨Try.underlying63, by kernel_rfl, rfl, by omega⟩
theorem slKeeps : SlTy Try.prog 64 23 (.slice none 0 0) 1 24 := ⟨Try.underlying64, by kernel_rfl, rfl, by omega⟩
end Go.Proofs.Ytolmpopjonkfgaa
