/-
  SuperTorn, walked.
  Geometry.Made, the coder's blocks known; a law's own boxes beside the drives.
  SuperAgain: what lies in memory between two tries.
  SuperAgain, walked.
  A geometry among the arguments; bounds of whole numbers.
  A base and a blob among the arguments.
  A head among the arguments.
  Rows of heads' scrolls and of rows of bools among the arguments.
-/
import Derived.Test.YtcliejdiaohamaaGreatUa15
import Derived.Test.YtcliejdiaohamaaGreatUa12
import Derived.Test.YtcliejdiaohamaaGreatUa3
import Derived.Test.YtcliejdiaohamaaGreatUa2
import Derived.Test.YtcliejdiaohamaaGreatUa4
import Derived.Test.YtcliejdiaohamaaGreatUa7
import Derived.Test.YtcliejdiaohamaaGreatUa14
set_option linter.unusedSimpArgs false
set_option linter.unusedVariables false
namespace Go.Proofs.YtcliejdiaohamaaGreat
open Go.RowKit Go.Cib
attribute [local go_sem] cell_set Later.cell Later.frozen Grw.cell Grw.frozen
section
theorem fit_nat {p ct sz : Int} {g : Nat} (hg : Hid (g < 2 ^ 64)) (h : fitB p ct sz = true) : ∃ hd : Hdr, hd.ok ∧ p = (hd.p : Int) ∧ g = hd.g ∧ ct = (hd.ct : Int) ∧ sz = (hd.sz : Int) := by
  have h := of_decide_eq_true h
  exact ⟨⟨p.toNat, g, ct.toNat, sz.toNat⟩, ⟨by show p.toNat < 65536; omega, hg, by show ct.toNat < 65536; omega, Lib.hid (by show sz.toNat < 4294967296; omega)⟩, by show p = ((p.toNat : Nat) : Int); omega, rfl, by show ct = ((ct.toNat : Nat) : Int); omega, by show sz = ((sz.toNat : Nat) : Int); omega⟩
end
section
set_option maxRecDepth 100000 in
set_option maxHeartbeats 8000000 in
theorem made_lawC {w : World} {k m n : Nat} (k1 : 1 ≤ k) (m1 : 1 ≤ m) (km : k + m ≤ 255) (n1 : 1 ≤ n) (n2 : n ≤ 600) :
    Calls Tryz.prog 14 #[.agg (geoC k m n)] w fun e w' => ∃ a cb bf C, e = .returned (.tuple #[.pointer (some ⟨a, 0, none⟩), .pointer (some ⟨cb, 0, none⟩)]) ∧ SMidX (fun j => j < w.heap.size ∨ C j) w w' a cb bf k m n (newS n (k + m)) ∧ CodF C w' cb bf k m ∧ (∀ j, C j → w.heap.size ≤ j) ∧ Below w.heap.size w w' := by
  have hb0 : Below w.heap.size w (w.alloc (.cells (geoC k m n) 31)) := (Below.refl _ _).alloc (Nat.le_refl _) _
  have bG := BoxAt.new w (geoC k m n) 31
  obtain ⟨N, hN⟩ : ∃ N, k + m = N := ⟨_, rfl⟩
  have hnw := fun w => anew_any N n (by omega) (by omega) n1 n2 w
  have hfn := fun w => fldnew_any (w := w)
  have hcn := fun w b base F hb => new_anyS (w := w) (b := b) (base := base) (k := k) (m := m) F hb k1 m1 km
  have q0 : (k : Int) + (m : Int) = (N : Int) := by omega
  have q1 : IntKind.i64.wrap (N : Int) = (N : Int) := by rw [IntKind.wrap_i64]; omega
  have HN := Lib.hid hN
  unfold geoC at hb0 bG ⊢
  go_enter Tryz.func14, Tryz.ntmps14
  go_wp2_with fail
  obtain ⟨wA, hwA⟩ : ∃ wA, w.alloc (.cells #[.int .i64 (k : Int), .int .i64 (m : Int), .int .i64 (n : Int)] 31) = wA := ⟨_, rfl⟩
  rw [hwA] at hb0 bG ⊢
  obtain ⟨q, hq⟩ : ∃ q, w.heap.size = q := ⟨_, rfl⟩
  have HQ := Lib.hid hq
  rw [hq] at bG ⊢
  clear hwA hN hq
  have bGd : BoxAt wA.drew q #[.int .i64 (k : Int), .int .i64 (m : Int), .int .i64 (n : Int)] := bG.keep rfl
  have hd : Below w.heap.size w wA.drew := hb0.drew
  have s0 : wA.drew.cell? ⟨q, 0, none⟩ = some (.int .i64 (k : Int)) ∧ wA.drew.cell? ⟨q, 1, none⟩ = some (.int .i64 (m : Int)) ∧ wA.drew.cell? ⟨q, 2, none⟩ = some (.int .i64 (n : Int)) := ⟨bGd.cell 0, bGd.cell 1, bGd.cell 2⟩
  refine wp_region_held_drew (S := fun w' => w'.cell? ⟨q, 0, none⟩ = some (.int .i64 (k : Int)) ∧ w'.cell? ⟨q, 1, none⟩ = some (.int .i64 (m : Int)) ∧ w'.cell? ⟨q, 2, none⟩ = some (.int .i64 (n : Int))) (by kernel_rfl) (by first | exact s0 | exact s5 | exact s6 | exact s7) (fun hHeld => ?_)
  refine wpAnyH_take (i := 0) (v := ?_) rfl (by kernel_rfl) (by kernel_rfl) (by kernel_rfl) (fun _ _ _ h => h) (Or.inl ⟨by first | kernel_rfl | rfl, ?_⟩) (by assumption) ?_
  rotate_left
  · (intro wq hSw; (try dsimp only at hSw); (try simp (maxSteps := 2000000) only [zz1, zz2, zz3]); go_simp); try with_reducible rfl
  try simp (maxSteps := 2000000) only [zz1, zz2, zz3, Act.put, zz4, zz5, zz6]
  refine wpAnyH_take (i := 1) (v := ?_) rfl (by kernel_rfl) (by kernel_rfl) (by kernel_rfl) (fun _ _ _ h => h) (Or.inl ⟨by first | kernel_rfl | rfl, ?_⟩) (by assumption) ?_
  rotate_left
  · (intro wq hSw; (try dsimp only at hSw); (try simp (maxSteps := 2000000) only [zz1, zz2, zz3]); go_simp); try with_reducible rfl
  try simp (maxSteps := 2000000) only [zz1, zz2, zz3, Act.put, zz4, zz5, zz6]
  refine wpAnyH_take (i := 2) (v := ?_) rfl (by kernel_rfl) (by kernel_rfl) (by kernel_rfl) (fun _ _ _ h => h) (Or.inl ⟨by first | kernel_rfl | rfl, ?_⟩) (by assumption) ?_
  rotate_left
  · (intro wq hSw; (try dsimp only at hSw); (try simp (maxSteps := 2000000) only [zz1, zz2, zz3]); go_simp); try with_reducible rfl
  try simp (maxSteps := 2000000) only [zz1, zz2, zz3, Act.put, zz4, zz5, zz6]
  refine wpAnyH_take (i := 3) (v := ?_) rfl (by kernel_rfl) (by kernel_rfl) (by kernel_rfl) (fun _ _ _ h => h) (Or.inl ⟨by first | kernel_rfl | rfl, ?_⟩) (by assumption) ?_
  rotate_left
  · (intro wq hSw; (try dsimp only at hSw); (try simp (maxSteps := 2000000) only [zz1, zz2, zz3]); go_simp); try with_reducible rfl
  try simp (maxSteps := 2000000) only [zz1, zz2, zz3, Act.put, zz4, zz5, zz6]
  refine wpAnyH_take (i := 4) (v := ?_) rfl (by kernel_rfl) (by kernel_rfl) (by kernel_rfl) (fun _ _ _ h => h) (Or.inl ⟨by first | kernel_rfl | rfl, ?_⟩) (by assumption) ?_
  rotate_left
  · (intro wq hSw; (try dsimp only at hSw); (try simp (maxSteps := 2000000) only [zz1, zz2, zz3]); go_simp); try with_reducible rfl
  try simp (maxSteps := 2000000) only [zz1, zz2, zz3, Act.put, zz4, zz5, zz6]
  refine wpAnyH_take (i := 5) (v := ?_) rfl (by kernel_rfl) (by kernel_rfl) (by kernel_rfl) (fun _ _ _ h => h) (Or.inl ⟨by first | kernel_rfl | rfl, ?_⟩) (by assumption) ?_
  rotate_left
  · (intro wq hSw; (try dsimp only at hSw); (try simp (maxSteps := 2000000) only [zz1, zz2, zz3]); go_simp); try with_reducible rfl
  try simp (maxSteps := 2000000) only [zz1, zz2, zz3, Act.put, zz4, zz5, zz6]
  refine wpAnyH_take (i := 6) (v := ?_) rfl (by kernel_rfl) (by kernel_rfl) (by kernel_rfl) (fun _ _ _ h => h) (Or.inl ⟨by first | kernel_rfl | rfl, ?_⟩) (by assumption) ?_
  rotate_left
  · (intro wq hSw; (try dsimp only at hSw); (try simp (maxSteps := 2000000) only [zz1, zz2, zz3]); go_simp); try with_reducible rfl
  try simp (maxSteps := 2000000) only [zz1, zz2, zz3, Act.put, zz4, zz5, zz6]
  refine wpAnyH_take (i := 9) (v := ?_) rfl (by kernel_rfl) (by kernel_rfl) (by kernel_rfl) (fun _ _ _ h => h) (Or.inl ⟨by first | kernel_rfl | rfl, ?_⟩) (by assumption) ?_
  rotate_left
  · (intro wq hSw; (try dsimp only at hSw); (try simp (maxSteps := 2000000) only [zz1, zz2, zz3]); go_simp); try with_reducible rfl
  try simp (maxSteps := 2000000) only [zz1, zz2, zz3, Act.put, zz4, zz5, zz6]
  refine wpAnyH_take (i := 10) (v := ?_) rfl (by kernel_rfl) (by kernel_rfl) (by kernel_rfl) (fun _ _ _ h => h) (Or.inl ⟨by first | kernel_rfl | rfl, ?_⟩) (by assumption) ?_
  rotate_left
  · (intro wq hSw; (try dsimp only at hSw); (try simp (maxSteps := 2000000) only [zz1, zz2, zz3]); go_simp); try with_reducible rfl
  try simp (maxSteps := 2000000) only [zz1, zz2, zz3, Act.put, zz4, zz5, zz6]
  refine wpAnyH_take (i := 11) (v := ?_) rfl (by kernel_rfl) (by kernel_rfl) (by kernel_rfl) (fun _ _ _ h => h) (Or.inl ⟨by first | kernel_rfl | rfl, ?_⟩) (by assumption) ?_
  rotate_left
  · (intro wq hSw; (try dsimp only at hSw); (try simp (maxSteps := 2000000) only [zz1, zz2, zz3]); go_simp); try with_reducible rfl
  try simp (maxSteps := 2000000) only [zz1, zz2, zz3, Act.put, zz4, zz5, zz6]
  refine wpAnyH_take (i := 12) (v := ?_) rfl (by kernel_rfl) (by kernel_rfl) (by kernel_rfl) (fun _ _ _ h => h) (Or.inl ⟨by first | kernel_rfl | rfl, ?_⟩) (by assumption) ?_
  rotate_left
  · (intro wq hSw; (try dsimp only at hSw); (try simp (maxSteps := 2000000) only [zz1, zz2, zz3]); go_simp); try with_reducible rfl
  try simp (maxSteps := 2000000) only [zz1, zz2, zz3, Act.put, zz4, zz5, zz6]
  refine wpAnyH_ready (rs := [7]) (by kernel_rfl) (by simp) ?_
  refine AllReadyH.cons rfl (fun K hK => ?_) AllReadyH.nil
  try simp (maxSteps := 2000000) only [zz1, zz2, zz3]
  go_simp
  go_at_call 68
  refine (hnw _).mono ?_
  clear hnw
  rintro e w5 ⟨a, U, rfl, hA, hU, hb5⟩
  have bG5 := bGd.below hb5
  have s5 : w5.cell? ⟨q, 0, none⟩ = some (.int .i64 (k : Int)) ∧ w5.cell? ⟨q, 1, none⟩ = some (.int .i64 (m : Int)) ∧ w5.cell? ⟨q, 2, none⟩ = some (.int .i64 (n : Int)) := ⟨bG5.cell 0, bG5.cell 1, bG5.cell 2⟩
  have hw5 : Below w.heap.size w w5 := hd.trans (hb5.mono hd.size)
  have HA5 := Lib.hid hA
  have HU5 := Lib.hid hU
  clear hA hU
  try (go_wp2_with fail)
  refine hK.out _ _ (by first | exact s0 | exact s5 | exact s6 | exact s7) (fun hHeld => ?_)
  clear hK K
  try simp (maxSteps := 2000000) only [zz1, zz2, zz3, Act.put, zz4, zz5, zz6]
  refine wpAnyH_ready (rs := [8]) (by kernel_rfl) (by simp) ?_
  refine AllReadyH.cons rfl (fun K hK => ?_) AllReadyH.nil
  try simp (maxSteps := 2000000) only [zz1, zz2, zz3]
  go_simp
  go_at_call 30
  refine (hfn _).mono ?_
  clear hfn
  rintro e w6 ⟨rfl, hF, hb6⟩
  have bG6 := bG5.below hb6
  have s6 : w6.cell? ⟨q, 0, none⟩ = some (.int .i64 (k : Int)) ∧ w6.cell? ⟨q, 1, none⟩ = some (.int .i64 (m : Int)) ∧ w6.cell? ⟨q, 2, none⟩ = some (.int .i64 (n : Int)) := ⟨bG6.cell 0, bG6.cell 1, bG6.cell 2⟩
  have hw6 : Below w.heap.size w w6 := hw5.trans (hb6.mono hw5.size)
  have HF6 := Lib.hid hF
  clear hF
  try (go_wp2_with fail)
  refine hK.out _ _ (by first | exact s0 | exact s5 | exact s6 | exact s7) (fun hHeld => ?_)
  clear hK K
  try simp (maxSteps := 2000000) only [zz1, zz2, zz3, Act.put, zz4, zz5, zz6]
  refine wpAnyH_ready (rs := [13]) (by kernel_rfl) (by simp) ?_
  refine AllReadyH.cons rfl (fun K hK => ?_) AllReadyH.nil
  try simp (maxSteps := 2000000) only [zz1, zz2, zz3]
  go_simp
  go_at_call 29
  refine (hcn _ _ w5.heap.size HF6.out (Nat.le_refl _)).mono ?_
  clear hcn
  rintro e w7 ⟨cb, rfl, hC, hkp⟩
  have hk57 : Keep (fun j => w5.heap.size ≤ j) w5 w7 := (Keep.of_below (F := fun j => w5.heap.size ≤ j) hb6).trans hkp (fun j e _ => by rw [e]; exact Nat.le_refl _)
  have hb57 : Below w5.heap.size w5 w7 := hk57.below (Nat.le_refl _) (fun j h => h)
  have bG7 := bG5.below hb57
  have s7 : w7.cell? ⟨q, 0, none⟩ = some (.int .i64 (k : Int)) ∧ w7.cell? ⟨q, 1, none⟩ = some (.int .i64 (m : Int)) ∧ w7.cell? ⟨q, 2, none⟩ = some (.int .i64 (n : Int)) := ⟨bG7.cell 0, bG7.cell 1, bG7.cell 2⟩
  have hw7 : Below w.heap.size w w7 := hw5.trans (hb57.mono hw5.size)
  have HC7 := Lib.hid hC
  clear hC
  try (go_wp2_with fail)
  refine hK.out _ _ (by first | exact s0 | exact s5 | exact s6 | exact s7) (fun hHeld => ?_)
  clear hK K
  try simp (maxSteps := 2000000) only [zz1, zz2, zz3, Act.put, zz4, zz5, zz6]
  refine wpAnyH_take (i := 14) (v := ?_) rfl (by kernel_rfl) (by kernel_rfl) (by kernel_rfl) (fun _ _ _ h => h) (Or.inl ⟨by first | kernel_rfl | rfl, ?_⟩) (by assumption) ?_
  rotate_left
  · (intro wq hSw; (try dsimp only at hSw); (try simp (maxSteps := 2000000) only [zz1, zz2, zz3]); go_simp); try with_reducible rfl
  try simp (maxSteps := 2000000) only [zz1, zz2, zz3, Act.put, zz4, zz5, zz6]
  refine wpAnyH_take (i := 15) (v := ?_) rfl (by kernel_rfl) (by kernel_rfl) (by kernel_rfl) (fun _ _ _ h => h) (Or.inl ⟨by first | kernel_rfl | rfl, ?_⟩) (by assumption) ?_
  rotate_left
  · (intro wq hSw; (try dsimp only at hSw); (try simp (maxSteps := 2000000) only [zz1, zz2, zz3]); go_simp); try with_reducible rfl
  try simp (maxSteps := 2000000) only [zz1, zz2, zz3, Act.put, zz4, zz5, zz6]
  refine wpAnyH_done (by kernel_rfl) ?_ _
  have hsz0 : w.heap.size ≤ wA.drew.heap.size := hd.size
  have hUw : ∀ j, U j → w.heap.size ≤ j := fun j hj => by have h1 := HU5.out j hj; omega
  have HFIN := Lib.hid (show SMidX (fun j => j < w.heap.size ∨ (w5.heap.size ≤ j ∧ j < w7.heap.size)) w w7 a cb w5.heap.size k m n (List.replicate N (DSt.new n)) from
    ⟨hw7, ⟨U, fun j => w5.heap.size ≤ j ∧ j < w7.heap.size, HA5.out.below hb57, HC7.out.bound, hUw, fun j hj => ⟨fun hu => by have := HA5.out.lt hu; omega, hj.2⟩, fun j hj => hj.elim (fun h => ⟨fun hu => by have := hUw j hu; omega, Nat.lt_of_lt_of_le h hw7.size⟩) (fun h => ⟨fun hu => by have := HA5.out.lt hu; omega, h.2⟩)⟩, by rw [List.length_replicate, HN.out], n1, n2⟩)
  have HCF := Lib.hid HC7.out.bound
  have HSZ := Lib.hid hw5.size
  have HB7 := Lib.hid hw7
  clear s0 s5 s6 s7 bG bGd bG5 bG6 bG7 hHeld hb5 hb6 hkp hk57 hb57 hw5 hw6 hw7 hd hb0
  go_wp2_with fail
  go_ret2
  exact ⟨a, cb, _, fun j => w5.heap.size ≤ j ∧ j < w7.heap.size, rfl, by rw [HN.out]; exact HFIN.out, HCF.out, fun j hj => Nat.le_trans HSZ.out hj.1, HB7.out⟩
section
variable {X C : Nat → Prop} {w0 w1 w w' : World} {a cb bf k m n : Nat} {sts : List DSt}
theorem SMidX.rebase (h : SMidX X w1 w a cb bf k m n sts) (hb : Below w0.heap.size w0 w1) : SMidX X w0 w a cb bf k m n sts := by
  obtain ⟨h0, ⟨U, C, hA, hC, hU, hd, hx⟩, hl, h1, h2⟩ := h
  exact ⟨hb.trans (h0.mono hb.size), ⟨U, C, hA, hC, fun j hj => Nat.le_trans hb.size (hU j hj), hd, hx⟩, hl, h1, h2⟩
theorem CodF.kp (h : CodF C w cb bf k m) (hM : SMidX X w0 w a cb bf k m n sts) {sts' : List DSt} (hM' : SMidX X w0 w' a cb bf k m n sts') (hk : KpX X w w') (hc : ∀ j, C j → X j) : CodF C w' cb bf k m :=
  h.keep (G := fun j => ¬ C j) ⟨hM'.bel.os.trans hM.bel.os.symm, hM'.bel.tape.trans hM.bel.tape.symm, hM'.bel.output.trans hM.bel.output.symm, hk.2, fun j _ hj => hk.1 j (hc j (Classical.not_not.1 hj))⟩ (fun j hj hn => hn hj)
/-- A box of the law's own, stored into. -/
theorem SMidX.store (h : SMidX X w0 w a cb bf k m n sts) (hC : CodF C w cb bf k m) (hc : ∀ j, C j → X j) {q o : Nat} (hq : X q) (hq0 : w0.heap.size ≤ q) (hn : ¬ C q) (v : Value) : SMidX X w0 (w.setCell ⟨q, o, none⟩ v) a cb bf k m n sts ∧ CodF C (w.setCell ⟨q, o, none⟩ v) cb bf k m := by
  obtain ⟨h0, ⟨U, C', hA, hC', hU, hd, hx⟩, hl, h1, h2⟩ := h
  have hk : Keep (fun j => j = q) w (w.setCell ⟨q, o, none⟩ v) := Keep.setCell (F := fun j => j = q) (Keep.refl _ w) (p := ⟨q, o, none⟩) (fun _ => rfl) v
  have hC2 := hC.keep hk (fun j hj e => hn (e ▸ hj))
  have hs : (w.setCell ⟨q, o, none⟩ v).heap.size = w.heap.size := World.size_setCell _ _ _
  exact ⟨⟨h0.setCell (p := ⟨q, o, none⟩) hq0 v, ⟨U, C, hA.keep hk (fun j hj e => (hx q hq).1 (e ▸ hj)), hC2, hU, fun j hj => ⟨(hx j (hc j hj)).1, by rw [hs]; exact (hx j (hc j hj)).2⟩, fun j hj => ⟨(hx j hj).1, by rw [hs]; exact (hx j hj).2⟩⟩, hl, h1, h2⟩, hC2⟩
end
end
section
structure ScX where
  p : Int
  g : Nat
  c : Int
  s : Int
def ScR (_ : Nat → Prop) (_ : World) (cs : List Value) (x : ScX) : Prop := cs = [.int .i64 x.p, .int .u64 (x.g : Int), .int .i64 x.c, .int .i64 x.s] ∧ Hid (x.g < 2 ^ 64)
theorem ScR.stable : Stable ScR := fun _ _ _ _ _ _ h _ => h
theorem sc_at {S : Nat → Prop} {w : World} {A : Option Addr} {n : Nat} {l : List ScX} (h : RdL ScR 4 S w A n l) {i : Nat} (hi : i < n) : ∃ b o x, A = some ⟨b, o, none⟩ ∧ l[i]? = some x ∧ Hid (x.g < 2 ^ 64) ∧ w.cell? ⟨b, o + i * 4, none⟩ = some (.int .i64 x.p) ∧ w.cell? ⟨b, o + i * 4 + 1, none⟩ = some (.int .u64 (x.g : Int)) ∧ w.cell? ⟨b, o + i * 4 + 2, none⟩ = some (.int .i64 x.c) ∧ w.cell? ⟨b, o + i * 4 + 3, none⟩ = some (.int .i64 x.s) := by
  obtain ⟨b, o, rfl, _, hlt⟩ := h.addr hi
  obtain ⟨hl, cs, h1, h2, h3⟩ := h.at hi
  obtain ⟨rfl, hg⟩ := h2
  exact ⟨b, o, l[i], rfl, by simp [hl], hg, h3 0 _ rfl, h3 1 _ rfl, h3 2 _ rfl, h3 3 _ rfl⟩
/-- What lies in memory between two tries. -/
structure AgW (X C : Nat → Prop) (w wr : World) (a cb bf k m s : Nat) (sts : List DSt) (q5 q7 Eo : Nat) (ho : Hdr) : Prop where
  mid : SMidX X w wr a cb bf k m s sts
  cod : CodF C wr cb bf k m
  geo : BoxAt wr q5 #[.int .i64 (k : Int), .int .i64 (m : Int), .int .i64 (s : Int)]
  old : BoxAt wr q7 #[.int .u64 (Eo : Int), .int .i64 (ho.p : Int), .int .u64 (ho.g : Int), .int .i64 (ho.ct : Int), .int .i64 (ho.sz : Int)]
  cx : ∀ j, C j → X j
  x5 : X q5
  x7 : X q7
  b7 : w.heap.size ≤ q7
  n7 : ¬ C q7
  n5 : q5 ≠ q7
section
variable {X Y C : Nat → Prop} {w wr w' : World} {a cb bf k m s : Nat} {sts sts' : List DSt} {q5 q7 Eo En : Nat} {ho hn : Hdr}
theorem AgW.keep (h : AgW X C w wr a cb bf k m s sts q5 q7 Eo ho) (hM : SMidX X w w' a cb bf k m s sts') (hk : KpX X wr w') : AgW X C w w' a cb bf k m s sts' q5 q7 Eo ho :=
  ⟨hM, CodF.kp h.cod h.mid hM hk h.cx, hk.box h.geo h.x5, hk.box h.old h.x7, h.cx, h.x5, h.x7, h.b7, h.n7, h.n5⟩
theorem AgW.below (h : AgW X C w wr a cb bf k m s sts q5 q7 Eo ho) (hb : Below wr.heap.size wr w') : AgW X C w w' a cb bf k m s sts q5 q7 Eo ho :=
  ⟨h.mid.below' hb, h.cod.below hb, h.geo.below hb, h.old.below hb, h.cx, h.x5, h.x7, h.b7, h.n7, h.n5⟩
theorem AgW.grow (h : AgW X C w wr a cb bf k m s sts q5 q7 Eo ho) (hb : Below wr.heap.size wr w') : AgW (fun j => X j ∨ (wr.heap.size ≤ j ∧ j < w'.heap.size)) C w w' a cb bf k m s sts q5 q7 Eo ho :=
  ⟨h.mid.below hb, h.cod.below hb, h.geo.below hb, h.old.below hb, fun j hj => .inl (h.cx j hj), .inl h.x5, .inl h.x7, h.b7, h.n7, h.n5⟩
theorem AgW.shrink (h : AgW Y C w w' a cb bf k m s sts' q5 q7 En hn) (h0 : AgW X C w wr a cb bf k m s sts q5 q7 Eo ho) (hy : ∀ j, X j → Y j) : AgW X C w w' a cb bf k m s sts' q5 q7 En hn :=
  ⟨h.mid.sub hy, h.cod, h.geo, h.old, h0.cx, h0.x5, h0.x7, h.b7, h.n7, h.n5⟩
theorem AgW.store (h : AgW X C w wr a cb bf k m s sts q5 q7 Eo ho) (En : Nat) (hn : Hdr) :
    AgW X C w (((((wr.setCell ⟨q7, 0, none⟩ (.int .u64 (En : Int))).setCell ⟨q7, 1, none⟩ (.int .i64 (hn.p : Int))).setCell ⟨q7, 2, none⟩ (.int .u64 (hn.g : Int))).setCell ⟨q7, 3, none⟩ (.int .i64 (hn.ct : Int))).setCell ⟨q7, 4, none⟩ (.int .i64 (hn.sz : Int))) a cb bf k m s sts q5 q7 En hn := by
  obtain ⟨m0, c0⟩ := h.mid.store h.cod h.cx h.x7 h.b7 h.n7 (o := 0) (.int .u64 (En : Int))
  obtain ⟨m1, c1⟩ := m0.store c0 h.cx h.x7 h.b7 h.n7 (o := 1) (.int .i64 (hn.p : Int))
  obtain ⟨m2, c2⟩ := m1.store c1 h.cx h.x7 h.b7 h.n7 (o := 2) (.int .u64 (hn.g : Int))
  obtain ⟨m3, c3⟩ := m2.store c2 h.cx h.x7 h.b7 h.n7 (o := 3) (.int .i64 (hn.ct : Int))
  obtain ⟨m4, c4⟩ := m3.store c3 h.cx h.x7 h.b7 h.n7 (o := 4) (.int .i64 (hn.sz : Int))
  exact ⟨m4, c4, ((((h.geo.set_other (p := ⟨q7, 0, none⟩) h.n5 _).set_other (p := ⟨q7, 1, none⟩) h.n5 _).set_other (p := ⟨q7, 2, none⟩) h.n5 _).set_other (p := ⟨q7, 3, none⟩) h.n5 _).set_other (p := ⟨q7, 4, none⟩) h.n5 _, ((((h.old.set 0 _).set 1 _).set 2 _).set 3 _).set 4 _, h.cx, h.x5, h.x7, h.b7, h.n7, h.n5⟩
theorem AgW.box5 {cs : Array Value} {q15 : Nat} (h : BoxAt wr q15 cs) (hn : q15 ≠ q7) (a b c d e : Value) : BoxAt (((((wr.setCell ⟨q7, 0, none⟩ a).setCell ⟨q7, 1, none⟩ b).setCell ⟨q7, 2, none⟩ c).setCell ⟨q7, 3, none⟩ d).setCell ⟨q7, 4, none⟩ e) q15 cs :=
  ((((h.set_other (p := ⟨q7, 0, none⟩) hn a).set_other (p := ⟨q7, 1, none⟩) hn b).set_other (p := ⟨q7, 2, none⟩) hn c).set_other (p := ⟨q7, 3, none⟩) hn d).set_other (p := ⟨q7, 4, none⟩) hn e
theorem AgI.alive {n k N B : Nat} {o : Nat → Nat → Option Nat} {T : Nat → Nat → Hdr} {z : Nat} (h : AgI n k N B (sts.map flushG) o T z Eo ho) : ∀ st ∈ sts, st.dead = false := fun st hst => by
  have := (h.cal.cl (flushG st) (List.mem_map_of_mem hst)).1
  rw [flushG_dead] at this
  exact this
theorem AgI.mcache {n k N : Nat} {g : Nat → Bool} {r : Ref} {xs : List Nat} (h : ∀ st ∈ sts, st.cache.length < 900000) : ∀ st ∈ sts.mapIdx (mendQ g n k N r xs), st.cache.length < 1000000 := fun st hst => by
  have := mend_cache (c := 900000) h st hst
  omega
end
end
section
def ExQ (act : Nat → Nat → Nat → Act) (F : Nat → Nat → Nat → World → Prop) : Exit → Act → World → Prop := fun e a' w' => ∃ E q mx, e = Exit.normal ∧ a' = act E q mx ∧ F E q mx w'
theorem ExQ.pan {act : Nat → Nat → Nat → Act} {F : Nat → Nat → Nat → World → Prop} {c : List PanicEntry} {a : Act} {w : World} (h : ExQ act F (.panic c) a w) (R : Prop) : R := by
  obtain ⟨_, _, _, h, _⟩ := h
  cases h
theorem wp_mono_ex {P : Program} {c : Code} {Q : Exit → Act → World → Prop} {a : Act} {w : World} {F : Nat → Nat → Nat → World → Prop} (act : Nat → Nat → Nat → Act) (h : c.wp P (ExQ act F) a w) (hq : ∀ E q mx w', F E q mx w' → Q .normal (act E q mx) w') : c.wp P Q a w := Code.wp_mono (fun e a w ⟨E, q, mx, h1, h2, h3⟩ => by subst h1 h2; exact hq E q mx w h3) h
def AgF (w9 : World) (s : Nat) (sts : List DSt) (hn : Hdr) (E q mx : Nat) (w' : World) : Prop := mx + 1 = E ∧ SeenE sts s mx ∧ BoxAt w' q #[.int .u64 (E : Int), .int .i64 (hn.p : Int), .int .u64 (hn.g : Int), .int .i64 (hn.ct : Int), .int .i64 (hn.sz : Int)] ∧ Below w9.heap.size w9 w' ∧ w9.heap.size ≤ q
theorem nbox (w : World) : ∃ wa q, w.alloc (.cells #[.int .u64 0, .int .i64 0, .int .u64 0, .int .i64 0, .int .i64 0] 26) = wa ∧ w.heap.size = q ∧ BoxAt wa q #[.int .u64 0, .int .i64 0, .int .u64 0, .int .i64 0, .int .i64 0] ∧ Below w.heap.size w wa := ⟨_, _, rfl, rfl, BoxAt.new w _ _, (Below.refl _ _).alloc (Nat.le_refl _) _⟩
theorem nbox_set {w : World} {q : Nat} (h : BoxAt w q #[.int .u64 0, .int .i64 0, .int .u64 0, .int .i64 0, .int .i64 0]) (a b c d e : Value) : BoxAt (((((w.setCell ⟨q, 0, none⟩ a).setCell ⟨q, 1, none⟩ b).setCell ⟨q, 2, none⟩ c).setCell ⟨q, 3, none⟩ d).setCell ⟨q, 4, none⟩ e) q #[a, b, c, d, e] := ((((h.set 0 a).set 1 b).set 2 c).set 3 d).set 4 e
theorem nbox_below {w w' : World} {q : Nat} (hb : Below w.heap.size w w') (hq : w.heap.size ≤ q) (a b c d e : Value) : Below w.heap.size w (((((w'.setCell ⟨q, 0, none⟩ a).setCell ⟨q, 1, none⟩ b).setCell ⟨q, 2, none⟩ c).setCell ⟨q, 3, none⟩ d).setCell ⟨q, 4, none⟩ e) := ((((hb.setCell (p := ⟨q, 0, none⟩) hq a).setCell (p := ⟨q, 1, none⟩) hq b).setCell (p := ⟨q, 2, none⟩) hq c).setCell (p := ⟨q, 3, none⟩) hq d).setCell (p := ⟨q, 4, none⟩) hq e
theorem seen_wrap {mx i E : Nat} (h : mx ≤ 1073741824 + i) (hi : (i : Int) ≤ 20) (hE : mx + 1 = E) : IntKind.u64.wrap ((mx : Int) + 1) = (E : Int) := by
  rw [IntKind.wrap_u64]; omega

set_option maxRecDepth 100000 in
set_option maxHeartbeats 64000000 in
theorem sagain_any {w : World} {k m s slot : Int} {Eo go : Nat} {po co so : Int} {A3 A4 : Option Addr} {n3 c3 n4 c4 : Nat} {l : List ScX} {keeps : List (List Bool)} (hgo : Hid (go < 2 ^ 64)) (R3 : Hid (RdL ScR 4 (fun _ => True) w A3 n3 l)) (R4 : Hid (RdL BoolsR 1 (fun _ => True) w A4 n4 keeps)) :
    Calls Tryz.prog 5 #[.agg #[.int .i64 k, .int .i64 m, .int .i64 s], .int .i64 slot, .agg #[.int .u64 (Eo : Int), .int .i64 po, .int .u64 (go : Int), .int .i64 co, .int .i64 so], .slice A3 n3 c3, .slice A4 n4 c4] w fun e w' => e = .returned (.bool true) ∧ Below w.heap.size w w' := by
  have hsm := fun w => small_any (w := w) k m s
  have b0 : Below w.heap.size w (w.alloc (.cells #[.int .i64 k, .int .i64 m, .int .i64 s] 31)) := (Below.refl _ _).alloc (Nat.le_refl _) _
  have B0 := BoxAt.new w #[.int .i64 k, .int .i64 m, .int .i64 s] 31
  obtain ⟨w1, hw1⟩ : ∃ w1, w.alloc (.cells #[.int .i64 k, .int .i64 m, .int .i64 s] 31) = w1 := ⟨_, rfl⟩
  obtain ⟨q5, hq5⟩ : ∃ q5, w.heap.size = q5 := ⟨_, rfl⟩
  have s1 := World.size_alloc w (.cells #[.int .i64 k, .int .i64 m, .int .i64 s] 31)
  rw [hw1] at b0 B0 s1
  rw [hq5] at B0
  have b1 := b0.alloc b0.size (.cells #[.int .u64 (Eo : Int), .int .i64 po, .int .u64 (go : Int), .int .i64 co, .int .i64 so] 26)
  have B1 := BoxAt.new w1 #[.int .u64 (Eo : Int), .int .i64 po, .int .u64 (go : Int), .int .i64 co, .int .i64 so] 26
  replace B0 := B0.alloc (.cells #[.int .u64 (Eo : Int), .int .i64 po, .int .u64 (go : Int), .int .i64 co, .int .i64 so] 26)
  obtain ⟨w2, hw2⟩ : ∃ w2, w1.alloc (.cells #[.int .u64 (Eo : Int), .int .i64 po, .int .u64 (go : Int), .int .i64 co, .int .i64 so] 26) = w2 := ⟨_, rfl⟩
  obtain ⟨q7, hq7⟩ : ∃ q7, w1.heap.size = q7 := ⟨_, rfl⟩
  rw [hw2] at b1 B1 B0
  rw [hq7] at B1
  have HQ : Hid (w.heap.size ≤ q7 ∧ q5 ≠ q7) := Lib.hid ⟨by omega, by omega⟩
  have HB2 := Lib.hid b1
  have H5 := Lib.hid B0
  have H7 := Lib.hid B1
  have HBX : Hid (∀ w', Below w2.heap.size w2 w' → (w'.cell? ⟨q5, 0, none⟩ = some (.int .i64 k) ∧ w'.cell? ⟨q5, 1, none⟩ = some (.int .i64 m) ∧ w'.cell? ⟨q5, 2, none⟩ = some (.int .i64 s)) ∧ (w'.cell? ⟨q7, 0, none⟩ = some (.int .u64 (Eo : Int)) ∧ w'.cell? ⟨q7, 1, none⟩ = some (.int .i64 po) ∧ w'.cell? ⟨q7, 2, none⟩ = some (.int .u64 (go : Int)) ∧ w'.cell? ⟨q7, 3, none⟩ = some (.int .i64 co) ∧ w'.cell? ⟨q7, 4, none⟩ = some (.int .i64 so))) := Lib.hid fun w' hb =>
    ⟨⟨(H5.out.below hb).cell 0, (H5.out.below hb).cell 1, (H5.out.below hb).cell 2⟩, ⟨(H7.out.below hb).cell 0, (H7.out.below hb).cell 1, (H7.out.below hb).cell 2, (H7.out.below hb).cell 3, (H7.out.below hb).cell 4⟩⟩
  have cc := HBX.out w2 (Below.refl _ _)
  clear b0 b1 B0 B1 s1
  unfold geoC at hsm
  have p3 : (0 : Int) ≤ (n3 : Int) := Int.natCast_nonneg _
  have pE : (0 : Int) ≤ (Eo : Int) := Int.natCast_nonneg _
  go_enter Tryz.func5, Tryz.ntmps5
  go_wp2_with fail
  cases hs : smallB k m s with
  | false =>
    rw [hs] at hsm
    refine (hsm _).mono ?_
    clear hsm hw1 hw2 hq5 hq7
    rintro e w4 ⟨rfl, hb4⟩
    have HB4 := Lib.hid (HB2.out.trans (hb4.mono HB2.out.size))
    clear cc
    go_wp2_with fail
    refine heads_any.mono ?_
    rintro e wz ⟨rfl, hbz⟩
    go_wp2_with fail
    go_ret
    exact ⟨rfl, HB4.out.trans (hbz.mono HB4.out.size)⟩
  | true =>
  rw [hs] at hsm
  refine (hsm _).mono ?_
  clear hsm hw1 hw2 hq5 hq7
  rintro e w4 ⟨rfl, hb4⟩
  have HB4 := Lib.hid (HB2.out.trans (hb4.mono HB2.out.size))
  have cc4 := HBX.out w4 hb4
  have H24 := Lib.hid hb4
  obtain ⟨k, m, s, rfl, rfl, rfl, k1, m1, km, s1, s8⟩ := small_nat hs
  clear hb4 cc hs
  have q0 : (0 : Int) ≤ (k : Int) := Int.natCast_nonneg _
  have q1 : (0 : Int) ≤ (m : Int) := Int.natCast_nonneg _
  have q2 : (k : Int) + (m : Int) ≤ 10 := by omega
  by_cases g0 : (s : Int) < 2
  · go_wp2_with fail
    refine heads_any.mono ?_
    rintro e wz ⟨rfl, hbz⟩
    go_wp2_with fail
    go_ret
    exact ⟨rfl, HB4.out.trans (hbz.mono HB4.out.size)⟩
  by_cases g1 : slot < 0
  · go_wp2_with fail
    refine heads_any.mono ?_
    rintro e wz ⟨rfl, hbz⟩
    go_wp2_with fail
    go_ret
    exact ⟨rfl, HB4.out.trans (hbz.mono HB4.out.size)⟩
  by_cases g2 : slot > 1
  · go_wp2_with fail
    refine heads_any.mono ?_
    rintro e wz ⟨rfl, hbz⟩
    go_wp2_with fail
    go_ret
    exact ⟨rfl, HB4.out.trans (hbz.mono HB4.out.size)⟩
  by_cases g3 : 1073741824 ≤ Eo
  · have g3n : decide (1073741824 ≤ Eo) = true := decide_eq_true g3
    have g3i : decide ((Eo : Int) ≥ 1073741824) = true := decide_eq_true (by omega)
    clear g3
    go_wp2_with fail
    refine heads_any.mono ?_
    rintro e wz ⟨rfl, hbz⟩
    go_wp2_with fail
    go_ret
    exact ⟨rfl, HB4.out.trans (hbz.mono HB4.out.size)⟩
  have g3n : decide (1073741824 ≤ Eo) = false := decide_eq_false g3
  have g3i : decide ((Eo : Int) ≥ 1073741824) = false := decide_eq_false (by omega)
  have G3 := Lib.hid g3
  clear g3
  go_wp2_with fail
  refine hfits_any.mono ?_
  rintro e w5 ⟨rfl, hb5⟩
  have HB5 := Lib.hid (HB4.out.trans (hb5.mono HB4.out.size))
  have H25 := Lib.hid (H24.out.trans (hb5.mono H24.out.size))
  have cc5 := HBX.out w5 H25.out
  clear hb5 cc4 HB4 H24
  cases hf1 : fitB po co so with
  | false =>
    go_wp2_with fail
    refine heads_any.mono ?_
    rintro e wz ⟨rfl, hbz⟩
    go_wp2_with fail
    go_ret
    exact ⟨rfl, HB5.out.trans (hbz.mono HB5.out.size)⟩
  | true =>
  by_cases g5 : (n3 : Int) > 20
  · have g5n : decide (20 < n3) = true := decide_eq_true (by omega)
    have g5m : 20 < n3 := by omega
    go_wp2_with fail
    refine heads_any.mono ?_
    rintro e wz ⟨rfl, hbz⟩
    go_wp2_with fail
    go_ret
    exact ⟨rfl, HB5.out.trans (hbz.mono HB5.out.size)⟩
  have g5n : decide (20 < n3) = false := decide_eq_false (by omega)
  have g5m : ¬ 20 < n3 := by omega
  have hmd := made_lawC (w := w5) (k := k) (m := m) (n := s) k1 m1 (by omega) s1 (by omega)
  unfold geoC at hmd
  go_wp2_with fail
  refine hmd.mono ?_
  clear hmd
  rintro e w6 ⟨a, cb, bf, C, rfl, hM, hCo, hCl, hb6⟩
  have g3 := G3.out
  obtain ⟨ho, hok1, rfl, rfl, rfl, rfl⟩ := fit_nat hgo hf1
  obtain ⟨z, rfl⟩ : ∃ z : Nat, slot = (z : Int) := ⟨slot.toNat, by omega⟩
  have hz : z < 2 := by omega
  have hs2 : 2 ≤ s := by omega
  have hEo : Eo < 1099511627776 := by omega
  have hEo2 : Eo ≤ 1073741824 := by omega
  have hnl : n3 ≤ 20 := by omega
  have HOK := Lib.hid hok1
  have HEE := Lib.hid (And.intro hEo hEo2)
  have HZ := Lib.hid hz
  have HNL := Lib.hid hnl
  have HS2 := Lib.hid hs2
  have HS8 := Lib.hid s8
  have HW6 : Hid (AgW (fun j => j < w5.heap.size ∨ C j) C w w6 a cb bf k m s (newS s (k + m)) q5 q7 Eo ho) := Lib.hid
    ⟨hM.rebase HB5.out, hCo, (H5.out.below H25.out).below hb6, (H7.out.below H25.out).below hb6, fun j hj => .inr hj, .inl (Nat.lt_of_lt_of_le H5.out.lt H25.out.size), .inl (Nat.lt_of_lt_of_le H7.out.lt H25.out.size), HQ.out.1, fun h => by have h1 := hCl _ h; have h2 := H7.out.lt; have h3 := H25.out.size; omega, HQ.out.2⟩
  obtain ⟨X, hX⟩ : ∃ X : Nat → Prop, (fun j => j < w5.heap.size ∨ C j) = X := ⟨_, rfl⟩
  rw [hX] at HW6
  clear hf1 hX hM hCo hCl hb6 HBX H5 H7 HQ hgo G3 g3 g3n g3i g2 g1 g0 g5 g5n g5m hEo hEo2 hs2 hnl hok1 hz pE p3 HB2 H25 HB5
  have c60 := HW6.out.geo.cell 0
  have c61 := HW6.out.geo.cell 1
  have c70 := HW6.out.old.cell 0
  have c71 := HW6.out.old.cell 1
  have c72 := HW6.out.old.cell 2
  have c73 := HW6.out.old.cell 3
  have c74 := HW6.out.old.cell 4
  have hp := hput_any (z := z) (E := Eo) (hd := ho) HW6.out.mid (by have := HS2.out; have := HZ.out; omega) HZ.out HEE.out.1 HOK.out cache_new
  unfold hdC at hp
  have HP := Lib.hid hp
  have q3 : IntKind.i64.wrap ((k : Int) + (m : Int)) = ((k + m : Nat) : Int) := by rw [IntKind.wrap_i64]; push_cast; omega
  clear hp cc5
  go_wp2_with fail
  refine HP.out.mono ?_
  clear HP c60 c61 c70 c71 c72 c73 c74
  rintro e w7 ⟨rfl, hM7, hk7⟩
  have HW7 := Lib.hid (HW6.out.keep hM7 hk7)
  have hcl7 : ∀ st ∈ (newS s (k + m)).mapIdx (putQ s k (k + m) (hRef z Eo) (hdT ho)), st.cache.length < 1000000 := fun st hst => by
    have := cache_mapIdx (c := 900000) cache_new st hst
    omega
  have hfl := flush_x HW7.out.mid hcl7
  rw [cnt_live (hput_alive (by have := HS2.out; have := HZ.out; omega) (live_newS s (k + m))), HW7.out.mid.len] at hfl
  have HFL := Lib.hid hfl
  clear hM7 hk7 hcl7 hfl HW6
  go_wp2_with fail
  refine HFL.out.mono ?_
  clear HFL
  rintro e w8 ⟨rfl, hM8, hk8⟩
  have HW8 := Lib.hid (HW7.out.keep hM8 hk8)
  have HI8 := Lib.hid (AgI.start (n := s) (k := k) (N := k + m) (B := 1073741824 + 0) HS2.out k1 HZ.out HEE.out.1 HOK.out HEE.out.2)
  have g7 : (((k + m : Nat) : Int) != ((k + m : Nat) : Int)) = false := by simp
  have p3 : (0 : Int) ≤ (n3 : Int) := Int.natCast_nonneg _
  clear hM8 hk8 HW7
  go_wp2_with fail
  clear g7
  go_loopw [1, 14] (fun vs vi wr => ∃ i z Eo : Nat, ∃ ho sts o T, i ≤ n3 ∧ vs = .int .i64 (z : Int) ∧ vi = .int .i64 (i : Int) ∧ Hid (z < 2) ∧ Hid (AgI s k (k + m) (1073741824 + i) sts o T z Eo ho) ∧ Hid (AgW X C w wr a cb bf k m s sts q5 q7 Eo ho)) (fun _ vi _ => n3 - (intOf vi).toNat)
  case atStart => exact ⟨0, z, Eo, ho, _, _, _, Nat.zero_le _, rfl, rfl, HZ, HI8, HW8⟩
  case round =>
  clear HW8 HI8 HEE HZ HOK
  obtain ⟨i, z, Eo, ho, sts, o, T, hi, rfl, rfl, HZ, HI, HW⟩ := hrel
  have pi : (0 : Int) ≤ (i : Int) := Int.natCast_nonneg _
  have p6 : (i : Int) ≤ 20 := by have := HNL.out; omega
  by_cases hlt : i < n3
  · have p1 : (i : Int) < (n3 : Int) := by omega
    obtain ⟨b3, o3, x, rfl, hx, hxg, _⟩ := sc_at R3.out hlt
    have HL : Hid (∀ w', Below w.heap.size w w' → w'.cell? ⟨b3, o3 + i * 4, none⟩ = some (.int .i64 x.p) ∧ w'.cell? ⟨b3, o3 + i * 4 + 1, none⟩ = some (.int .u64 (x.g : Int)) ∧ w'.cell? ⟨b3, o3 + i * 4 + 2, none⟩ = some (.int .i64 x.c) ∧ w'.cell? ⟨b3, o3 + i * 4 + 3, none⟩ = some (.int .i64 x.s)) := Lib.hid fun w' hb => by
      obtain ⟨b', o', x', e, hx', _, v⟩ := sc_at (R3.out.below ScR.stable hb) hlt
      rw [hx] at hx'
      cases hx'
      injection e with e
      injection e with e3 e4
      rw [e3, e4]; exact v
    have cc := HL.out wr HW.out.mid.bel
    go_wp2_with fail
    refine hfits_any.mono ?_
    clear cc
    rintro e w9 ⟨rfl, hb9⟩
    have HW9 := Lib.hid (HW.out.below hb9)
    have HB9 := Lib.hid HW9.out.mid.bel
    clear hb9 HW
    obtain ⟨xp, xg, xc, xs⟩ := x
    cases hf : fitB xp xc xs with
    | false =>
      go_wp2_with fail
      refine heads_any.mono ?_
      rintro e wz ⟨rfl, hbz⟩
      go_wp2_with fail
      go_ret
      exact ⟨rfl, HB9.out.trans (hbz.mono HB9.out.size)⟩
    | true =>
    obtain ⟨hn, hokn, rfl, rfl, rfl, rfl⟩ := fit_nat hxg hf
    have cc := HL.out w9 HB9.out
    have HOKN := Lib.hid hokn
    clear hf hxg hx hokn
    go_wp2_with fail
    have HSN := Lib.hid (hseen_any (HW9.out.mid.below' (show Below w9.heap.size w9 w9.drew from (Below.refl _ _).drew)) (Lib.hid (HI.out.cal.rd (by have := HS8.out; omega) (by omega) (by omega))))
    have t9 : Below w.heap.size w w9.drew := HB9.out.drew
    apply wp_mono_ex (F := fun E q mx w' => Hid (AgF w9 s sts hn E q mx w'))
    case h =>
      refine wp_region_held_drew (S := fun w' => w'.cell? ⟨b3, o3 + i * 4, none⟩ = some (.int .i64 (hn.p : Int)) ∧ w'.cell? ⟨b3, o3 + i * 4 + 1, none⟩ = some (.int .u64 (hn.g : Int)) ∧ w'.cell? ⟨b3, o3 + i * 4 + 2, none⟩ = some (.int .i64 (hn.ct : Int)) ∧ w'.cell? ⟨b3, o3 + i * 4 + 3, none⟩ = some (.int .i64 (hn.sz : Int))) (by kernel_rfl) (by with_reducible first | exact HL.out _ t9 | exact HL.out _ t10 | exact HL.out _ ta | exact HL.out _ ts) (fun hHeld => ?_)
      refine wpAnyH_take2 (i := 0) (v := ?_) (some 92) rfl (by kernel_rfl) (by kernel_rfl) (by kernel_rfl) (by kernel_rfl) (fun _ _ _ h => ExQ.pan h _) (Or.inl ⟨by first | kernel_rfl | rfl, ?_⟩) (by assumption) ?_
      rotate_left
      · (intro wq hSw; (try dsimp only at hSw); (try simp (maxSteps := 2000000) only [zz1, zz2, zz3]); go_simp); try with_reducible rfl
      try simp (maxSteps := 2000000) only [zz1, zz2, zz3, Act.put, zz4, zz5, zz6]
      refine wpAnyH_take2 (i := 3) (v := ?_) (some 95) rfl (by kernel_rfl) (by kernel_rfl) (by kernel_rfl) (by kernel_rfl) (fun _ _ _ h => ExQ.pan h _) (Or.inl ⟨by first | kernel_rfl | rfl, ?_⟩) (by assumption) ?_
      rotate_left
      · (intro wq hSw; (try dsimp only at hSw); (try simp (maxSteps := 2000000) only [zz1, zz2, zz3]); go_simp); try with_reducible rfl
      try simp (maxSteps := 2000000) only [zz1, zz2, zz3, Act.put, zz4, zz5, zz6]
      refine wpAnyH_take2 (i := 4) (v := ?_) (some 96) rfl (by kernel_rfl) (by kernel_rfl) (by kernel_rfl) (by kernel_rfl) (fun _ _ _ h => ExQ.pan h _) (Or.inl ⟨by first | kernel_rfl | rfl, ?_⟩) (by assumption) ?_
      rotate_left
      · (intro wq hSw; (try dsimp only at hSw); (try simp (maxSteps := 2000000) only [zz1, zz2, zz3]); go_simp); try with_reducible rfl
      try simp (maxSteps := 2000000) only [zz1, zz2, zz3, Act.put, zz4, zz5, zz6]
      refine wpAnyH_take2 (i := 5) (v := ?_) (some 97) rfl (by kernel_rfl) (by kernel_rfl) (by kernel_rfl) (by kernel_rfl) (fun _ _ _ h => ExQ.pan h _) (Or.inl ⟨by first | kernel_rfl | rfl, ?_⟩) (by assumption) ?_
      rotate_left
      · (intro wq hSw; (try dsimp only at hSw); (try simp (maxSteps := 2000000) only [zz1, zz2, zz3]); go_simp); try with_reducible rfl
      try simp (maxSteps := 2000000) only [zz1, zz2, zz3, Act.put, zz4, zz5, zz6]
      refine wpAnyH_take2 (i := 6) (v := ?_) (some 98) rfl (by kernel_rfl) (by kernel_rfl) (by kernel_rfl) (by kernel_rfl) (fun _ _ _ h => ExQ.pan h _) (Or.inl ⟨by first | kernel_rfl | rfl, ?_⟩) (by assumption) ?_
      rotate_left
      · (intro wq hSw; (try dsimp only at hSw); (try simp (maxSteps := 2000000) only [zz1, zz2, zz3]); go_simp); try with_reducible rfl
      try simp (maxSteps := 2000000) only [zz1, zz2, zz3, Act.put, zz4, zz5, zz6]
      refine wpAnyH_ready (rs := [1, 8]) (by kernel_rfl) (by simp) ?_
      refine AllReadyH.cons rfl (fun K hK => ?_) (AllReadyH.cons rfl (fun K hK => ?_) AllReadyH.nil)
      · try simp (maxSteps := 2000000) only [zz1, zz2, zz3]
        go_simp
        go_at_call 18
        refine HSN.out.mono ?_
        rintro e w10 ⟨mx, hmx, rfl, hbb⟩
        have u10 : Below w9.heap.size w9 w10 := (Below.refl w9.heap.size w9).drew.trans (show Below w9.heap.size w9.drew w10 from hbb)
        have t10 : Below w.heap.size w w10 := HB9.out.trans (u10.mono HB9.out.size)
        obtain ⟨hm1, hm2, hm3⟩ := HI.out.seen HZ.out HS2.out (by have := HS8.out; omega) (by omega) (by omega) hmx
        obtain ⟨E, hE⟩ : ∃ E, mx + 1 = E := ⟨_, rfl⟩
        have hwE := seen_wrap hm3 p6 hE
        have HE := Lib.hid (And.intro hE hmx)
        clear hE hmx hm1 hm2 hm3
        try (go_wp2_with fail)
        refine hK.out _ _ (by with_reducible first | exact HL.out _ t9 | exact HL.out _ t10 | exact HL.out _ ta | exact HL.out _ ts) (fun hHeld => ?_)
        clear hK K
        try simp (maxSteps := 2000000) only [zz1, zz2, zz3, Act.put, zz4, zz5, zz6]
        refine wpAnyH_take2 (i := 2) (v := ?_) (some 94) rfl (by kernel_rfl) (by kernel_rfl) (by kernel_rfl) (by kernel_rfl) (fun _ _ _ h => ExQ.pan h _) (Or.inl ⟨by first | kernel_rfl | rfl, ?_⟩) (by assumption) ?_
        rotate_left
        · (intro wq hSw; (try dsimp only at hSw); (try simp (maxSteps := 2000000) only [zz1, zz2, zz3]); go_simp); try with_reducible rfl
        try simp (maxSteps := 2000000) only [zz1, zz2, zz3, Act.put, zz4, zz5, zz6]
        refine wpAnyH_take2 (i := 7) (v := ?_) (some 99) rfl (by kernel_rfl) (by kernel_rfl) (by kernel_rfl) (by kernel_rfl) (fun _ _ _ h => ExQ.pan h _) (Or.inl ⟨by first | kernel_rfl | rfl, ?_⟩) (by assumption) ?_
        rotate_left
        · (intro wq hSw; (try dsimp only at hSw); (try simp (maxSteps := 2000000) only [zz1, zz2, zz3]); go_simp); try with_reducible rfl
        try simp (maxSteps := 2000000) only [zz1, zz2, zz3, Act.put, zz4, zz5, zz6]
        obtain ⟨wa, q, ha, hq, hba, hba2⟩ := nbox w10
        have ua : Below w9.heap.size w9 wa := u10.trans (hba2.mono u10.size)
        have ta : Below w.heap.size w wa := HB9.out.trans (ua.mono HB9.out.size)
        have hqq : w9.heap.size ≤ q := by have := u10.size; omega
        have g0 := hba.cell 0
        have g1 := hba.cell 1
        have g2 := hba.cell 2
        have g3 := hba.cell 3
        have g4 := hba.cell 4
        have f0 := hba.frozen 0
        have f1 := hba.frozen 1
        have f2 := hba.frozen 2
        have f3 := hba.frozen 3
        have f4 := hba.frozen 4
        have us := nbox_below ua hqq (.int .u64 (E : Int)) (.int .i64 (hn.p : Int)) (.int .u64 (hn.g : Int)) (.int .i64 (hn.ct : Int)) (.int .i64 (hn.sz : Int))
        have ts := HB9.out.trans (us.mono HB9.out.size)
        have HF := Lib.hid (show AgF w9 s sts hn E q mx _ from ⟨HE.out.1, HE.out.2, nbox_set hba (.int .u64 (E : Int)) (.int .i64 (hn.p : Int)) (.int .u64 (hn.g : Int)) (.int .i64 (hn.ct : Int)) (.int .i64 (hn.sz : Int)), us, hqq⟩)
        clear hba hba2
        refine wpAnyH_ready (rs := [8]) (by kernel_rfl) (by simp) ?_
        refine AllReadyH.cons rfl (fun K hK => ?_) AllReadyH.nil
        try simp (maxSteps := 2000000) only [zz1, zz2, zz3]
        go_simp
        refine hK.out _ _ (by with_reducible first | exact HL.out _ t9 | exact HL.out _ t10 | exact HL.out _ ta | exact HL.out _ ts) (fun hHeld => ?_)
        clear hK K
        try simp (maxSteps := 2000000) only [zz1, zz2, zz3, Act.put, zz4, zz5, zz6]
        refine wpAnyH_ready (rs := [9]) (by kernel_rfl) (by simp) ?_
        refine AllReadyH.cons rfl (fun K hK => ?_) AllReadyH.nil
        try simp (maxSteps := 2000000) only [zz1, zz2, zz3]
        go_simp
        refine hK.out _ _ (by with_reducible first | exact HL.out _ t9 | exact HL.out _ t10 | exact HL.out _ ta | exact HL.out _ ts) (fun hHeld => ?_)
        clear hK K
        try simp (maxSteps := 2000000) only [zz1, zz2, zz3, Act.put, zz4, zz5, zz6]
        refine wpAnyH_done (by kernel_rfl) ?_ _
        exact ⟨E, q, mx, rfl, rfl, HF⟩
      · obtain ⟨wa, q, ha, hq, hba, hba2⟩ := nbox w9.drew
        have ua : Below w9.heap.size w9 wa := (Below.refl w9.heap.size w9).drew.trans (show Below w9.heap.size w9.drew wa from hba2)
        have ta : Below w.heap.size w wa := HB9.out.trans (ua.mono HB9.out.size)
        have hqq : w9.heap.size ≤ q := by have h : w9.heap.size = q := hq; omega
        have HSN := Lib.hid (hseen_any (HW9.out.mid.below' ua) (Lib.hid (HI.out.cal.rd (by have := HS8.out; omega) (by omega) (by omega))))
        have HBA := Lib.hid hba
        clear hba hba2
        try simp (maxSteps := 2000000) only [zz1, zz2, zz3]
        go_simp
        refine hK.out _ _ (by with_reducible first | exact HL.out _ t9 | exact HL.out _ t10 | exact HL.out _ ta | exact HL.out _ ts) (fun hHeld => ?_)
        clear hK K
        try simp (maxSteps := 2000000) only [zz1, zz2, zz3, Act.put, zz4, zz5, zz6]
        refine wpAnyH_ready (rs := [1]) (by kernel_rfl) (by simp) ?_
        refine AllReadyH.cons rfl (fun K hK => ?_) AllReadyH.nil
        try simp (maxSteps := 2000000) only [zz1, zz2, zz3]
        go_simp
        go_at_call 18
        refine HSN.out.mono ?_
        rintro e w10 ⟨mx, hmx, rfl, hbb⟩
        have u10 : Below w9.heap.size w9 w10 := ua.trans (hbb.mono ua.size)
        have t10 : Below w.heap.size w w10 := HB9.out.trans (u10.mono HB9.out.size)
        have hba := HBA.out.below hbb
        obtain ⟨hm1, hm2, hm3⟩ := HI.out.seen HZ.out HS2.out (by have := HS8.out; omega) (by omega) (by omega) hmx
        obtain ⟨E, hE⟩ : ∃ E, mx + 1 = E := ⟨_, rfl⟩
        have hwE := seen_wrap hm3 p6 hE
        have HE := Lib.hid (And.intro hE hmx)
        clear hE hmx hm1 hm2 hm3
        try (go_wp2_with fail)
        refine hK.out _ _ (by with_reducible first | exact HL.out _ t9 | exact HL.out _ t10 | exact HL.out _ ta | exact HL.out _ ts) (fun hHeld => ?_)
        clear hK K
        try simp (maxSteps := 2000000) only [zz1, zz2, zz3, Act.put, zz4, zz5, zz6]
        refine wpAnyH_take2 (i := 2) (v := ?_) (some 94) rfl (by kernel_rfl) (by kernel_rfl) (by kernel_rfl) (by kernel_rfl) (fun _ _ _ h => ExQ.pan h _) (Or.inl ⟨by first | kernel_rfl | rfl, ?_⟩) (by assumption) ?_
        rotate_left
        · (intro wq hSw; (try dsimp only at hSw); (try simp (maxSteps := 2000000) only [zz1, zz2, zz3]); go_simp); try with_reducible rfl
        try simp (maxSteps := 2000000) only [zz1, zz2, zz3, Act.put, zz4, zz5, zz6]
        refine wpAnyH_take2 (i := 7) (v := ?_) (some 99) rfl (by kernel_rfl) (by kernel_rfl) (by kernel_rfl) (by kernel_rfl) (fun _ _ _ h => ExQ.pan h _) (Or.inl ⟨by first | kernel_rfl | rfl, ?_⟩) (by assumption) ?_
        rotate_left
        · (intro wq hSw; (try dsimp only at hSw); (try simp (maxSteps := 2000000) only [zz1, zz2, zz3]); go_simp); try with_reducible rfl
        try simp (maxSteps := 2000000) only [zz1, zz2, zz3, Act.put, zz4, zz5, zz6]
        have g0 := hba.cell 0
        have g1 := hba.cell 1
        have g2 := hba.cell 2
        have g3 := hba.cell 3
        have g4 := hba.cell 4
        have f0 := hba.frozen 0
        have f1 := hba.frozen 1
        have f2 := hba.frozen 2
        have f3 := hba.frozen 3
        have f4 := hba.frozen 4
        have us := nbox_below u10 hqq (.int .u64 (E : Int)) (.int .i64 (hn.p : Int)) (.int .u64 (hn.g : Int)) (.int .i64 (hn.ct : Int)) (.int .i64 (hn.sz : Int))
        have ts := HB9.out.trans (us.mono HB9.out.size)
        have HF := Lib.hid (show AgF w9 s sts hn E q mx _ from ⟨HE.out.1, HE.out.2, nbox_set hba (.int .u64 (E : Int)) (.int .i64 (hn.p : Int)) (.int .u64 (hn.g : Int)) (.int .i64 (hn.ct : Int)) (.int .i64 (hn.sz : Int)), us, hqq⟩)
        clear hba
        refine wpAnyH_ready (rs := [9]) (by kernel_rfl) (by simp) ?_
        refine AllReadyH.cons rfl (fun K hK => ?_) AllReadyH.nil
        try simp (maxSteps := 2000000) only [zz1, zz2, zz3]
        go_simp
        refine hK.out _ _ (by with_reducible first | exact HL.out _ t9 | exact HL.out _ t10 | exact HL.out _ ta | exact HL.out _ ts) (fun hHeld => ?_)
        clear hK K
        try simp (maxSteps := 2000000) only [zz1, zz2, zz3, Act.put, zz4, zz5, zz6]
        refine wpAnyH_done (by kernel_rfl) ?_ _
        exact ⟨E, q, mx, rfl, rfl, HF⟩
    case hq =>
    intro E q15 mx w10 HF
    obtain ⟨hE, hmx, hb15, hb10, hq15⟩ := HF.out
    obtain ⟨hm1, hm2, hm3⟩ := HI.out.seen HZ.out HS2.out (by have := HS8.out; omega) (by omega) (by omega) hmx
    obtain ⟨zo, hzo⟩ : ∃ zo, zo + z = 1 := ⟨1 - z, by have := HZ.out; omega⟩
    have HZO : Hid (zo < 2) := Lib.hid (by omega)
    have HEZ : Hid (1 - z = zo ∧ mx + 1 = E) := Lib.hid ⟨by omega, hE⟩
    have HEE : Hid (E < 1099511627776) := Lib.hid (by omega)
    have HWZ : Hid (IntKind.i64.wrap (1 - (z : Int)) = (zo : Int)) := Lib.hid (by rw [IntKind.wrap_i64]; omega)
    have HM := Lib.hid (And.intro hm1 (And.intro hm2 hm3))
    have hfr := HI.out.fresh hm1
    rw [HEZ.out.1, HEZ.out.2] at hfr
    have HFR := Lib.hid hfr
    have HW10 := Lib.hid (HW9.out.grow hb10)
    have HNE : Hid (q15 ≠ q7) := Lib.hid (by have h1 := HW9.out.old.lt; omega)
    have B10 := Lib.hid hb15
    obtain ⟨X1, hX1⟩ : ∃ X1 : Nat → Prop, (fun j => X j ∨ (w9.heap.size ≤ j ∧ j < w10.heap.size)) = X1 := ⟨_, rfl⟩
    have HX15 : Hid (X1 q15) := Lib.hid (by rw [← hX1]; exact .inr ⟨hq15, hb15.lt⟩)
    have HX1 : Hid (∀ j, X j → X1 j) := Lib.hid (by rw [← hX1]; exact fun j hj => .inl hj)
    rw [hX1] at HW10
    have hp := hput_any (z := zo) (E := E) (hd := hn) HW10.out.mid (by have := HS2.out; have := HZO.out; omega) HZO.out HEE.out HOKN.out HI.out.cal.cache
    unfold hdC at hp
    have HP := Lib.hid hp
    have y0 := B10.out.cell 0
    have y1 := B10.out.cell 1
    have y2 := B10.out.cell 2
    have y3 := B10.out.cell 3
    have y4 := B10.out.cell 4
    have hw1 := HWZ.out
    have HW := HW9
    clear HF hE hmx hb15 hb10 hq15 hm1 hm2 hm3 hzo hfr hX1 hp HL cc HW9 HSN t9
    go_wp2_with fail
    refine HP.out.mono ?_
    clear HP y0 y1 y2 y3 y4 hw1
    rintro e w11 ⟨rfl, hM11, hk11⟩
    have HW11 := Lib.hid (HW10.out.keep hM11 hk11)
    have B11 := Lib.hid (hk11.box B10.out HX15.out)
    have p4 : (0 : Int) ≤ (n4 : Int) := Int.natCast_nonneg _
    clear hM11 hk11 HW10 B10
    have hcast : ((k + m : Nat) : Int) = (k : Int) + (m : Int) := Int.natCast_add k m
    have HCS := Lib.hid hcast
    clear hcast
    by_cases hk4 : i < n4
    · have p2 : (i : Int) < (n4 : Int) := by omega
      obtain ⟨b4, o4, kl, A16, n16, c16, rfl, hkx, vk, hr16⟩ := bools_at (R4.out.below BoolsR.stable HW11.out.mid.bel) hk4
      have HR16 := Lib.hid hr16
      clear hr16 hkx
      have hkp := hkept_any (c := c16) (N := k + m) HR16 (by omega)
      rw [HCS.out] at hkp
      have HKP := Lib.hid hkp
      clear hkp
      go_wp2_with fail
      refine HKP.out.mono ?_
      clear HKP
      rintro e w12 ⟨A12, c12, rfl, hr12, hb12⟩
      have hW12 := HW11.out.grow hb12
      have hcl : ∀ st ∈ sts.mapIdx (putQ s k (k + m) (hRef zo E) (hdT hn)), st.cache.length < 1000000 := fun st hst => by
        have := cache_mapIdx (c := 900000) HI.out.cal.cache st hst
        omega
      have hr12 : RdL BoolsR 1 (fun j => w11.heap.size ≤ j ∧ j < w12.heap.size) w12 A12 (k + m) (keepR (onK kl) (k + m)) := RdL.bound BoolsR.stable hr12
      have HCR := Lib.hid (crash_x (c := c12) hW12.mid hcl hr12 (fun j hj => .inr hj))
      have HW12 := Lib.hid hW12
      have B12 := Lib.hid (B11.out.below hb12)
      obtain ⟨tot, htot⟩ : ∃ tot, cntP (onK kl) (k + m) = tot := ⟨_, rfl⟩
      rw [htot]
      have HTOT := Lib.hid htot
      clear hW12 hcl hr12 hb12 htot
      go_wp2_with fail
      refine HCR.out.mono ?_
      clear HCR
      rintro e w13 ⟨rfl, hM13, hk13⟩
      have HW13 := Lib.hid ((HW12.out.keep hM13 hk13).shrink HW11.out (fun j hj => .inl hj))
      have B13 := Lib.hid (hk13.box B12.out (.inl HX15.out))
      have hcal := HI.out.cal.tear (z := zo) (E := E) (hd := hn) (on := onK kl) (ks := keepR (onK kl) (k + m)) HZO.out HS2.out HEE.out HOKN.out HFR.out (fun d hd => keepR_at hd)
      have HCAL := Lib.hid hcal
      clear hM13 hk13 hcal HW12 B12
      by_cases hl : k ≤ tot
      · have e2 : decide ((tot : Int) ≥ (k : Int)) = true := decide_eq_true (by omega)
        have e1 : decide (k ≤ tot) = true := decide_eq_true hl
        have hh := HI.out.hit (on := onK kl) k1 HZ.out HM.out.1 (by rw [HTOT.out]; exact hl)
        rw [HEZ.out.1, HEZ.out.2] at hh
        obtain ⟨es, V, v1, v2, v3⟩ := cal_find HCAL.out HS2.out HZO.out hh.1 hh.2
        rw [show updT T zo E hn zo E = hn by unfold updT; rw [if_pos ⟨rfl, rfl⟩]] at v1
        have hfd := hfind_any HW13.out.mid V
        rw [v1, v2, v3] at hfd
        unfold hdC at hfd
        have HFD := Lib.hid hfd
        have HH := Lib.hid hh.1.1
        clear V v1 v2 v3 hfd hh hl
        go_wp2_with fail
        refine HFD.out.mono ?_
        clear HFD
        rintro e w14 ⟨rfl, hb14⟩
        have b19 := BoxAt.new w14 #[.int .u64 (E : Int), .int .i64 (hn.p : Int), .int .u64 (hn.g : Int), .int .i64 (hn.ct : Int), .int .i64 (hn.sz : Int)] 26
        have hb15 := hb14.alloc hb14.size (.cells #[.int .u64 (E : Int), .int .i64 (hn.p : Int), .int .u64 (hn.g : Int), .int .i64 (hn.ct : Int), .int .i64 (hn.sz : Int)] 26)
        obtain ⟨w15, hw15⟩ : ∃ w15, w14.alloc (.cells #[.int .u64 (E : Int), .int .i64 (hn.p : Int), .int .u64 (hn.g : Int), .int .i64 (hn.ct : Int), .int .i64 (hn.sz : Int)] 26) = w15 := ⟨_, rfl⟩
        obtain ⟨q19, hq19⟩ : ∃ q19, w14.heap.size = q19 := ⟨_, rfl⟩
        rw [hw15] at b19 hb15
        rw [hq19] at b19
        have HW15 := Lib.hid (HW13.out.below hb15)
        have B15 := Lib.hid (B13.out.below hb15)
        clear hb14 hb15 HW13 B13
        have x0 := b19.cell 0
        have x1 := b19.cell 1
        have x2 := b19.cell 2
        have x3 := b19.cell 3
        have x4 := b19.cell 4
        have y0 := B15.out.cell 0
        have y1 := B15.out.cell 1
        have y2 := B15.out.cell 2
        have y3 := B15.out.cell 3
        have y4 := B15.out.cell 4
        have z0 := HW15.out.old.cell 0
        have z1 := HW15.out.old.cell 1
        have z2 := HW15.out.old.cell 2
        have z3 := HW15.out.old.cell 3
        have z4 := HW15.out.old.cell 4
        have f0 := HW15.out.old.frozen 0
        have f1 := HW15.out.old.frozen 1
        have f2 := HW15.out.old.frozen 2
        have f3 := HW15.out.old.frozen 3
        have f4 := HW15.out.old.frozen 4
        have gk := HW15.out.geo.cell 0
        have hw1 := HWZ.out
        have HW16 := Lib.hid (HW15.out.store E hn)
        have B16 := Lib.hid (AgW.box5 B15.out HNE.out (.int .u64 (E : Int)) (.int .i64 (hn.p : Int)) (.int .u64 (hn.g : Int)) (.int .i64 (hn.ct : Int)) (.int .i64 (hn.sz : Int)))
        obtain ⟨w16, hw16⟩ : ∃ w16, ((((w15.setCell ⟨q7, 0, none⟩ (.int .u64 (E : Int))).setCell ⟨q7, 1, none⟩ (.int .i64 (hn.p : Int))).setCell ⟨q7, 2, none⟩ (.int .u64 (hn.g : Int))).setCell ⟨q7, 3, none⟩ (.int .i64 (hn.ct : Int))).setCell ⟨q7, 4, none⟩ (.int .i64 (hn.sz : Int)) = w16 := ⟨_, rfl⟩
        rw [hw16] at HW16 B16
        have e0 := B16.out.cell 0
        have hrf := href_any (w := w16) (slot := (zo : Int)) (ep := E)
        rw [show supC (zo : Int) E = #[.int .u8 1, .int .i64 (zo : Int), .int .u64 ((E * 1048576 : Nat) : Int)] from if_pos ⟨decide_eq_true (by have := HZO.out; omega), HEE.out⟩] at hrf
        have HRF := Lib.hid hrf
        clear hrf b19
        go_wp2_with fail
        refine HRF.out.mono ?_
        clear HRF
        rintro e w17 ⟨rfl, hb17⟩
        have HW17 := Lib.hid (HW16.out.below hb17)
        have hmd := mend_x (g := fun d => decide (tearO o zo E (onK kl) zo d = some E)) (r := hRef zo E) (xs := hdT hn) HW17.out.mid (hRef_ok (by have := HS2.out; have := HZO.out; omega)) (hRef_g (by have := HEE.out; omega)) (hdT_byt hn) (by rw [hdT_len]; omega) HCAL.out.cache HH.out (by
          have hv := (HCAL.out.v zo HZO.out).view (by have := HS2.out; have := HZO.out; omega) (by have := HS8.out; omega) (by omega) (by omega) E
          rw [show updT T zo E hn zo E = hn by unfold updT; rw [if_pos ⟨rfl, rfl⟩]] at hv
          exact hv)
        rw [show refC (hRef zo E) = #[.int .u8 1, .int .i64 (zo : Int), .int .u64 ((E * 1048576 : Nat) : Int)] from rfl] at hmd
        have HMD := Lib.hid hmd
        clear hmd hb17 hw15 hq19 hw16 HW16 B16 HW15 B15 x0 x1 x2 x3 x4 y0 y1 y2 y3 y4 z0 z1 z2 z3 z4 f0 f1 f2 f3 f4 gk e0
        go_wp2_with fail
        refine HMD.out.mono ?_
        clear HMD
        rintro e w18 ⟨rfl, hM18, hk18⟩
        have HW18 := Lib.hid (HW17.out.keep hM18 hk18)
        obtain ⟨o', T', hag⟩ := HI.out.mend (hn := hn) (on := onK kl) (ks := keepR (onK kl) (k + m)) k1 (by omega) HZ.out HS2.out HM.out.1 HM.out.2.1 HM.out.2.2 (by rw [HEZ.out.2]; exact HEE.out) HOKN.out (fun d hd => keepR_at hd)
        rw [HEZ.out.1, HEZ.out.2] at hag
        have HAG := Lib.hid hag
        have hal := AgI.alive hag
        have hcl18 := AgI.mcache (g := fun d => decide (tearO o zo E (onK kl) zo d = some E)) (n := s) (k := k) (N := k + m) (r := hRef zo E) (xs := hdT hn) HCAL.out.cache
        have hfl := flush_x HW18.out.mid hcl18
        rw [cnt_live hal, HW18.out.mid.len, HCS.out] at hfl
        have HFL := Lib.hid hfl
        obtain ⟨fx, hfx⟩ : ∃ fx : Nat, cntP (fun d => !decide (tearO o zo E (onK kl) zo d = some E) && !deadL ((sts.mapIdx (putQ s k (k + m) (hRef zo E) (hdT hn))).mapIdx (crashG (keepR (onK kl) (k + m)))) d) (k + m) = fx := ⟨_, rfl⟩
        rw [hfx]
        clear hfx hfl hcl18 hal hag hM18 hk18 HW17
        go_wp2_with fail
        refine HFL.out.mono ?_
        clear HFL
        rintro e w19 ⟨rfl, hM19, hk19⟩
        have HW19 := Lib.hid ((HW18.out.keep hM19 hk19).shrink HW.out HX1.out)
        have g7 : ((k : Int) + (m : Int) != (k : Int) + (m : Int)) = false := by simp
        clear hM19 hk19 HW18 hw1
        go_wp2_with fail
        exact ⟨⟨i + 1, zo, E, hn, _, o', T', by omega, rfl, by go_num, HZO, HAG, HW19⟩, by simp [intOf]; omega⟩
      · have e2 : decide ((tot : Int) ≥ (k : Int)) = false := decide_eq_false (by omega)
        have e1 : decide (k ≤ tot) = false := decide_eq_false hl
        have hh := HI.out.miss (hn := hn) (on := onK kl) (ks := keepR (onK kl) (k + m)) k1 (by omega) HZ.out HS2.out HM.out.1 HM.out.2.1 HM.out.2.2 (by rw [HEZ.out.2]; exact HEE.out) HOKN.out (fun d hd => keepR_at hd) (by rw [HTOT.out]; exact hl)
        rw [HEZ.out.1, HEZ.out.2] at hh
        obtain ⟨es, V, v1, v2, v3⟩ := cal_find hh.1.cal HS2.out HZ.out hh.2 hh.1.oth
        rw [hh.1.hd] at v1
        have hfd := hfind_any HW13.out.mid V
        rw [v1, v2, v3] at hfd
        unfold hdC at hfd
        have HFD := Lib.hid hfd
        have HAG := Lib.hid hh.1
        clear V v1 v2 v3 hfd hh hl
        go_wp2_with fail
        refine HFD.out.mono ?_
        clear HFD
        rintro e w14 ⟨rfl, hb14⟩
        have b19 := BoxAt.new w14 #[.int .u64 (Eo : Int), .int .i64 (ho.p : Int), .int .u64 (ho.g : Int), .int .i64 (ho.ct : Int), .int .i64 (ho.sz : Int)] 26
        have hb15 := hb14.alloc hb14.size (.cells #[.int .u64 (Eo : Int), .int .i64 (ho.p : Int), .int .u64 (ho.g : Int), .int .i64 (ho.ct : Int), .int .i64 (ho.sz : Int)] 26)
        obtain ⟨w15, hw15⟩ : ∃ w15, w14.alloc (.cells #[.int .u64 (Eo : Int), .int .i64 (ho.p : Int), .int .u64 (ho.g : Int), .int .i64 (ho.ct : Int), .int .i64 (ho.sz : Int)] 26) = w15 := ⟨_, rfl⟩
        obtain ⟨q19, hq19⟩ : ∃ q19, w14.heap.size = q19 := ⟨_, rfl⟩
        rw [hw15] at b19 hb15
        rw [hq19] at b19
        have HW15 := Lib.hid ((HW13.out.below hb15).shrink HW.out HX1.out)
        clear hb14 hb15 HW13 B13
        have x0 := b19.cell 0
        have x1 := b19.cell 1
        have x2 := b19.cell 2
        have x3 := b19.cell 3
        have x4 := b19.cell 4
        have z0 := HW15.out.old.cell 0
        have z1 := HW15.out.old.cell 1
        have z2 := HW15.out.old.cell 2
        have z3 := HW15.out.old.cell 3
        have z4 := HW15.out.old.cell 4
        have gk := HW15.out.geo.cell 0
        clear b19
        go_wp2_with fail
        exact ⟨⟨i + 1, z, Eo, ho, _, _, _, by omega, rfl, by go_num, HZ, HAG, HW15⟩, by simp [intOf]; omega⟩
    · have p2 : ¬ (i : Int) < (n4 : Int) := by omega
      have HR16 : Hid (RdL BoolR 1 (fun _ => True) w11 none 0 []) := Lib.hid RdL.nil
      obtain ⟨kl, hkl⟩ : ∃ kl : List Bool, [] = kl := ⟨_, rfl⟩
      obtain ⟨c16, hc16⟩ : ∃ c16 : Nat, 0 = c16 := ⟨_, rfl⟩
      rw [hkl] at HR16
      clear hkl hc16
      have hkp := hkept_any (c := 0) (N := k + m) HR16 (by omega)
      rw [HCS.out] at hkp
      have HKP := Lib.hid hkp
      clear hkp
      go_wp2_with fail
      refine HKP.out.mono ?_
      clear HKP
      rintro e w12 ⟨A12, c12, rfl, hr12, hb12⟩
      have hW12 := HW11.out.grow hb12
      have hcl : ∀ st ∈ sts.mapIdx (putQ s k (k + m) (hRef zo E) (hdT hn)), st.cache.length < 1000000 := fun st hst => by
        have := cache_mapIdx (c := 900000) HI.out.cal.cache st hst
        omega
      have hr12 : RdL BoolsR 1 (fun j => w11.heap.size ≤ j ∧ j < w12.heap.size) w12 A12 (k + m) (keepR (onK kl) (k + m)) := RdL.bound BoolsR.stable hr12
      have HCR := Lib.hid (crash_x (c := c12) hW12.mid hcl hr12 (fun j hj => .inr hj))
      have HW12 := Lib.hid hW12
      have B12 := Lib.hid (B11.out.below hb12)
      obtain ⟨tot, htot⟩ : ∃ tot, cntP (onK kl) (k + m) = tot := ⟨_, rfl⟩
      rw [htot]
      have HTOT := Lib.hid htot
      clear hW12 hcl hr12 hb12 htot
      go_wp2_with fail
      refine HCR.out.mono ?_
      clear HCR
      rintro e w13 ⟨rfl, hM13, hk13⟩
      have HW13 := Lib.hid ((HW12.out.keep hM13 hk13).shrink HW11.out (fun j hj => .inl hj))
      have B13 := Lib.hid (hk13.box B12.out (.inl HX15.out))
      have hcal := HI.out.cal.tear (z := zo) (E := E) (hd := hn) (on := onK kl) (ks := keepR (onK kl) (k + m)) HZO.out HS2.out HEE.out HOKN.out HFR.out (fun d hd => keepR_at hd)
      have HCAL := Lib.hid hcal
      clear hM13 hk13 hcal HW12 B12
      by_cases hl : k ≤ tot
      · have e2 : decide ((tot : Int) ≥ (k : Int)) = true := decide_eq_true (by omega)
        have e1 : decide (k ≤ tot) = true := decide_eq_true hl
        have hh := HI.out.hit (on := onK kl) k1 HZ.out HM.out.1 (by rw [HTOT.out]; exact hl)
        rw [HEZ.out.1, HEZ.out.2] at hh
        obtain ⟨es, V, v1, v2, v3⟩ := cal_find HCAL.out HS2.out HZO.out hh.1 hh.2
        rw [show updT T zo E hn zo E = hn by unfold updT; rw [if_pos ⟨rfl, rfl⟩]] at v1
        have hfd := hfind_any HW13.out.mid V
        rw [v1, v2, v3] at hfd
        unfold hdC at hfd
        have HFD := Lib.hid hfd
        have HH := Lib.hid hh.1.1
        clear V v1 v2 v3 hfd hh hl
        go_wp2_with fail
        refine HFD.out.mono ?_
        clear HFD
        rintro e w14 ⟨rfl, hb14⟩
        have b19 := BoxAt.new w14 #[.int .u64 (E : Int), .int .i64 (hn.p : Int), .int .u64 (hn.g : Int), .int .i64 (hn.ct : Int), .int .i64 (hn.sz : Int)] 26
        have hb15 := hb14.alloc hb14.size (.cells #[.int .u64 (E : Int), .int .i64 (hn.p : Int), .int .u64 (hn.g : Int), .int .i64 (hn.ct : Int), .int .i64 (hn.sz : Int)] 26)
        obtain ⟨w15, hw15⟩ : ∃ w15, w14.alloc (.cells #[.int .u64 (E : Int), .int .i64 (hn.p : Int), .int .u64 (hn.g : Int), .int .i64 (hn.ct : Int), .int .i64 (hn.sz : Int)] 26) = w15 := ⟨_, rfl⟩
        obtain ⟨q19, hq19⟩ : ∃ q19, w14.heap.size = q19 := ⟨_, rfl⟩
        rw [hw15] at b19 hb15
        rw [hq19] at b19
        have HW15 := Lib.hid (HW13.out.below hb15)
        have B15 := Lib.hid (B13.out.below hb15)
        clear hb14 hb15 HW13 B13
        have x0 := b19.cell 0
        have x1 := b19.cell 1
        have x2 := b19.cell 2
        have x3 := b19.cell 3
        have x4 := b19.cell 4
        have y0 := B15.out.cell 0
        have y1 := B15.out.cell 1
        have y2 := B15.out.cell 2
        have y3 := B15.out.cell 3
        have y4 := B15.out.cell 4
        have z0 := HW15.out.old.cell 0
        have z1 := HW15.out.old.cell 1
        have z2 := HW15.out.old.cell 2
        have z3 := HW15.out.old.cell 3
        have z4 := HW15.out.old.cell 4
        have f0 := HW15.out.old.frozen 0
        have f1 := HW15.out.old.frozen 1
        have f2 := HW15.out.old.frozen 2
        have f3 := HW15.out.old.frozen 3
        have f4 := HW15.out.old.frozen 4
        have gk := HW15.out.geo.cell 0
        have hw1 := HWZ.out
        have HW16 := Lib.hid (HW15.out.store E hn)
        have B16 := Lib.hid (AgW.box5 B15.out HNE.out (.int .u64 (E : Int)) (.int .i64 (hn.p : Int)) (.int .u64 (hn.g : Int)) (.int .i64 (hn.ct : Int)) (.int .i64 (hn.sz : Int)))
        obtain ⟨w16, hw16⟩ : ∃ w16, ((((w15.setCell ⟨q7, 0, none⟩ (.int .u64 (E : Int))).setCell ⟨q7, 1, none⟩ (.int .i64 (hn.p : Int))).setCell ⟨q7, 2, none⟩ (.int .u64 (hn.g : Int))).setCell ⟨q7, 3, none⟩ (.int .i64 (hn.ct : Int))).setCell ⟨q7, 4, none⟩ (.int .i64 (hn.sz : Int)) = w16 := ⟨_, rfl⟩
        rw [hw16] at HW16 B16
        have e0 := B16.out.cell 0
        have hrf := href_any (w := w16) (slot := (zo : Int)) (ep := E)
        rw [show supC (zo : Int) E = #[.int .u8 1, .int .i64 (zo : Int), .int .u64 ((E * 1048576 : Nat) : Int)] from if_pos ⟨decide_eq_true (by have := HZO.out; omega), HEE.out⟩] at hrf
        have HRF := Lib.hid hrf
        clear hrf b19
        go_wp2_with fail
        refine HRF.out.mono ?_
        clear HRF
        rintro e w17 ⟨rfl, hb17⟩
        have HW17 := Lib.hid (HW16.out.below hb17)
        have hmd := mend_x (g := fun d => decide (tearO o zo E (onK kl) zo d = some E)) (r := hRef zo E) (xs := hdT hn) HW17.out.mid (hRef_ok (by have := HS2.out; have := HZO.out; omega)) (hRef_g (by have := HEE.out; omega)) (hdT_byt hn) (by rw [hdT_len]; omega) HCAL.out.cache HH.out (by
          have hv := (HCAL.out.v zo HZO.out).view (by have := HS2.out; have := HZO.out; omega) (by have := HS8.out; omega) (by omega) (by omega) E
          rw [show updT T zo E hn zo E = hn by unfold updT; rw [if_pos ⟨rfl, rfl⟩]] at hv
          exact hv)
        rw [show refC (hRef zo E) = #[.int .u8 1, .int .i64 (zo : Int), .int .u64 ((E * 1048576 : Nat) : Int)] from rfl] at hmd
        have HMD := Lib.hid hmd
        clear hmd hb17 hw15 hq19 hw16 HW16 B16 HW15 B15 x0 x1 x2 x3 x4 y0 y1 y2 y3 y4 z0 z1 z2 z3 z4 f0 f1 f2 f3 f4 gk e0
        go_wp2_with fail
        refine HMD.out.mono ?_
        clear HMD
        rintro e w18 ⟨rfl, hM18, hk18⟩
        have HW18 := Lib.hid (HW17.out.keep hM18 hk18)
        obtain ⟨o', T', hag⟩ := HI.out.mend (hn := hn) (on := onK kl) (ks := keepR (onK kl) (k + m)) k1 (by omega) HZ.out HS2.out HM.out.1 HM.out.2.1 HM.out.2.2 (by rw [HEZ.out.2]; exact HEE.out) HOKN.out (fun d hd => keepR_at hd)
        rw [HEZ.out.1, HEZ.out.2] at hag
        have HAG := Lib.hid hag
        have hal := AgI.alive hag
        have hcl18 := AgI.mcache (g := fun d => decide (tearO o zo E (onK kl) zo d = some E)) (n := s) (k := k) (N := k + m) (r := hRef zo E) (xs := hdT hn) HCAL.out.cache
        have hfl := flush_x HW18.out.mid hcl18
        rw [cnt_live hal, HW18.out.mid.len, HCS.out] at hfl
        have HFL := Lib.hid hfl
        obtain ⟨fx, hfx⟩ : ∃ fx : Nat, cntP (fun d => !decide (tearO o zo E (onK kl) zo d = some E) && !deadL ((sts.mapIdx (putQ s k (k + m) (hRef zo E) (hdT hn))).mapIdx (crashG (keepR (onK kl) (k + m)))) d) (k + m) = fx := ⟨_, rfl⟩
        rw [hfx]
        clear hfx hfl hcl18 hal hag hM18 hk18 HW17
        go_wp2_with fail
        refine HFL.out.mono ?_
        clear HFL
        rintro e w19 ⟨rfl, hM19, hk19⟩
        have HW19 := Lib.hid ((HW18.out.keep hM19 hk19).shrink HW.out HX1.out)
        have g7 : ((k : Int) + (m : Int) != (k : Int) + (m : Int)) = false := by simp
        clear hM19 hk19 HW18 hw1
        go_wp2_with fail
        exact ⟨⟨i + 1, zo, E, hn, _, o', T', by omega, rfl, by go_num, HZO, HAG, HW19⟩, by simp [intOf]; omega⟩
      · have e2 : decide ((tot : Int) ≥ (k : Int)) = false := decide_eq_false (by omega)
        have e1 : decide (k ≤ tot) = false := decide_eq_false hl
        have hh := HI.out.miss (hn := hn) (on := onK kl) (ks := keepR (onK kl) (k + m)) k1 (by omega) HZ.out HS2.out HM.out.1 HM.out.2.1 HM.out.2.2 (by rw [HEZ.out.2]; exact HEE.out) HOKN.out (fun d hd => keepR_at hd) (by rw [HTOT.out]; exact hl)
        rw [HEZ.out.1, HEZ.out.2] at hh
        obtain ⟨es, V, v1, v2, v3⟩ := cal_find hh.1.cal HS2.out HZ.out hh.2 hh.1.oth
        rw [hh.1.hd] at v1
        have hfd := hfind_any HW13.out.mid V
        rw [v1, v2, v3] at hfd
        unfold hdC at hfd
        have HFD := Lib.hid hfd
        have HAG := Lib.hid hh.1
        clear V v1 v2 v3 hfd hh hl
        go_wp2_with fail
        refine HFD.out.mono ?_
        clear HFD
        rintro e w14 ⟨rfl, hb14⟩
        have b19 := BoxAt.new w14 #[.int .u64 (Eo : Int), .int .i64 (ho.p : Int), .int .u64 (ho.g : Int), .int .i64 (ho.ct : Int), .int .i64 (ho.sz : Int)] 26
        have hb15 := hb14.alloc hb14.size (.cells #[.int .u64 (Eo : Int), .int .i64 (ho.p : Int), .int .u64 (ho.g : Int), .int .i64 (ho.ct : Int), .int .i64 (ho.sz : Int)] 26)
        obtain ⟨w15, hw15⟩ : ∃ w15, w14.alloc (.cells #[.int .u64 (Eo : Int), .int .i64 (ho.p : Int), .int .u64 (ho.g : Int), .int .i64 (ho.ct : Int), .int .i64 (ho.sz : Int)] 26) = w15 := ⟨_, rfl⟩
        obtain ⟨q19, hq19⟩ : ∃ q19, w14.heap.size = q19 := ⟨_, rfl⟩
        rw [hw15] at b19 hb15
        rw [hq19] at b19
        have HW15 := Lib.hid ((HW13.out.below hb15).shrink HW.out HX1.out)
        clear hb14 hb15 HW13 B13
        have x0 := b19.cell 0
        have x1 := b19.cell 1
        have x2 := b19.cell 2
        have x3 := b19.cell 3
        have x4 := b19.cell 4
        have z0 := HW15.out.old.cell 0
        have z1 := HW15.out.old.cell 1
        have z2 := HW15.out.old.cell 2
        have z3 := HW15.out.old.cell 3
        have z4 := HW15.out.old.cell 4
        have gk := HW15.out.geo.cell 0
        clear b19
        go_wp2_with fail
        exact ⟨⟨i + 1, z, Eo, ho, _, _, _, by omega, rfl, by go_num, HZ, HAG, HW15⟩, by simp [intOf]; omega⟩
  obtain rfl : i = n3 := by omega
  have p1 : ¬ (i : Int) < (i : Int) := by omega
  have HB := Lib.hid HW.out.mid.bel
  go_wp2_with fail
  refine heads_any.mono ?_
  rintro e wz ⟨rfl, hbz⟩
  go_wp2_with fail
  go_ret
  exact ⟨rfl, HB.out.trans (hbz.mono HB.out.size)⟩
end
section
open Go.ChangeShapes Go.WideShapes Go.ChangeAt Go.Deep
theorem u64_bounds {z : Int} (h : (Lit.int .u64 z).wf = true) : 0 ≤ z ∧ z < 18446744073709551616 := by
  simp [Lit.wf, IntKind.min, IntKind.max, IntKind.bits, IntKind.signed] at h
  omega
set_option maxRecDepth 100000 in
theorem open_geo {H : Type} {enc : TypeId × Value → H} {w : World} {base b0 : Nat} {spare : Nat → Bool} {held : Bool} {r : Reach} {v : Value} {d : DataW H} {ps : List MemPlace}
    (hval : Value.okWide Tryz.prog w r b0 31 v) (h : DataW.Trod enc Tryz.prog w base spare held 31 v d ps) : ∃ k m s : Int, v = .agg #[.int .i64 k, .int .i64 m, .int .i64 s] := by
  obtain ⟨cs, rfl, hsz⟩ := okWide_struct Tryz.underlying31 hval
  obtain ⟨fuel, hx⟩ := h
  have h5 : cs.size = 3 := hsz.trans (by kernel_rfl)
  have hl : (Value.agg cs).cells.toList.length = 3 := by simpa [Value.cells] using h5
  obtain ⟨xs, n, _, _, hlen, hxl, hf⟩ := DataW.trod_struct Tryz.underlying31 hx
  have e0 : (Value.agg cs).cells.toList = cs.toList := rfl
  rw [e0] at hf hl
  match hc : cs.toList, hl with
  | [c0, c1, c2], _ =>
    rw [hc] at hf
    have f0 := hf 0 _ rfl
    have f1 := hf 1 _ rfl
    have f2 := hf 2 _ rfl
    have k1 : Tryz.prog.cellsOf 3 = 1 := by kernel_rfl
    have hx3 : xs.length = 3 := hxl
    simp only [List.getElem_toArray, List.getElem_cons_zero, List.getElem_cons_succ, k1, List.drop_zero, List.drop_succ_cons, List.take_succ_cons, List.take_zero] at f0 f1 f2
    rw [List.getElem?_eq_getElem (by omega)] at f0 f1 f2
    obtain ⟨s, e1, _, _⟩ := DataW.trod_int Tryz.underlying3 f0
    obtain ⟨t, e2, _, _⟩ := DataW.trod_int Tryz.underlying3 f1
    obtain ⟨u, e3, _, _⟩ := DataW.trod_int Tryz.underlying3 f2
    simp only [List.cons.injEq, and_true] at e1 e2 e3
    subst e1; subst e2; subst e3
    refine ⟨s, t, u, ?_⟩
    rw [show cs = cs.toList.toArray by simp, hc]
end
section
open Go.ChangeShapes Go.WideShapes Go.ChangeAt Go.Deep
end
section
open Go.ChangeShapes Go.WideShapes Go.ChangeAt Go.Deep
set_option maxRecDepth 100000 in
theorem open_super {H : Type} {enc : TypeId × Value → H} {w : World} {base b0 : Nat} {spare : Nat → Bool} {held : Bool} {r : Reach} {v : Value} {d : DataW H} {ps : List MemPlace}
    (hval : Value.okWide Tryz.prog w r b0 26 v) (h : DataW.Trod enc Tryz.prog w base spare held 26 v d ps) : ∃ (E : Nat) (p : Int) (g : Nat) (c s : Int), v = .agg #[.int .u64 (E : Int), .int .i64 p, .int .u64 (g : Int), .int .i64 c, .int .i64 s] ∧ Hid (E < 2 ^ 64) ∧ Hid (g < 2 ^ 64) := by
  obtain ⟨cs, rfl, hsz⟩ := okWide_struct Tryz.underlying26 hval
  obtain ⟨fuel, hx⟩ := h
  have h5 : cs.size = 5 := hsz.trans (by kernel_rfl)
  have hl : (Value.agg cs).cells.toList.length = 5 := by simpa [Value.cells] using h5
  obtain ⟨xs, n, _, _, hlen, hxl, hf⟩ := DataW.trod_struct Tryz.underlying26 hx
  have e0 : (Value.agg cs).cells.toList = cs.toList := rfl
  rw [e0] at hf hl
  match hc : cs.toList, hl with
  | [c0, c1, c2, c3, c4], _ =>
    rw [hc] at hf
    have f0 := hf 0 _ rfl
    have f1 := hf 1 _ rfl
    have k2 : Tryz.prog.cellsOf 22 = 1 := by kernel_rfl
    have k1 : Tryz.prog.cellsOf 3 = 1 := by kernel_rfl
    have k4 : Tryz.prog.cellsOf 24 = 4 := by kernel_rfl
    have hx3 : xs.length = 2 := hxl
    simp only [List.getElem_toArray, List.getElem_cons_zero, List.getElem_cons_succ, k1, k2, k4, List.drop_zero, List.drop_succ_cons, List.take_succ_cons, List.take_zero] at f0 f1
    rw [List.getElem?_eq_getElem (by omega)] at f0 f1
    obtain ⟨s, e1, _, hs⟩ := DataW.trod_int Tryz.underlying22 f0
    obtain ⟨ys, n2, _, _, hlen2, hyl, hg⟩ := DataW.trod_struct Tryz.underlying24 f1
    have g0 := hg 0 _ rfl
    have g1 := hg 1 _ rfl
    have g2 := hg 2 _ rfl
    have g3 := hg 3 _ rfl
    have hy3 : ys.length = 4 := hyl
    simp only [List.getElem_toArray, List.getElem_cons_zero, List.getElem_cons_succ, k1, k2, List.drop_zero, List.drop_succ_cons, List.take_succ_cons, List.take_zero] at g0 g1 g2 g3
    rw [List.getElem?_eq_getElem (by omega)] at g0 g1 g2 g3
    obtain ⟨p, e2, _, _⟩ := DataW.trod_int Tryz.underlying3 g0
    obtain ⟨t, e3, _, ht⟩ := DataW.trod_int Tryz.underlying22 g1
    obtain ⟨u, e4, _, _⟩ := DataW.trod_int Tryz.underlying3 g2
    obtain ⟨x, e5, _, _⟩ := DataW.trod_int Tryz.underlying3 g3
    have hsb := u64_bounds hs
    have htb := u64_bounds ht
    simp only [List.cons.injEq, and_true] at e1 e2 e3 e4 e5
    subst e1; subst e2; subst e3; subst e4; subst e5
    refine ⟨s.toNat, p, t.toNat, u, x, ?_, Lib.hid (by omega), Lib.hid (by omega)⟩
    rw [Int.toNat_of_nonneg htb.1, Int.toNat_of_nonneg hsb.1, show cs = cs.toList.toArray by simp, hc]
end
section
open Go.ChangeShapes Go.WideShapes Go.ChangeAt Go.Deep
theorem sl_scr : Tryz.prog.underlying 56 = some (.slice 24) := by kernel_rfl
theorem opens_boolsS : Opens Tryz.prog 45 BoolsR 1 :=
  ⟨by kernel_rfl, by omega, fun H enc w base spare held fuel cs x _ hx => by
    obtain ⟨A, n, c, xs, rfl, _, _, hr⟩ := opens_slice sl_bool opens_bool hx
    exact ⟨xs, A, n, c, rfl, hr⟩⟩
set_option maxRecDepth 100000 in
theorem opens_scr : Opens Tryz.prog 24 ScR 4 := by
  refine ⟨by kernel_rfl, by omega, fun H enc w base spare held fuel cs x hl hx => ?_⟩
  obtain ⟨xs, n, _, _, hlen, hxl, hf⟩ := DataW.trod_struct Tryz.underlying24 hx
  match cs, hl with
  | [c0, c1, c2, c3], _ =>
    have f0 := hf 0 _ rfl
    have f1 := hf 1 _ rfl
    have f2 := hf 2 _ rfl
    have f3 := hf 3 _ rfl
    have k1 : Tryz.prog.cellsOf 3 = 1 := by kernel_rfl
    have k2 : Tryz.prog.cellsOf 22 = 1 := by kernel_rfl
    have hx3 : xs.length = 4 := hxl
    simp only [List.getElem_toArray, List.getElem_cons_zero, List.getElem_cons_succ, k1, k2, List.drop_zero, List.drop_succ_cons, List.take_succ_cons, List.take_zero] at f0 f1 f2 f3
    rw [List.getElem?_eq_getElem (by omega)] at f0 f1 f2 f3
    obtain ⟨g0, e0, _, _⟩ := DataW.trod_int Tryz.underlying3 f0
    obtain ⟨g1, e1, _, h1⟩ := DataW.trod_int Tryz.underlying22 f1
    obtain ⟨g2, e2, _, _⟩ := DataW.trod_int Tryz.underlying3 f2
    obtain ⟨g3, e3, _, _⟩ := DataW.trod_int Tryz.underlying3 f3
    have hb := u64_bounds h1
    simp only [List.cons.injEq, and_true] at e0 e1 e2 e3
    subst e0; subst e1; subst e2; subst e3
    refine ⟨⟨g0, g1.toNat, g2, g3⟩, ?_, Lib.hid (by show g1.toNat < _; omega)⟩
    show [_, _, _, _] = [_, Value.int .u64 (g1.toNat : Int), _, _]
    rw [Int.toNat_of_nonneg hb.1]
end
end Go.Proofs.YtcliejdiaohamaaGreat
