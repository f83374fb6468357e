/-
  A long text is got: scroll.Get.
  The document's count of a long text's stripes; lists of ints that are the same.
  Law 16's page's example.
  What a region's operations keep may be sharpened on the way.
  The document's count of a value's stripes.
  A value's stripes as the document names them.
  May a blob be, as the document says?
  A number put as few bytes.
  A value's name as bytes.
  Law 15's page's example.
  BlobBack, walked.
  A long text on the drives, kept; scroll.Put either way.
  ScrollBack, walked.
  One stripe of a long text loses its places, drive by drive.
  ScrollLost, walked.
  A geometry among the arguments; bounds of whole numbers.
  A base and a blob among the arguments.
-/
import Derived.Test.YtcliejdiaohamaaGreatSo15
import Derived.Test.YtcliejdiaohamaaGreatSo8
import Derived.Test.YtcliejdiaohamaaGreatSo14
import Derived.Test.YtcliejdiaohamaaGreatSo13
import Derived.Test.YtcliejdiaohamaaGreatSo9
import Derived.Test.YtcliejdiaohamaaGreatSo12
import Derived.Test.YtcliejdiaohamaaGreatSo2
import Derived.Test.YtcliejdiaohamaaGreatSo3
import Derived.Test.YtcliejdiaohamaaGreatSo4
import Derived.Test.YtcliejdiaohamaaGreatSo7
set_option linter.unusedSimpArgs false
set_option linter.unusedVariables false
namespace Go.Proofs.YtcliejdiaohamaaGreat
open Go.RowKit Go.Cib
attribute [local go_sem] cell_set Later.cell Later.frozen Grw.cell Grw.frozen
attribute [local go_sem ↓] run_min_b
/-- Two slices that grow, of bytes and of ints, and a box. -/
structure Trio (b : Nat) (w : World) (vo vl : Value) (no nl : Nat) (ob : List Nat) (ll : List Int) (qr : Nat) (cs : Array Value) : Prop where
  oo : OwnL ByR 5 1 b (fun _ => True) w vo no ob
  ol : OwnL IntR 3 1 b (fun _ => True) w vl nl ll
  ne : ∀ g, vo.ownBlock = some g → vl.ownBlock ≠ some g
  n1 : vo.ownBlock ≠ some qr
  n2 : vl.ownBlock ≠ some qr
  bx : BoxAt w qr cs
section
variable {b no nl qr : Nat} {w w' : World} {vo vl vo' vl' : Value} {ob : List Nat} {ll : List Int} {cs : Array Value}
theorem Trio.below (h : Trio b w vo vl no nl ob ll qr cs) (hb : Below w.heap.size w w') : Trio b w' vo vl no nl ob ll qr cs :=
  ⟨h.oo.keep ByR.stable hb, h.ol.keep IntR.stable hb, h.ne, h.n1, h.n2, h.bx.below hb⟩
theorem Trio.pushL {nl' : Nat} {ll' : List Int} (h : Trio b w vo vl no nl ob ll qr cs) (u : Grw vl.ownBlock w) (h1 : OwnL IntR 3 1 b (fun _ => True) u.to vl' nl' ll') (hat : vl'.ownBlock = vl.ownBlock ∨ vl'.ownBlock = some (w.heap.size + 1)) : Trio b u.to vo vl' no nl' ob ll' qr cs := by
  have hlo := h.oo.lt
  have hlq := h.bx.lt
  have hK : KpX (fun j => j < w.heap.size ∧ some j ≠ vl.ownBlock) w u.to := ⟨fun j hj => u.ok.block j hj.1 hj.2, u.ok.size⟩
  refine ⟨?_, h1, fun g hg => ?_, h.n1, ?_, h.bx.keep (u.ok.block qr hlq (fun e => h.n2 e.symm))⟩
  · obtain ⟨css, k1, k2, k3, k4, k5⟩ := h.oo
    refine ⟨css, ⟨k1.1, ?_⟩, k2, k3, k4, fun i c x hc hx => k5 i c x hc hx⟩
    rcases k1.2 with h2 | ⟨g, cap, cur, rfl, g1, g2, g3⟩
    · exact .inl h2
    · exact .inr ⟨g, cap, cur, rfl, g1, (u.ok.block g (hlo g rfl).2 (fun e => h.ne g rfl e.symm)).trans g2, g3⟩
  · rcases hat with e | e
    · rw [e]; exact h.ne g hg
    · rw [e]; intro e2
      have := (hlo g hg).2
      have := Option.some.inj e2
      omega
  · rcases hat with e | e
    · rw [e]; exact h.n2
    · rw [e]; intro e2
      have := Option.some.inj e2
      omega
theorem Trio.pushO {no' : Nat} {ob' : List Nat} (h : Trio b w vo vl no nl ob ll qr cs) (hg : w.grownBy w' vo.ownBlock) (h1 : OwnL ByR 5 1 b (fun _ => True) w' vo' no' ob') (hat : vo'.ownBlock = vo.ownBlock ∨ vo'.ownBlock = some w.heap.size) : Trio b w' vo' vl no' nl ob' ll qr cs := by
  have hll := h.ol.lt
  have hlq := h.bx.lt
  refine ⟨h1, ?_, fun g hg2 => ?_, ?_, h.n2, h.bx.keep (hg.block qr hlq (fun e => h.n1 e.symm))⟩
  · obtain ⟨css, k1, k2, k3, k4, k5⟩ := h.ol
    refine ⟨css, ⟨k1.1, ?_⟩, k2, k3, k4, fun i c x hc hx => k5 i c x hc hx⟩
    rcases k1.2 with h2 | ⟨g, cap, cur, rfl, g1, g2, g3⟩
    · exact .inl h2
    · exact .inr ⟨g, cap, cur, rfl, g1, (hg.block g (hll g rfl).2 (fun e => h.ne g e.symm rfl)).trans g2, g3⟩
  · intro e2
    rcases hat with e | e
    · rw [e] at hg2; exact h.ne g hg2 e2
    · rw [e] at hg2
      have := (hll g e2).2
      have := Option.some.inj hg2
      omega
  · rcases hat with e | e
    · rw [e]; exact h.n1
    · rw [e]; intro e2
      have := Option.some.inj e2
      omega
theorem Trio.setR {x y z : Value} {p g : Int} (h : Trio b w vo vl no nl ob ll qr #[.int .u8 4, .int .i64 p, .int .u64 g]) : Trio b (((w.setCell ⟨qr, 0, none⟩ x).setCell ⟨qr, 1, none⟩ y).setCell ⟨qr, 2, none⟩ z) vo vl no nl ob ll qr #[x, y, z] := by
  have hK : Keep (fun j => j = qr) w (((w.setCell ⟨qr, 0, none⟩ x).setCell ⟨qr, 1, none⟩ y).setCell ⟨qr, 2, none⟩ z) := (((Keep.refl (fun j => j = qr) w).setCell (p := ⟨qr, 0, none⟩) (fun _ => rfl) x).setCell (p := ⟨qr, 1, none⟩) (fun _ => rfl) y).setCell (p := ⟨qr, 2, none⟩) (fun _ => rfl) z
  have hK2 : KpX (fun j => j < w.heap.size ∧ j ≠ qr) w _ := ⟨fun j hj => hK.block j hj.1 hj.2, hK.size⟩
  refine ⟨?_, ?_, h.ne, h.n1, h.n2, ((h.bx.set 0 x).set 1 y).set 2 z⟩
  · obtain ⟨css, k1, k2, k3, k4, k5⟩ := h.oo
    refine ⟨css, ⟨k1.1, ?_⟩, k2, k3, k4, fun i c x hc hx => k5 i c x hc hx⟩
    have hlo := h.oo.lt
    have hn := h.n1
    rcases k1.2 with h2 | ⟨g, cap, cur, rfl, g1, g2, g3⟩
    · exact .inl h2
    · exact .inr ⟨g, cap, cur, rfl, g1, (hK.block g (hlo g rfl).2 (fun e => hn (by rw [e]; rfl))).trans g2, g3⟩
  · obtain ⟨css, k1, k2, k3, k4, k5⟩ := h.ol
    refine ⟨css, ⟨k1.1, ?_⟩, k2, k3, k4, fun i c x hc hx => k5 i c x hc hx⟩
    have hlo := h.ol.lt
    have hn := h.n2
    rcases k1.2 with h2 | ⟨g, cap, cur, rfl, g1, g2, g3⟩
    · exact .inl h2
    · exact .inr ⟨g, cap, cur, rfl, g1, (hK.block g (hlo g rfl).2 (fun e => hn (by rw [e]; rfl))).trans g2, g3⟩
end
theorem plL_succ (a i : Nat) : plL a (i + 1) = plL a i ++ [((a + i : Nat) : Int)] := by
  unfold plL
  rw [List.range_succ, List.map_append]; rfl
theorem sl_intA : SlTy Tryz.prog 46 3 (.int .i64 0) 1 8 := ⟨by kernel_rfl, by kernel_rfl, rfl, by decide⟩
def scCs (aa G M i : Nat) : Array Value := #[.int .u8 4, .int .i64 ((if i < M then aa + i else 0 : Nat) : Int), .int .u64 ((if i < M then G + i else 0 : Nat) : Int)]
def ScGE (w : World) (M size k N aa : Nat) (gs : Nat → Nat → Bool) (xs : List Nat) (e : Ending) (w' : World) : Prop := Below w.heap.size w w' ∧
  (((∃ i, i < M ∧ cntP (gs i) N < k) ∧ e = .returned (.tuple #[.slice none 0 0, .slice none 0 0, .int .i64 130])) ∨
   ((∀ i, i < M → k ≤ cntP (gs i) N) ∧ ∃ A c A2 c2, e = .returned (.tuple #[.slice A size c, .slice A2 M c2, .int .i64 0]) ∧ size ≤ c ∧ RdL ByR 1 (fun j => w.heap.size ≤ j) w' A size xs ∧ M ≤ c2 ∧ RdL IntR 1 (fun j => w.heap.size ≤ j) w' A2 M (plL aa M)))
section
variable {w0 w w' : World} {a cb bf k m n aa G size : Nat} {sts : List DSt} {gs : Nat → Nat → Bool} {xs : List Nat}
/-- An exit at the end, and what is so there. -/
def NormP (R : Act → World → Prop) : Exit → Act → World → Prop
  | .normal, a, w => R a w
  | _, _, _ => False
theorem NormP.le {R : Act → World → Prop} {Q : Exit → Act → World → Prop} (h : ∀ a w, R a w → Q .normal a w) : ∀ e a w, NormP R e a w → Q e a w
  | .normal, a, w, hr => h a w hr
  | .panic _, _, _, hr => hr.elim
  | .ret, _, _, hr => hr.elim
  | .outgrown, _, _, hr => hr.elim
  | .exit _, _, _, hr => hr.elim
  | .goto _, _, _, hr => hr.elim
theorem NormP.normal {R : Act → World → Prop} {a : Act} {w : World} (h : R a w) : NormP R .normal a w := h
/-- Behind a region that ends in one act, by two numbers. -/
theorem wp_two {P : Program} {c : Code} {Q : Exit → Act → World → Prop} {a : Act} {w : World} {f : Nat → Nat → Act} {F : World → Nat → Nat → Prop} (h : c.wp P (NormP (fun a' w' => ∃ x y, F w' x y ∧ a' = f x y)) a w) (hk : ∀ x y w', F w' x y → Q .normal (f x y) w') : c.wp P Q a w :=
  Code.wp_mono (NormP.le fun a' w' ⟨x, y, h1, h2⟩ => by rw [h2]; exact hk x y w' h1) h
def ScF (w1 w' : World) (size M qo ql : Nat) : Prop := Below w1.heap.size w1 w' ∧ OwnL ByR 5 1 w1.heap.size (fun _ => True) w' (.slice (some ⟨qo, 0, none⟩) 0 size) 0 [] ∧ OwnL IntR 3 1 w1.heap.size (fun _ => True) w' (.slice (some ⟨ql, 0, none⟩) 0 M) 0 [] ∧ qo ≠ ql
set_option maxRecDepth 100000 in
set_option maxHeartbeats 32000000 in
theorem scg_any (h : SMid w0 w a cb bf k m n sts) (hk20 : k ≤ 20) (hs : size ≤ 2000) (h4 : scN k size ≤ 400) (hp : aa + scN k size ≤ n) (hG : Hid (G + scN k size < 2 ^ 63)) (hx : Byt xs) (hl : xs.length = size) (hv : ∀ i, i < scN k size → Hds (gs i) k (k + m) (scRf aa G i) (scTx k aa G (scN k size) xs i) sts) :
    Calls Tryz.prog 45 #[.pointer (some ⟨a, 0, none⟩), .pointer (some ⟨cb, 0, none⟩), .agg (scC (aa : Int) (G : Int) (scN k size : Int) (size : Int))] w fun e w' => ScGE w (scN k size) size k (k + m) aa gs xs e w' := by
  have hk1 := h.k1
  have hkm := h.km
  have hn2 := h.n2
  have hb0 : Below w.heap.size w (w.alloc (.cells (scC (aa : Int) (G : Int) (scN k size : Int) (size : Int)) 24)) := (Below.refl _ _).alloc (Nat.le_refl _) _
  have bB := BoxAt.new w (scC (aa : Int) (G : Int) (scN k size : Int) (size : Int)) 24
  have hM1 := h.below hb0
  obtain ⟨w1, hw1⟩ : ∃ w1, w.alloc (.cells (scC (aa : Int) (G : Int) (scN k size : Int) (size : Int)) 24) = w1 := ⟨_, rfl⟩
  obtain ⟨q, hq⟩ : ∃ q, w.heap.size = q := ⟨_, rfl⟩
  rw [hw1] at hb0 bB hM1
  rw [hq] at bB
  have han := an_s hM1
  have hcn := fun (w2 : World) (hb : Below w1.heap.size w1 w2) => cn_any (hM1.cod.below hb)
  have hri := fun (w2 : World) (hb : Below w1.heap.size w1 w2) => scright_ok (hM1.cod.below hb) (x1 := (aa : Int)) (x2 := (G : Int)) (ct := scN k size) rfl h4 (size := size) (by omega)
  have HMU := Lib.hid (fun i (hi : i < scN k size) => scN_mul hk1 hi)
  have HALL := Lib.hid (scN_all (size := size) hk1)
  have hMp := scN_pos k size
  have HLE := Lib.hid (scN_le k size)
  obtain ⟨M, hM⟩ : ∃ M, scN k size = M := ⟨_, rfl⟩
  obtain ⟨N, hN⟩ : ∃ N, k + m = N := ⟨_, rfl⟩
  rw [hN] at han hcn
  rw [hM] at hri hw1 bB hG hp h4 hv HMU HALL HLE hMp ⊢
  have e0 : ((N : Int) == 0) = false := by simp; omega
  unfold scC at hri
  have HCN := Lib.hid hcn
  have HRI := Lib.hid hri
  have HB0 := Lib.hid hb0
  have BB := Lib.hid bB
  have HM1 := Lib.hid hM1
  have HV := Lib.hid hv
  have HN := Lib.hid hN
  have c0 : w1.cell? ⟨q, 0, none⟩ = some (.int .i64 (aa : Int)) ∧ w1.cell? ⟨q, 1, none⟩ = some (.int .u64 (G : Int)) ∧ w1.cell? ⟨q, 2, none⟩ = some (.int .i64 (M : Int)) ∧ w1.cell? ⟨q, 3, none⟩ = some (.int .i64 (size : Int)) := ⟨bB.cell 0, bB.cell 1, bB.cell 2, bB.cell 3⟩
  have HQS := Lib.hid (show w.heap.size = q ∧ q < w1.heap.size from ⟨hq, bB.lt⟩)
  clear h hM1 hb0 bB hcn hri hv hM hN
  unfold scC at hw1 ⊢
  go_enter Tryz.func45, Tryz.ntmps45
  go_wp2_with fail
  go_step3
  go_wp2_with fail
  refine han.mono ?_
  clear han hw1 c0 hq
  rintro e w2 ⟨rfl, hb2⟩
  have hcn2 := HCN.out w2 hb2
  have HB2 := Lib.hid hb2
  clear hb2
  go_wp2_with fail
  refine hcn2.mono ?_
  clear hcn2
  rintro e w3 ⟨rfl, hb3⟩
  have HB3 := Lib.hid (HB2.out.trans (hb3.mono HB2.out.size))
  have hri3 := HRI.out w3 HB3.out
  have bB3 := BB.out.below HB3.out
  have c3 : w3.cell? ⟨q, 0, none⟩ = some (.int .i64 (aa : Int)) ∧ w3.cell? ⟨q, 1, none⟩ = some (.int .u64 (G : Int)) ∧ w3.cell? ⟨q, 2, none⟩ = some (.int .i64 (M : Int)) ∧ w3.cell? ⟨q, 3, none⟩ = some (.int .i64 (size : Int)) := ⟨bB3.cell 0, bB3.cell 1, bB3.cell 2, bB3.cell 3⟩
  clear hb3 HB2 bB3
  go_wp2_with fail
  refine hri3.mono ?_
  clear hri3 c3
  rintro e w4 ⟨rfl, hb4⟩
  have HB4 := Lib.hid (HB3.out.trans (hb4.mono HB3.out.size))
  have bB4 := BB.out.below HB4.out
  have HQ4 := Lib.hid bB4.lt
  have BB4 := Lib.hid bB4
  have hd : Below w4.heap.size w4 w4.drew := (Below.refl _ _).drew
  have HSF : Hid (∀ w', Below w4.heap.size w4 w' → w'.cell? ⟨q, 2, none⟩ = some (.int .i64 (M : Int)) ∧ w'.cell? ⟨q, 3, none⟩ = some (.int .i64 (size : Int))) := Lib.hid fun w' hb => ⟨(BB4.out.below hb).cell 2, (BB4.out.below hb).cell 3⟩
  have hmk1 := fun w => make0 size (by omega) w
  have hmk2 := fun w => makeInts0 M (by omega) w
  have hx1 : Below w4.heap.size w4 (w4.drew.alloc (.cells (Array.replicate size (.int .u8 0)) 5)) := hd.alloc (Nat.le_refl _) _
  have hx2 : Below w4.heap.size w4 ((w4.drew.alloc (.cells (Array.replicate size (.int .u8 0)) 5)).alloc (.cells (Array.replicate M (.int .i64 0)) 3)) := hx1.alloc (by simp only [World.size_alloc]; exact Nat.le_succ _) _
  have hy1 : Below w4.heap.size w4 (w4.drew.alloc (.cells (Array.replicate M (.int .i64 0)) 3)) := hd.alloc (Nat.le_refl _) _
  have hy2 : Below w4.heap.size w4 ((w4.drew.alloc (.cells (Array.replicate M (.int .i64 0)) 3)).alloc (.cells (Array.replicate size (.int .u8 0)) 5)) := hy1.alloc (by simp only [World.size_alloc]; exact Nat.le_succ _) _
  clear hb4 HB3 bB4
  go_wp2_with fail
  have HS4 := Lib.hid HB4.out.size
  apply wp_two (F := fun w' qo ql => ScF w1 w' size M qo ql)
  · skip
    refine wp_region_held_drew (S := fun w' => w'.cell? ⟨q, 2, none⟩ = some (.int .i64 (M : Int)) ∧ w'.cell? ⟨q, 3, none⟩ = some (.int .i64 (size : Int))) (by kernel_rfl) (by first | exact HSF.out _ hd | exact HSF.out _ hx1 | exact HSF.out _ hx2 | exact HSF.out _ hy1 | exact HSF.out _ hy2) (fun hHeld => ?_)
    refine wpAnyH_take (i := 0) (v := ?_) rfl (by kernel_rfl) (by kernel_rfl) (by kernel_rfl) (fun _ _ _ h => h) (Or.inl ⟨by first | kernel_rfl | rfl, ?_⟩) (by assumption) ?_
    rotate_left
    · (intro wq hSw; (try dsimp only at hSw); (try simp (maxSteps := 2000000) only [zz1, zz2, zz3]); go_simp); try with_reducible rfl
    try simp (maxSteps := 2000000) only [zz1, zz2, zz3, Act.put, zz4, zz5, zz6]
    refine wpAnyH_take (i := 1) (v := ?_) rfl (by kernel_rfl) (by kernel_rfl) (by kernel_rfl) (fun _ _ _ h => h) (Or.inl ⟨by first | kernel_rfl | rfl, ?_⟩) (by assumption) ?_
    rotate_left
    · (intro wq hSw; (try dsimp only at hSw); (try simp (maxSteps := 2000000) only [zz1, zz2, zz3]); go_simp); try with_reducible rfl
    try simp (maxSteps := 2000000) only [zz1, zz2, zz3, Act.put, zz4, zz5, zz6]
    refine wpAnyH_take (i := 3) (v := ?_) rfl (by kernel_rfl) (by kernel_rfl) (by kernel_rfl) (fun _ _ _ h => h) (Or.inl ⟨by first | kernel_rfl | rfl, ?_⟩) (by assumption) ?_
    rotate_left
    · (intro wq hSw; (try dsimp only at hSw); (try simp (maxSteps := 2000000) only [zz1, zz2, zz3]); go_simp); try with_reducible rfl
    try simp (maxSteps := 2000000) only [zz1, zz2, zz3, Act.put, zz4, zz5, zz6]
    refine wpAnyH_take (i := 4) (v := ?_) rfl (by kernel_rfl) (by kernel_rfl) (by kernel_rfl) (fun _ _ _ h => h) (Or.inl ⟨by first | kernel_rfl | rfl, ?_⟩) (by assumption) ?_
    rotate_left
    · (intro wq hSw; (try dsimp only at hSw); (try simp (maxSteps := 2000000) only [zz1, zz2, zz3]); go_simp); try with_reducible rfl
    try simp (maxSteps := 2000000) only [zz1, zz2, zz3, Act.put, zz4, zz5, zz6]
    refine wpAnyH_ready (rs := [2, 5]) (by kernel_rfl) (by simp) ?_
    refine AllReadyH.cons rfl (fun K hK => ?_) (AllReadyH.cons rfl (fun K hK => ?_) AllReadyH.nil)
    · try simp (maxSteps := 2000000) only [zz1, zz2, zz3]
      go_simp
      refine hK.out _ _ (by first | exact HSF.out _ hd | exact HSF.out _ hx1 | exact HSF.out _ hx2 | exact HSF.out _ hy1 | exact HSF.out _ hy2) (fun hHeld => ?_)
      clear hK K
      try simp (maxSteps := 2000000) only [zz1, zz2, zz3, Act.put, zz4, zz5, zz6]
      refine wpAnyH_take (i := 6) (v := ?_) rfl (by kernel_rfl) (by kernel_rfl) (by kernel_rfl) (fun _ _ _ h => h) (Or.inl ⟨by first | kernel_rfl | rfl, ?_⟩) (by assumption) ?_
      rotate_left
      · (intro wq hSw; (try dsimp only at hSw); (try simp (maxSteps := 2000000) only [zz1, zz2, zz3]); go_simp); try with_reducible rfl
      try simp (maxSteps := 2000000) only [zz1, zz2, zz3, Act.put, zz4, zz5, zz6]
      refine wpAnyH_ready (rs := [5]) (by kernel_rfl) (by simp) ?_
      refine AllReadyH.cons rfl (fun K hK => ?_) AllReadyH.nil
      try simp (maxSteps := 2000000) only [zz1, zz2, zz3]
      go_simp
      refine hK.out _ _ (by first | exact HSF.out _ hd | exact HSF.out _ hx1 | exact HSF.out _ hx2 | exact HSF.out _ hy1 | exact HSF.out _ hy2) (fun hHeld => ?_)
      clear hK K
      try simp (maxSteps := 2000000) only [zz1, zz2, zz3, Act.put, zz4, zz5, zz6]
      refine wpAnyH_take (i := 7) (v := ?_) rfl (by kernel_rfl) (by kernel_rfl) (by kernel_rfl) (fun _ _ _ h => h) (Or.inl ⟨by first | kernel_rfl | rfl, ?_⟩) (by assumption) ?_
      rotate_left
      · (intro wq hSw; (try dsimp only at hSw); (try simp (maxSteps := 2000000) only [zz1, zz2, zz3]); go_simp); try with_reducible rfl
      try simp (maxSteps := 2000000) only [zz1, zz2, zz3, Act.put, zz4, zz5, zz6]
      refine wpAnyH_done (by kernel_rfl) ?_ _
      clear hHeld
      refine NormP.normal ?_
      obtain ⟨qo, hqo⟩ : ∃ qo, w4.heap.size = qo := ⟨_, rfl⟩
      obtain ⟨ql, hql⟩ : ∃ ql, qo + 1 = ql := ⟨_, rfl⟩
      rw [hqo, hql]
      have h1 := ((OwnL.made (R := ByR) (E := 5) (s := 1) (base := w1.heap.size) (S := fun _ => True) (Array.replicate size (.int .u8 0)) size HS4.out (by unfold maxLen; omega) (by simp)).alloc ByR.stable (.cells (Array.replicate M (.int .i64 0)) 3)).keep ByR.stable (Below.refl _ _).drew
      have h2 := (OwnL.made (w := w4.alloc (.cells (Array.replicate size (.int .u8 0)) 5)) (R := IntR) (E := 3) (s := 1) (base := w1.heap.size) (S := fun _ => True) (Array.replicate M (.int .i64 0)) M (by rw [World.size_alloc]; exact Nat.le_succ_of_le HS4.out) (by unfold maxLen; omega) (by simp)).keep IntR.stable (Below.refl _ _).drew
      simp only [World.size_alloc, hqo, hql] at h1 h2
      exact ⟨qo, ql, ⟨((HB4.out.alloc HS4.out (.cells (Array.replicate size (.int .u8 0)) 5)).alloc (by rw [World.size_alloc]; exact Nat.le_succ_of_le HS4.out) (.cells (Array.replicate M (.int .i64 0)) 3)).drew, h1, h2, by omega⟩, rfl⟩
    · try simp (maxSteps := 2000000) only [zz1, zz2, zz3]
      go_simp
      refine hK.out _ _ (by first | exact HSF.out _ hd | exact HSF.out _ hx1 | exact HSF.out _ hx2 | exact HSF.out _ hy1 | exact HSF.out _ hy2) (fun hHeld => ?_)
      clear hK K
      try simp (maxSteps := 2000000) only [zz1, zz2, zz3, Act.put, zz4, zz5, zz6]
      refine wpAnyH_ready (rs := [2]) (by kernel_rfl) (by simp) ?_
      refine AllReadyH.cons rfl (fun K hK => ?_) AllReadyH.nil
      try simp (maxSteps := 2000000) only [zz1, zz2, zz3]
      go_simp
      refine hK.out _ _ (by first | exact HSF.out _ hd | exact HSF.out _ hx1 | exact HSF.out _ hx2 | exact HSF.out _ hy1 | exact HSF.out _ hy2) (fun hHeld => ?_)
      clear hK K
      try simp (maxSteps := 2000000) only [zz1, zz2, zz3, Act.put, zz4, zz5, zz6]
      refine wpAnyH_take (i := 6) (v := ?_) rfl (by kernel_rfl) (by kernel_rfl) (by kernel_rfl) (fun _ _ _ h => h) (Or.inl ⟨by first | kernel_rfl | rfl, ?_⟩) (by assumption) ?_
      rotate_left
      · (intro wq hSw; (try dsimp only at hSw); (try simp (maxSteps := 2000000) only [zz1, zz2, zz3]); go_simp); try with_reducible rfl
      try simp (maxSteps := 2000000) only [zz1, zz2, zz3, Act.put, zz4, zz5, zz6]
      refine wpAnyH_take (i := 7) (v := ?_) rfl (by kernel_rfl) (by kernel_rfl) (by kernel_rfl) (fun _ _ _ h => h) (Or.inl ⟨by first | kernel_rfl | rfl, ?_⟩) (by assumption) ?_
      rotate_left
      · (intro wq hSw; (try dsimp only at hSw); (try simp (maxSteps := 2000000) only [zz1, zz2, zz3]); go_simp); try with_reducible rfl
      try simp (maxSteps := 2000000) only [zz1, zz2, zz3, Act.put, zz4, zz5, zz6]
      refine wpAnyH_done (by kernel_rfl) ?_ _
      clear hHeld
      refine NormP.normal ?_
      obtain ⟨ql, hql⟩ : ∃ ql, w4.heap.size = ql := ⟨_, rfl⟩
      obtain ⟨qo, hqo⟩ : ∃ qo, ql + 1 = qo := ⟨_, rfl⟩
      rw [hql, hqo]
      have h1 := (OwnL.made (w := w4.alloc (.cells (Array.replicate M (.int .i64 0)) 3)) (R := ByR) (E := 5) (s := 1) (base := w1.heap.size) (S := fun _ => True) (Array.replicate size (.int .u8 0)) size (by rw [World.size_alloc]; exact Nat.le_succ_of_le HS4.out) (by unfold maxLen; omega) (by simp)).keep ByR.stable (Below.refl _ _).drew
      have h2 := ((OwnL.made (R := IntR) (E := 3) (s := 1) (base := w1.heap.size) (S := fun _ => True) (Array.replicate M (.int .i64 0)) M HS4.out (by unfold maxLen; omega) (by simp)).alloc IntR.stable (.cells (Array.replicate size (.int .u8 0)) 5)).keep IntR.stable (Below.refl _ _).drew
      simp only [World.size_alloc, hql, hqo] at h1 h2
      exact ⟨qo, ql, ⟨((HB4.out.alloc HS4.out (.cells (Array.replicate M (.int .i64 0)) 3)).alloc (by rw [World.size_alloc]; exact Nat.le_succ_of_le HS4.out) (.cells (Array.replicate size (.int .u8 0)) 5)).drew, h1, h2, by omega⟩, rfl⟩
  intro qo ql w5 hF5
  have HF5 := Lib.hid hF5
  have bB5 := BB.out.below HF5.out.1
  have c5 : w5.cell? ⟨q, 0, none⟩ = some (.int .i64 (aa : Int)) ∧ w5.cell? ⟨q, 1, none⟩ = some (.int .u64 (G : Int)) := ⟨bB5.cell 0, bB5.cell 1⟩
  have bX := BoxAt.new w5 #[.int .u8 4, .int .i64 (aa : Int), .int .u64 (G : Int)] 41
  have hb6 : Below w5.heap.size w5 (w5.alloc (.cells #[.int .u8 4, .int .i64 (aa : Int), .int .u64 (G : Int)] 41)) := (Below.refl _ _).alloc (Nat.le_refl _) _
  obtain ⟨w6, hw6⟩ : ∃ w6, w5.alloc (.cells #[.int .u8 4, .int .i64 (aa : Int), .int .u64 (G : Int)] 41) = w6 := ⟨_, rfl⟩
  obtain ⟨qr, hqr⟩ : ∃ qr, w5.heap.size = qr := ⟨_, rfl⟩
  rw [hw6] at bX hb6
  rw [hqr] at bX
  have htr : Trio w1.heap.size w6 (.slice (some ⟨qo, 0, none⟩) 0 size) (.slice (some ⟨ql, 0, none⟩) 0 M) 0 0 [] [] qr (scCs aa G M 0) := by
    refine ⟨HF5.out.2.1.keep ByR.stable hb6, HF5.out.2.2.1.keep IntR.stable hb6, fun g hg e => HF5.out.2.2.2 ?_, fun e => ?_, fun e => ?_, ?_⟩
    · have h1 : qo = g := Option.some.inj hg
      have h2 : ql = g := Option.some.inj e
      omega
    · have h1 : qo = qr := Option.some.inj e
      have h2 := (HF5.out.2.1.lt qo rfl).2
      omega
    · have h1 : ql = qr := Option.some.inj e
      have h2 := (HF5.out.2.2.1.lt ql rfl).2
      omega
    · unfold scCs
      rw [if_pos (by omega), if_pos (by omega)]
      exact bX
  have HT6 := Lib.hid htr
  have HB6 := Lib.hid (HF5.out.1.trans (hb6.mono HF5.out.1.size))
  have HQR := Lib.hid (show w1.heap.size ≤ qr by have := HF5.out.1.size; omega)
  clear hF5 HF5 htr hb6 bX bB5 hd hx1 hx2 hy1 hy2 HSF hmk1 hmk2 HB4 BB4 HQ4 HS4
  go_wp2_with fail
  clear hw6 hqr c5
  go_step3
  go_wp2_with fail
  go_loopw [9, 10, 12] (fun vo vl ve wr => ∃ (i no co cl : Nat) (Ao Al : Option Addr), i ≤ M ∧ no = min (i * (k * 44 - 10)) size ∧ ve = .int .i64 0 ∧ vo = .slice Ao no co ∧ vl = .slice Al i cl ∧ no ≤ co ∧ i ≤ cl ∧ Hid (Trio w1.heap.size wr (.slice Ao no co) (.slice Al i cl) no i (xs.take (i * (k * 44 - 10))) (plL aa i) qr (scCs aa G M i)) ∧ Hid (Below w1.heap.size w1 wr) ∧ Hid (∀ j, j < i → k ≤ cntP (gs j) N)) (fun _ vl _ _ => M - (match vl with | .slice _ n _ => n | _ => 0))
  case atStart =>
    refine ⟨0, 0, size, M, _, _, Nat.zero_le _, by rw [Nat.zero_mul]; omega, rfl, rfl, rfl, Nat.zero_le _, Nat.zero_le _, ?_, HB6, Lib.hid (fun j hj => absurd hj (by omega))⟩
    rw [Nat.zero_mul, List.take_zero]
    exact HT6
  case round =>
    clear HT6 HB6
    obtain ⟨i, no, co, cl, Ao, Al, hi, hno, rfl, rfl, rfl, hco, hcl, HT, HB, HG⟩ := hrel
    have p0 : (0 : Int) ≤ (i : Int) := Int.natCast_nonneg _
    have bBr := BB.out.below HB.out
    have v2 : wr.cell? ⟨q, 2, none⟩ = some (.int .i64 (M : Int)) := bBr.cell 2
    have v3 : wr.cell? ⟨q, 3, none⟩ = some (.int .i64 (size : Int)) := bBr.cell 3
    have HBW := Lib.hid (HB0.out.trans (HB.out.mono HB0.out.size))
    have bR := HT.out.bx
    unfold scCs at bR
    obtain ⟨rm, hrm⟩ : ∃ rm, k * 44 - 10 = rm := ⟨_, rfl⟩
    rw [hrm] at hno HT
    by_cases hlt : i < M
    · have p1 : (i : Int) < (M : Int) := by omega
      have hmu := HMU.out i hlt
      rw [hrm] at hmu
      obtain rfl : no = i * rm := by omega
      rw [if_pos hlt, if_pos hlt] at bR
      obtain ⟨pa, hpa⟩ : ∃ pa, aa + i = pa := ⟨_, rfl⟩
      obtain ⟨pg, hpg⟩ : ∃ pg, G + i = pg := ⟨_, rfl⟩
      rw [hpa, hpg] at bR
      have hrd := scread_any (HM1.out.below HB.out) (r := scRf aa G i) (scRf_ok (by omega)) (Lib.hid (by show G + i < 2 ^ 64; have := hG.out; omega)) (scTx_byt hx i) (scTx_len hk1 aa G M xs i) (HV.out i hlt) ((i : Int) == 0)
      rw [show refC (scRf aa G i) = #[.int .u8 4, .int .i64 (pa : Int), .int .u64 (pg : Int)] by unfold refC scRf; rw [hpa, hpg]; rfl, HN.out] at hrd
      have hst : scTx k aa G M xs i = lnk (if i + 1 < M then aa + (i + 1) else 0) (if i + 1 < M then G + (i + 1) else 0) (scPc k xs i) := rfl
      have htl : (scTx k aa G M xs i).length = 10 + min rm (size - i * rm) := by rw [hst, lnk_len, scPc_len, hrm, hl]
      obtain ⟨tx, htx⟩ : ∃ tx, scTx k aa G M xs i = tx := ⟨_, rfl⟩
      obtain ⟨pl, hpl⟩ : ∃ pl, min rm (size - i * rm) = pl := ⟨_, rfl⟩
      rw [htx] at hrd hst htl
      rw [hpl] at htl
      obtain ⟨tl, htle⟩ : ∃ tl, tx.length = tl := ⟨_, rfl⟩
      rw [htle] at hrd htl
      have k0 := bR.cell 0
      have k1 := bR.cell 1
      have k2 := bR.cell 2
      have HRD := Lib.hid hrd
      have HST := Lib.hid hst
      have HPA := Lib.hid hpa
      have HRM := Lib.hid hrm
      have hrmb : 34 ≤ rm ∧ rm ≤ 870 := by omega
      have HPL := Lib.hid hpl
      clear hrd hst htx hpg bR bBr hrm hpa
      go_wp2_with fail
      refine HRD.out.mono ?_
      clear HRD k0 k1 k2 v2 v3
      rintro e w7 ⟨hb7, ⟨hlo, rfl⟩ | ⟨hle, A7, c7, rfl, hc7, hr7⟩⟩
      · have HB7 := Lib.hid (HBW.out.trans (hb7.mono HBW.out.size))
        have HLO := Lib.hid (show ∃ i, i < M ∧ cntP (gs i) (k + m) < k from ⟨i, hlt, by rw [HN.out]; exact hlo⟩)
        clear hb7 hlo htl hpl htle hrmb hmu hno hlt hi
        go_wp2_with fail
        rw [Exit.noGoto_ret]
        go_ret3
        exact ⟨HB7.out, .inl ⟨HLO.out, rfl⟩⟩
      · have HT7 := Lib.hid (HT.out.below hb7)
        have HWR7 := Lib.hid hb7.size
        have HBr := Lib.hid (HB.out.trans (hb7.mono HB.out.size))
        have HR7 := Lib.hid (RdL.bound1 ByR.stable hr7)
        have HLS := Lib.hid (show ∀ g, (Value.ownBlock (.slice Ao (i * rm) co) = some g ∨ Value.ownBlock (.slice Al i cl) = some g) → g < wr.heap.size by
          rintro g (hg | hg)
          · exact (HT.out.oo.lt g hg).2
          · exact (HT.out.ol.lt g hg).2)
        have hd7 : Below w7.heap.size w7 w7.drew := (Below.refl _ _).drew
        have HSF : Hid (∀ w', Below w7.heap.size w7 w' → w'.cell? ⟨q, 3, none⟩ = some (.int .i64 (size : Int))) := Lib.hid fun w' hb => (BB.out.below (HBr.out.trans (hb.mono HBr.out.size))).cell 3
        have hcod := (HM1.out.below HBr.out).cod.below hd7
        have hrm7 := sroom_any hcod
        rw [HRM.out] at hrm7
        obtain ⟨sr, hsr⟩ : ∃ sr, size - i * rm = sr := ⟨_, rfl⟩
        rw [hsr] at hpl
        have hpl2 := Lib.hid (show min rm (size - i * rm) = pl by rw [hsr]; exact hpl)
        obtain ⟨ir, hir⟩ : ∃ ir, i * rm = ir := ⟨_, rfl⟩
        rw [hir] at hmu hsr
        have f1 : IntKind.i64.wrap ((size : Int) - (ir : Int)) = (sr : Int) := by rw [IntKind.wrap_i64]; omega
        have f2 : min (rm : Int) (sr : Int) = (pl : Int) := by omega
        have f3 : IntKind.i64.wrap (10 + (pl : Int)) = 10 + (pl : Int) := by rw [IntKind.wrap_i64]; omega
        have hpl3 : pl ≤ 870 := by omega
        clear htle
        subst htl
        have hge : (10 : Int) ≤ 10 + (pl : Int) := by omega
        have hirE := Lib.hid hir
        rw [hir] at HT7 HLS hco hpl2 ⊢
        clear hb7 hr7 hsr hir hcod
        go_wp2_with fail
        refine wp_region_held_drew (S := fun w' => w'.cell? ⟨q, 3, none⟩ = some (.int .i64 (size : Int))) (by kernel_rfl) (by first | exact HSF.out _ hd7) (fun hHeld => ?_)
        refine wpAnyH_take (i := 0) (v := ?_) rfl (by kernel_rfl) (by kernel_rfl) (by kernel_rfl) (fun _ _ _ h => h) (Or.inl ⟨by first | kernel_rfl | rfl, ?_⟩) (by assumption) ?_
        rotate_left
        · (intro wq hSw; (try dsimp only at hSw); (try simp (maxSteps := 2000000) only [zz1, zz2, zz3]); go_simp); try with_reducible rfl
        try simp (maxSteps := 2000000) only [zz1, zz2, zz3, Act.put, zz4, zz5, zz6]
        refine wpAnyH_take (i := 1) (v := ?_) rfl (by kernel_rfl) (by kernel_rfl) (by kernel_rfl) (fun _ _ _ h => h) (Or.inl ⟨by first | kernel_rfl | rfl, ?_⟩) (by assumption) ?_
        rotate_left
        · (intro wq hSw; (try dsimp only at hSw); (try simp (maxSteps := 2000000) only [zz1, zz2, zz3]); go_simp); try with_reducible rfl
        try simp (maxSteps := 2000000) only [zz1, zz2, zz3, Act.put, zz4, zz5, zz6]
        refine wpAnyH_take (i := 2) (v := ?_) rfl (by kernel_rfl) (by kernel_rfl) (by kernel_rfl) (fun _ _ _ h => h) (Or.inl ⟨by first | kernel_rfl | rfl, ?_⟩) (by assumption) ?_
        rotate_left
        · (intro wq hSw; (try dsimp only at hSw); (try simp (maxSteps := 2000000) only [zz1, zz2, zz3]); go_simp); try with_reducible rfl
        try simp (maxSteps := 2000000) only [zz1, zz2, zz3, Act.put, zz4, zz5, zz6]
        refine wpAnyH_take (i := 4) (v := ?_) rfl (by kernel_rfl) (by kernel_rfl) (by kernel_rfl) (fun _ _ _ h => h) (Or.inl ⟨by first | kernel_rfl | rfl, ?_⟩) (by assumption) ?_
        rotate_left
        · (intro wq hSw; (try dsimp only at hSw); (try simp (maxSteps := 2000000) only [zz1, zz2, zz3]); go_simp); try with_reducible rfl
        try simp (maxSteps := 2000000) only [zz1, zz2, zz3, Act.put, zz4, zz5, zz6]
        refine wpAnyH_take (i := 5) (v := ?_) rfl (by kernel_rfl) (by kernel_rfl) (by kernel_rfl) (fun _ _ _ h => h) (Or.inl ⟨by first | kernel_rfl | rfl, ?_⟩) (by assumption) ?_
        rotate_left
        · (intro wq hSw; (try dsimp only at hSw); (try simp (maxSteps := 2000000) only [zz1, zz2, zz3]); go_simp); try with_reducible rfl
        try simp (maxSteps := 2000000) only [zz1, zz2, zz3, Act.put, zz4, zz5, zz6]
        refine wpAnyH_take (i := 6) (v := ?_) rfl (by kernel_rfl) (by kernel_rfl) (by kernel_rfl) (fun _ _ _ h => h) (Or.inl ⟨by first | kernel_rfl | rfl, ?_⟩) (by assumption) ?_
        rotate_left
        · (intro wq hSw; (try dsimp only at hSw); (try simp (maxSteps := 2000000) only [zz1, zz2, zz3]); go_simp); try with_reducible rfl
        try simp (maxSteps := 2000000) only [zz1, zz2, zz3, Act.put, zz4, zz5, zz6]
        refine wpAnyH_take (i := 7) (v := ?_) rfl (by kernel_rfl) (by kernel_rfl) (by kernel_rfl) (fun _ _ _ h => h) (Or.inl ⟨by first | kernel_rfl | rfl, ?_⟩) (by assumption) ?_
        rotate_left
        · (intro wq hSw; (try dsimp only at hSw); (try simp (maxSteps := 2000000) only [zz1, zz2, zz3]); go_simp); try with_reducible rfl
        try simp (maxSteps := 2000000) only [zz1, zz2, zz3, Act.put, zz4, zz5, zz6]
        refine wpAnyH_take (i := 8) (v := ?_) rfl (by kernel_rfl) (by kernel_rfl) (by kernel_rfl) (fun _ _ _ h => h) (Or.inl ⟨by first | kernel_rfl | rfl, ?_⟩) (by assumption) ?_
        rotate_left
        · (intro wq hSw; (try dsimp only at hSw); (try simp (maxSteps := 2000000) only [zz1, zz2, zz3]); go_simp); try with_reducible rfl
        try simp (maxSteps := 2000000) only [zz1, zz2, zz3, Act.put, zz4, zz5, zz6]
        refine wpAnyH_ready (rs := [3]) (by kernel_rfl) (by simp) ?_
        refine AllReadyH.cons rfl (fun K hK => ?_) AllReadyH.nil
        try simp (maxSteps := 2000000) only [zz1, zz2, zz3]
        go_simp
        go_at_call 119
        refine hrm7.mono ?_
        clear hrm7
        rintro e w8 ⟨rfl, hw8⟩
        rw [hw8]
        clear hw8
        try (go_wp2_with fail)
        refine hK.out _ _ (by first | exact HSF.out _ hd7) (fun hHeld => ?_)
        clear hK K
        try simp (maxSteps := 2000000) only [zz1, zz2, zz3, Act.put, zz4, zz5, zz6]
        refine wpAnyH_take (i := 9) (v := ?_) rfl (by kernel_rfl) (by kernel_rfl) (by kernel_rfl) (fun _ _ _ h => h) (Or.inl ⟨by first | kernel_rfl | rfl, ?_⟩) (by assumption) ?_
        rotate_left
        · (intro wq hSw; (try dsimp only at hSw); (try simp (maxSteps := 2000000) only [zz1, zz2, zz3]); go_simp); try with_reducible rfl
        try simp (maxSteps := 2000000) only [zz1, zz2, zz3, Act.put, zz4, zz5, zz6]
        refine wpAnyH_take (i := 10) (v := ?_) rfl (by kernel_rfl) (by kernel_rfl) (by kernel_rfl) (fun _ _ _ h => h) (Or.inl ⟨by first | kernel_rfl | rfl, ?_⟩) (by assumption) ?_
        rotate_left
        · (intro wq hSw; (try dsimp only at hSw); (try simp (maxSteps := 2000000) only [zz1, zz2, zz3]); go_simp); try with_reducible rfl
        try simp (maxSteps := 2000000) only [zz1, zz2, zz3, Act.put, zz4, zz5, zz6]
        refine wpAnyH_take (i := 11) (v := ?_) rfl (by kernel_rfl) (by kernel_rfl) (by kernel_rfl) (fun _ _ _ h => h) (Or.inl ⟨by first | kernel_rfl | rfl, ?_⟩) (by assumption) ?_
        rotate_left
        · (intro wq hSw; (try dsimp only at hSw); (try simp (maxSteps := 2000000) only [zz1, zz2, zz3]); go_simp); try with_reducible rfl
        try simp (maxSteps := 2000000) only [zz1, zz2, zz3, Act.put, zz4, zz5, zz6]
        refine wpAnyH_done (by kernel_rfl) ?_ _
        clear hHeld f1 f2 f3
        obtain ⟨b7, o7, rfl, _, hb7l⟩ := HR7.out.addr (k := 0) (by omega)
        have hsr := piece_rd HR7.out hc7 (show 10 ≤ 10 + pl by omega)
        rw [show tx.drop 10 = scPc k xs i by rw [HST.out, lnk_x], show 10 + pl - 10 = pl by omega] at hsr
        have HSR := Lib.hid hsr
        have hd8 : Below w7.heap.size w7 w7.drew.drew := hd7.drew
        have HT8 := Lib.hid (HT7.out.below hd8)
        have bR8 := HT8.out.bx
        unfold scCs at bR8
        rw [if_pos hlt, if_pos hlt, HPA.out] at bR8
        have s8 : w7.drew.drew.cell? ⟨qr, 1, none⟩ = some (.int .i64 (pa : Int)) := bR8.cell 1
        have hqr8 : qr < w7.drew.drew.heap.size := bR8.lt
        have HW7 := Lib.hid (show w1.heap.size ≤ w7.heap.size from HBr.out.size)
        have HWr := Lib.hid HWR7.out
        clear hsr bR8
        have hla := HT8.out
        have hsz8 : w1.heap.size ≤ w7.drew.drew.heap.size := Nat.le_trans HW7.out hd8.size
        have HXN := Lib.hid (show xs.take ((i + 1) * rm) = xs.take ir ++ scPc k xs i by rw [← hirE.out, ← HRM.out]; unfold scPc; rw [Nat.add_mul, Nat.one_mul, List.take_add])
        have hxp : (scPc k xs i).length = pl := by rw [scPc_len, HRM.out, hirE.out, hl]; exact hpl2.out
        go_wp2_with fail
        refine wp_region_held_drew (S := fun w' => w'.cell? ⟨qr, 1, none⟩ = some (.int .i64 (pa : Int))) (by kernel_rfl) (by first | exact s8 | exact s9 | exact s10 | exact s11) (fun hHeld => ?_)
        refine wpAnyH_take (i := 0) (v := ?_) rfl (by kernel_rfl) (by kernel_rfl) (by kernel_rfl) (fun _ _ _ h => h) (Or.inl ⟨by first | kernel_rfl | rfl, ?_⟩) (by assumption) ?_
        rotate_left
        · (intro wq hSw; (try dsimp only at hSw); (try simp (maxSteps := 2000000) only [zz1, zz2, zz3]); go_simp); try with_reducible rfl
        try simp (maxSteps := 2000000) only [zz1, zz2, zz3, Act.put, zz4, zz5, zz6]
        refine wpAnyH_take (i := 1) (v := ?_) rfl (by kernel_rfl) (by kernel_rfl) (by kernel_rfl) (fun _ _ _ h => h) (Or.inl ⟨by first | kernel_rfl | rfl, ?_⟩) (by assumption) ?_
        rotate_left
        · (intro wq hSw; (try dsimp only at hSw); (try simp (maxSteps := 2000000) only [zz1, zz2, zz3]); go_simp); try with_reducible rfl
        try simp (maxSteps := 2000000) only [zz1, zz2, zz3, Act.put, zz4, zz5, zz6]
        refine wpAnyH_take (i := 2) (v := ?_) rfl (by kernel_rfl) (by kernel_rfl) (by kernel_rfl) (fun _ _ _ h => h) (Or.inl ⟨by first | kernel_rfl | rfl, ?_⟩) (by assumption) ?_
        rotate_left
        · (intro wq hSw; (try dsimp only at hSw); (try simp (maxSteps := 2000000) only [zz1, zz2, zz3]); go_simp); try with_reducible rfl
        try simp (maxSteps := 2000000) only [zz1, zz2, zz3, Act.put, zz4, zz5, zz6]
        refine wpAnyH_take (i := 5) (v := ?_) rfl (by kernel_rfl) (by kernel_rfl) (by kernel_rfl) (fun _ _ _ h => h) (Or.inl ⟨by first | kernel_rfl | rfl, ?_⟩) (by assumption) ?_
        rotate_left
        · (intro wq hSw; (try dsimp only at hSw); (try simp (maxSteps := 2000000) only [zz1, zz2, zz3]); go_simp); try with_reducible rfl
        try simp (maxSteps := 2000000) only [zz1, zz2, zz3, Act.put, zz4, zz5, zz6]
        refine wpAnyH_take (i := 6) (v := ?_) rfl (by kernel_rfl) (by kernel_rfl) (by kernel_rfl) (fun _ _ _ h => h) (Or.inl ⟨by first | kernel_rfl | rfl, ?_⟩) (by assumption) ?_
        rotate_left
        · (intro wq hSw; (try dsimp only at hSw); (try simp (maxSteps := 2000000) only [zz1, zz2, zz3]); go_simp); try with_reducible rfl
        try simp (maxSteps := 2000000) only [zz1, zz2, zz3, Act.put, zz4, zz5, zz6]
        refine wpAnyH_take (i := 7) (v := ?_) rfl (by kernel_rfl) (by kernel_rfl) (by kernel_rfl) (fun _ _ _ h => h) (Or.inl ⟨by first | kernel_rfl | rfl, ?_⟩) (by assumption) ?_
        rotate_left
        · (intro wq hSw; (try dsimp only at hSw); (try simp (maxSteps := 2000000) only [zz1, zz2, zz3]); go_simp); try with_reducible rfl
        try simp (maxSteps := 2000000) only [zz1, zz2, zz3, Act.put, zz4, zz5, zz6]
        have s9 : (w7.drew.drew.alloc (.cells #[.int .i64 (pa : Int)] 3)).cell? ⟨qr, 1, none⟩ = some (.int .i64 (pa : Int)) := (World.cell?_alloc_past _ _ _ hqr8).trans s8
        refine wpAnyH_ready (rs := [3]) (by kernel_rfl) (by simp) ?_
        refine AllReadyH.cons rfl (fun K hK => ?_) AllReadyH.nil
        try simp (maxSteps := 2000000) only [zz1, zz2, zz3]
        go_simp
        refine hK.out _ _ (by first | exact s8 | exact s9 | exact s10 | exact s11) (fun hHeld => ?_)
        clear hK K
        try simp (maxSteps := 2000000) only [zz1, zz2, zz3, Act.put, zz4, zz5, zz6]
        refine wpAnyH_ready (rs := [4]) (by kernel_rfl) (by simp) ?_
        refine AllReadyH.cons rfl (fun K hK => ?_) AllReadyH.nil
        refine step_law (by rfl) (wpList_push1 IntR.stable IntR.one sl_intA (by rfl) (by rfl) (base := w1.heap.size) (S := fun _ => True) (cs := #[.int .i64 (pa : Int)]) (y := (pa : Int)) (by rfl) (by rfl) hla.ol (by rfl) (by rfl) (by unfold maxLen; omega) (by omega) hsz8 ?_)
        intro A9 c9 u9 hc9 own9 hlt9 hb9 hat9
        refine And.intro rfl ?_
        have HT9 := Lib.hid (hla.pushL u9 own9 hat9)
        have bR9 := HT9.out.bx
        unfold scCs at bR9
        rw [if_pos hlt, if_pos hlt, HPA.out] at bR9
        have s10 : u9.to.cell? ⟨qr, 1, none⟩ = some (.int .i64 (pa : Int)) := bR9.cell 1
        have hsr9 : RdL ByR 1 (fun j => wr.heap.size ≤ j ∧ j < w7.heap.size) u9.to (if c7 = 10 then some ⟨b7, o7, none⟩ else Option.map (fun x : Addr => x.add (10 * 1)) (some ⟨b7, o7, none⟩)) pl (scPc k xs i) := HSR.out.stable ByR.stable fun j hj _ => ⟨hj, u9.ok.block j (Nat.lt_of_lt_of_le hj.2 hd8.size) (fun e => by have := HLS.out j (.inr e.symm); have := hj.1; omega)⟩
        have hrw9 : RdL ByR 1 (fun j => wr.heap.size ≤ j ∧ j < w7.heap.size) u9.to (some ⟨b7, o7, none⟩) (10 + pl) tx := HR7.out.stable ByR.stable fun j hj _ => ⟨hj, u9.ok.block j (Nat.lt_of_lt_of_le hj.2 hd8.size) (fun e => by have := HLS.out j (.inr e.symm); have := hj.1; omega)⟩
        have HSR9 := Lib.hid hsr9
        have HRW9 := Lib.hid hrw9
        have hsz9 : w1.heap.size ≤ u9.to.heap.size := Nat.le_trans hsz8 u9.ok.size
        have HB9 := Lib.hid hb9
        clear own9 hb9 hat9 bR9 hsr9 hrw9
        refine hK.out _ _ (by first | exact s8 | exact s9 | exact s10 | exact s11) (fun hHeld => ?_)
        clear hK K
        try simp (maxSteps := 2000000) only [zz1, zz2, zz3, Act.put, zz4, zz5, zz6]
        refine wpAnyH_ready (rs := [8]) (by kernel_rfl) (by simp) ?_
        refine AllReadyH.cons rfl (fun K hK => ?_) AllReadyH.nil
        refine step_law (by rfl) (wpList_appL ByR.stable ByR.one sl_by rfl (by exact rfl) (base := w1.heap.size) (S := fun _ => True) (n := ir) (xs := xs.take ir) (by rfl) HT9.out.oo (by rfl) HSR9.out (fun _ _ h => h) (by unfold maxLen; omega) (by omega) hsz9 ?_)
        intro A10 c10 w10 hc10 own10 hg10 hat10
        refine And.intro rfl ?_
        have HT10 := Lib.hid (HT9.out.pushO hg10 own10 hat10)
        have bR10 := HT10.out.bx
        unfold scCs at bR10
        rw [if_pos hlt, if_pos hlt, HPA.out] at bR10
        have s11 : w10.cell? ⟨qr, 1, none⟩ = some (.int .i64 (pa : Int)) := bR10.cell 1
        have HRW10 : Hid (RdL ByR 1 (fun j => wr.heap.size ≤ j ∧ j < w7.heap.size) w10 (some ⟨b7, o7, none⟩) (10 + pl) tx) := Lib.hid (HRW9.out.stable ByR.stable fun j hj hl2 => ⟨hj, hg10.block j hl2 (fun e => by have := HLS.out j (.inl e.symm); have := hj.1; omega)⟩)
        have HB10 := Lib.hid (Below.grown HB9.out hg10 hsz9 (fun g hg => (HT9.out.oo.lt g hg).1))
        clear own10 hg10 hat10 bR10
        refine hK.out _ _ (by first | exact s8 | exact s9 | exact s10 | exact s11) (fun hHeld => ?_)
        clear hK K
        try simp (maxSteps := 2000000) only [zz1, zz2, zz3, Act.put, zz4, zz5, zz6]
        refine wpAnyH_take (i := 9) (v := ?_) rfl (by kernel_rfl) (by kernel_rfl) (by kernel_rfl) (fun _ _ _ h => h) (Or.inl ⟨by first | kernel_rfl | rfl, ?_⟩) (by assumption) ?_
        rotate_left
        · (intro wq hSw; (try dsimp only at hSw); (try simp (maxSteps := 2000000) only [zz1, zz2, zz3]); go_simp); try with_reducible rfl
        try simp (maxSteps := 2000000) only [zz1, zz2, zz3, Act.put, zz4, zz5, zz6]
        refine wpAnyH_take (i := 10) (v := ?_) rfl (by kernel_rfl) (by kernel_rfl) (by kernel_rfl) (fun _ _ _ h => h) (Or.inl ⟨by first | kernel_rfl | rfl, ?_⟩) (by assumption) ?_
        rotate_left
        · (intro wq hSw; (try dsimp only at hSw); (try simp (maxSteps := 2000000) only [zz1, zz2, zz3]); go_simp); try with_reducible rfl
        try simp (maxSteps := 2000000) only [zz1, zz2, zz3, Act.put, zz4, zz5, zz6]
        refine wpAnyH_done (by kernel_rfl) ?_ _
        clear hHeld s8 s9 s10 s11
        have HBF := Lib.hid ((HBr.out.trans (hd8.mono HBr.out.size)).trans HB10.out)
        have hnt := scnext_any (xs := tx) HRW10.out (by omega) (by omega) hc7
        obtain ⟨p', hp'⟩ : ∃ p', (if i + 1 < M then aa + (i + 1) else 0) = p' := ⟨_, rfl⟩
        obtain ⟨g', hg'⟩ : ∃ g', (if i + 1 < M then G + (i + 1) else 0) = g' := ⟨_, rfl⟩
        have hpl' : p' < 65536 := by rw [← hp']; split <;> omega
        have hgl' : g' < 2 ^ 64 := by rw [← hg']; have := hG.out; split <;> omega
        have htx' := HST.out
        rw [hp', hg'] at htx'
        rw [htx', lnk_p hpl', lnk_g (Lib.hid hgl'), show IntKind.i64.wrap (p' : Int) = (p' : Int) by rw [IntKind.wrap_i64]; omega] at hnt
        have HCS := Lib.hid (show scCs aa G M (i + 1) = #[.int .u8 4, .int .i64 (p' : Int), .int .u64 (g' : Int)] by unfold scCs; rw [hp', hg'])
        clear hp' hg' hpl' hgl' htx'
        rcases Decidable.em (c7 = 10) with rfl | hce
        all_goals
          go_wp2_with fail
          refine hnt.mono ?_
          clear hnt
          rintro e w11 ⟨rfl, hb11⟩
          have HT11 := Lib.hid (HT10.out.below hb11)
          have HBF11 := Lib.hid (HBF.out.trans (hb11.mono HBF.out.size))
          have ht11 := HT11.out
          unfold scCs at ht11
          rw [if_pos hlt, if_pos hlt] at ht11
          have HT12 := Lib.hid (ht11.setR (x := .int .u8 4) (y := .int .i64 (p' : Int)) (z := .int .u64 (g' : Int)))
          have HB12 := Lib.hid (((HBF11.out.setCell (p := ⟨qr, 0, none⟩) HQR.out (.int .u8 4)).setCell (p := ⟨qr, 1, none⟩) HQR.out (.int .i64 (p' : Int))).setCell (p := ⟨qr, 2, none⟩) HQR.out (.int .u64 (g' : Int)))
          have b11 := ht11.bx
          have k0 := b11.cell 0
          have k1 := b11.cell 1
          have k2 := b11.cell 2
          have z0 := b11.frozen 0
          have z1 := b11.frozen 1
          have z2 := b11.frozen 2
          clear b11 ht11 hb11
          go_wp2_with fail
          refine ⟨⟨i + 1, ir + pl, c10, c9, A10, A9, by omega, ?_, rfl, rfl, rfl, hc10, hc9, ?_, HB12, Lib.hid fun j hj => ?_⟩, by simp; omega⟩
          · rw [HRM.out, Nat.add_mul, Nat.one_mul, hirE.out]
            have h1 := hpl2.out
            omega
          · rw [HRM.out, HXN.out, HCS.out, plL_succ, HPA.out]
            exact HT12
          · by_cases e : j = i
            · rw [e]; exact hle
            · exact HG.out j (by omega)
    · have p1 : ¬ (i : Int) < (M : Int) := by omega
      obtain rfl : i = M := by omega
      rw [if_neg (Nat.lt_irrefl _), if_neg (Nat.lt_irrefl _)] at bR
      have k1 := bR.cell 1
      have k2 := bR.cell 2
      have hall := HALL.out
      rw [hrm] at hall
      obtain rfl : no = size := by omega
      have HTK := Lib.hid (show xs.take (i * rm) = xs from List.take_of_length_le (by rw [hl]; exact hall))
      clear bR hno hall hrm hi bBr
      go_wp2_with fail
      go_ret3
      obtain ⟨_, _, eL, _, hrL⟩ := HT.out.ol.rd (S' := fun j => w.heap.size ≤ j) (fun j hj => Nat.le_trans HB0.out.size hj) (fun cs x hx => hx)
      cases eL
      have hrO := OwnL.rdT HT.out.oo
      rw [HTK.out] at hrO
      exact ⟨HBW.out, .inr ⟨fun j hj => by rw [HN.out]; exact HG.out j hj, Ao, co, Al, cl, rfl, hco, hrO.1.weaken ByR.stable (fun j hj => Nat.le_trans HB0.out.size hj), hcl, hrL⟩⟩
end
end Go.Proofs.YtcliejdiaohamaaGreat

set_option linter.unusedSimpArgs false
set_option linter.unusedVariables false
namespace Go.Proofs.YtcliejdiaohamaaGreat
open Go.RowKit Go.Cib
attribute [local go_sem] cell_set Later.cell Later.frozen Grw.cell Grw.frozen
set_option maxRecDepth 100000 in
set_option maxHeartbeats 4000000 in
theorem ints7_same {w : World} {A1 A2 : Option Addr} {n c1 c2 : Nat} {S1 S2 : Nat → Prop} {xs : List Int} (R1 : RdL IntR 1 S1 w A1 n xs) (R2 : RdL IntR 1 S2 w A2 n xs) (hn : n ≤ 1000000) :
    Calls Tryz.prog 53 #[.slice A1 n c1, .slice A2 n c2] w fun e w' => e = .returned (.bool true) ∧ Below w.heap.size w w' := by
  have H1 := Lib.hid R1
  have H2 := Lib.hid R2
  have en : ((n : Int) != (n : Int)) = false := by simp
  clear R1 R2
  go_enter Tryz.func53, Tryz.ntmps53
  go_wp2_with fail
  clear en
  go_loopw [5] (fun vi wr => ∃ i : Nat, i ≤ n ∧ vi = .int .i64 i ∧ Hid (Below w.heap.size w wr)) (fun vi _ => n - (intOf vi).toNat)
  case atStart => exact ⟨0, Nat.zero_le _, rfl, Lib.hid (Below.refl _ _)⟩
  case round =>
    obtain ⟨i, hi, rfl, HB⟩ := hrel
    have p0 : (0 : Int) ≤ (i : Int) := Int.natCast_nonneg _
    by_cases hlt : i < n
    · have p1 : (i : Int) < (n : Int) := by omega
      obtain ⟨b1, o1, rfl, _, hb1⟩ := (H1.out.below IntR.stable HB.out).addr hlt
      obtain ⟨b2, o2, rfl, _, hb2⟩ := (H2.out.below IntR.stable HB.out).addr hlt
      obtain ⟨x, hx, v1⟩ := int_at1 (H1.out.below IntR.stable HB.out) hlt
      obtain ⟨y, hy, v2⟩ := int_at1 (H2.out.below IntR.stable HB.out) hlt
      obtain rfl : x = y := Option.some.inj (hx.symm.trans hy)
      clear hx hy
      go_wp2_with fail
      refine wp_region_later (by kernel_rfl) (by kernel_rfl) ?_
      repeat (go_big_quiet_step (fail))
      refine wpQuiet_nil ?_
      rintro _ ⟨z, rfl⟩
      go_wp2_with fail
      exact ⟨⟨i + 1, by omega, by go_num, Lib.hid (HB.out.trans (z.ok.mono HB.out.size))⟩, by simp [intOf]; omega⟩
    · have p1 : ¬ (i : Int) < (n : Int) := by omega
      go_wp2_with fail
      go_ret
      exact ⟨rfl, HB.out⟩
end Go.Proofs.YtcliejdiaohamaaGreat

set_option linter.unusedSimpArgs false
set_option linter.unusedVariables false
namespace Go.Proofs.YtcliejdiaohamaaGreat
open Go.RowKit Go.Cib
attribute [local go_sem] cell_set Later.cell Later.frozen Grw.cell Grw.frozen
def xR : List Nat := (List.replicate 70 0).set 69 7
theorem xR_len : xR.length = 70 := by unfold xR; simp
theorem BoxAt.ints {w : World} {b : Nat} {xs : List Int} (h : BoxAt w b (xs.map (Value.int .i64)).toArray) {S : Nat → Prop} (hS : S b) : RdL IntR 1 S w (some ⟨b, 0, none⟩) xs.length xs :=
  ⟨rfl, fun _ => ⟨b, 0, rfl, hS, h.lt, fun i x hx => ⟨[.int .i64 x], rfl, rfl, fun j v hj => by
    have hj0 : j = 0 := by
      have := (List.getElem?_eq_some_iff.1 hj).1
      simp at this; exact this
    subst hj0
    simp at hj
    subst hj
    rw [show 0 + i * 1 + 0 = i by omega, h.cell i]
    simp [hx]⟩⟩⟩
set_option maxRecDepth 100000 in
set_option maxHeartbeats 16000000 in
theorem rolls_any {w : World} : Calls Tryz.prog 43 #[] w fun e w' => e = .returned (.bool true) ∧ Below w.heap.size w w' := by
  have hmd := bmade_any (w0 := w) (w := w) (k := 1) (m := 1) (f := 2) (c := 5) (Below.refl _ _) (by omega) (by omega) (by omega) (by omega) (by omega) (by omega)
  have e0 : baseC ((1 : Nat) : Int) ((1 : Nat) : Int) ((2 : Nat) : Int) ((5 : Nat) : Int) = #[.int .i64 1, .int .i64 1, .int .i64 2, .int .i64 5] := rfl
  rw [e0] at hmd
  clear e0
  go_enter Tryz.func43, Tryz.ntmps43
  go_wp2_with fail
  refine hmd.mono ?_
  clear hmd
  rintro e w1 ⟨a, cb, bf, p, o, l, go, gl, rfl, hM, hP, hb1⟩
  have hM1 : MidP (PoolB p o l go gl) (fun j => j < w.heap.size) w w1 a cb bf 1 1 7 (newS 7 2) := hM
  have hP1 : PoolT w1 p o l go gl 0 2 5 0 := PoolT.new hP
  have hmk := makeBy 70 (by omega) w1
  rw [show ((70 : Nat) : Int) = 70 from rfl] at hmk
  have hr1 := (RowIn.made w1 70 5).set (i := 69) (x := 7) (by simp) (by omega)
  have hbx : Below w1.heap.size w1 (w1.alloc (.cells (Array.replicate 70 (.int .u8 0)) 5)) := (Below.refl _ _).alloc (Nat.le_refl _) _
  have hM2 := hM1.below hbx
  have hP2 := hP1.below hbx
  have bx := BoxAt.new w1 (Array.replicate 70 (.int .u8 0)) 5
  obtain ⟨wx, hwx⟩ : ∃ wx, w1.alloc (.cells (Array.replicate 70 (.int .u8 0)) 5) = wx := ⟨_, rfl⟩
  obtain ⟨qx, hqx⟩ : ∃ qx, w1.heap.size = qx := ⟨_, rfl⟩
  have hsx : wx.heap.size = qx + 1 := by rw [← hwx, ← hqx, World.size_alloc]
  have hs1 := hb1.size
  rw [hwx] at hr1 hM2 hP2 bx
  rw [hqx] at hr1 bx hM2
  have kx := bx.cell 69
  rw [show (Array.replicate 70 (Value.int .u8 0))[69]? = some (Value.int .u8 0) by simp] at kx
  have zx := bx.frozen 69
  have hKx : Keep (fun j => j = qx) wx (wx.setCell ⟨qx, 69, none⟩ (.int .u8 7)) := (Keep.refl (fun j => j = qx) wx).setCell (p := ⟨qx, 69, none⟩) (fun _ => rfl) _
  have hPB1 : ∀ j, PoolB p o l go gl j → j < w1.heap.size := fun j hj => hM1.ltP hj
  have hM3 := hM2.own hKx (fun j hj => by subst hj; exact ⟨.inr (by omega), by omega⟩)
  have hP3 := hP2.keep hKx (fun j hj e => by have := hPB1 j hj; omega)
  obtain ⟨w2, hw2⟩ : ∃ w2, wx.setCell ⟨qx, 69, none⟩ (.int .u8 7) = w2 := ⟨_, rfl⟩
  have hr2 : RdL ByR 1 (fun j => j = qx) w2 (some ⟨qx, 0, none⟩) 70 xR := by
    rw [← hw2]
    have h := hr1.rd (S := fun j => j = qx) rfl
    rw [show ((List.replicate 70 0).set 69 7).length = 70 by simp] at h
    exact h
  rw [hw2] at hM3 hP3
  have hc3 : scN 1 70 = 3 := by decide
  have hpu := scp_any hM3 hP3 (fun j hj => hj) hr2 (fun j hj => .inr (by omega)) (Nat.le_refl _) (by omega) (by rw [hc3]; omega) (by rw [hc3]; omega) (by omega) (fun st hst => by
    obtain ⟨d, hd, rfl⟩ := List.mem_iff_getElem.1 hst
    rw [(newS_at (List.getElem?_eq_getElem hd)).1]; decide) (by rw [hc3]; omega)
  rw [hc3] at hpu
  have HR2 := Lib.hid hr2
  have HX2 := Lib.hid (show ∀ j, j = qx → j < w.heap.size ∨ qx ≤ j ∧ j < wx.heap.size from fun j hj => .inr (by omega))
  have HPU := Lib.hid hpu
  have HB1 := Lib.hid hb1
  clear hM hP hM1 hP1 hbx hM2 hP2 bx hM3 hP3 hr1 hb1 hKx hc3 hpu hr2
  go_wp2_with fail
  refine HPU.out.mono ?_
  clear HPU hwx hqx hw2 kx zx hsx hs1 hPB1 hmk
  rintro e w3 ⟨A3, c3, S3, rfl, hc3, hr3, hS3, hP3, hM3, hK3⟩
  have hxb := by_byt HR2.out
  have hvw := putC_new (n := 7) (k := 1) (N := 1 + 1) (M := 3) (rf := scRf (2 + 0) 0) (tx := scTx 1 (2 + 0) 0 3 xR) (Alv.new 7 2) (fun i hi => scRf_ok (by omega)) (fun i => scTx_byt hxb i) (fun i j h1 h2 => by show 2 + 0 + j ≠ 2 + 0 + i; omega) 3 (Nat.le_refl _)
  have e1 : scC ((2 + 0 : Nat) : Int) ((0 : Nat) : Int) ((3 : Nat) : Int) ((70 : Nat) : Int) = #[.int .i64 2, .int .u64 0, .int .i64 3, .int .i64 70] := rfl
  rw [e1]
  have hXb := BoxAt.new w3 #[.int .i64 2, .int .u64 0, .int .i64 3, .int .i64 70] 24
  have hb4 : Below w3.heap.size w3 (w3.alloc (.cells #[.int .i64 2, .int .u64 0, .int .i64 3, .int .i64 70] 24)) := (Below.refl _ _).alloc (Nat.le_refl _) _
  have hM4 := hM3.below hb4
  obtain ⟨w4, hw4⟩ : ∃ w4, w3.alloc (.cells #[.int .i64 2, .int .u64 0, .int .i64 3, .int .i64 70] 24) = w4 := ⟨_, rfl⟩
  obtain ⟨q, hq⟩ : ∃ q, w3.heap.size = q := ⟨_, rfl⟩
  rw [hw4] at hXb hb4 hM4
  rw [hq] at hXb
  have hc3' : scN 1 70 = 3 := by decide
  have hgt := scg_any (aa := 2 + 0) (G := 0) (size := 70) (xs := xR) (gs := fun _ _ => true) hM4.x.mid (by omega) (by omega) (by rw [hc3']; omega) (by rw [hc3']; omega) (Lib.hid (by rw [hc3']; decide)) hxb xR_len (by rw [hc3']; exact hvw)
  rw [hc3', e1] at hgt
  have HGT := Lib.hid hgt
  have HR3 := Lib.hid (hr3.below IntR.stable hb4)
  have HR24 := Lib.hid ((hK3.rd ByR.stable HR2.out HX2.out).below ByR.stable hb4)
  have HM4 := Lib.hid hM4
  have BB4 := Lib.hid hXb
  have c4 : w4.cell? ⟨q, 0, none⟩ = some (.int .i64 2) ∧ w4.cell? ⟨q, 1, none⟩ = some (.int .u64 0) ∧ w4.cell? ⟨q, 2, none⟩ = some (.int .i64 3) ∧ w4.cell? ⟨q, 3, none⟩ = some (.int .i64 70) := ⟨hXb.cell 0, hXb.cell 1, hXb.cell 2, hXb.cell 3⟩
  clear hc3 hr3 hS3 hP3 hM3 hK3 hXb hb4 hM4 hgt HR2 HX2 hvw hxb e1 hc3'
  go_wp2_with fail
  refine HGT.out.mono ?_
  clear HGT hw4 hq c4
  rintro e w5 ⟨hb5, ⟨⟨i, _, hlo⟩, _⟩ | ⟨_, A5, c5, A6, c6, rfl, hc5, hr5, hc6, hr6⟩⟩
  · exact absurd (show cntP (fun _ => true) 2 < 1 from hlo) (by decide)
  have bB5 := BB4.out.below hb5
  have k0 : w5.cell? ⟨q, 0, none⟩ = some (.int .i64 2) := bB5.cell 0
  have k2 : w5.cell? ⟨q, 2, none⟩ = some (.int .i64 3) := bB5.cell 2
  have k3 : w5.cell? ⟨q, 3, none⟩ = some (.int .i64 70) := bB5.cell 3
  have HR35 := Lib.hid (HR3.out.below IntR.stable hb5)
  have HR25 := Lib.hid (HR24.out.below ByR.stable hb5)
  have HR5 := Lib.hid hr5
  have HR6 := Lib.hid hr6
  have HM5 := Lib.hid (HM4.out.below' hb5)
  have hbi : Below w5.heap.size w5 (w5.alloc (.cells #[.int .i64 2, .int .i64 3, .int .i64 4] 3)) := (Below.refl _ _).alloc (Nat.le_refl _) _
  have hli := BoxAt.ints (xs := [2, 3, 4]) (BoxAt.new w5 #[.int .i64 2, .int .i64 3, .int .i64 4] 3) (S := fun _ => True) trivial
  have hi7 := ints7_same (c1 := c3) (c2 := 3) (HR35.out.below IntR.stable hbi) (show RdL IntR 1 (fun _ => True) _ _ 3 (plL (2 + 0) 3) from hli) (by omega)
  have HBI := Lib.hid hbi
  clear hr5 hr6 hb5 HM4 HR3 HR24 BB4 bB5 hli hbi
  go_wp2_with fail
  refine hi7.mono ?_
  clear hi7 k0 k2 k3
  rintro e w7 ⟨rfl, hb7⟩
  have HB7 := Lib.hid (HBI.out.trans (hb7.mono HBI.out.size))
  obtain ⟨T, hT⟩ : ∃ T, textB xR = T := ⟨_, rfl⟩
  have t1 := text_run (c := c5) (HR5.out.below ByR.stable HB7.out)
  have t2 := text_run (c := 70) (HR25.out.below ByR.stable HB7.out)
  rw [hT] at t1 t2
  have hi7 := ints7_same (c1 := c6) (c2 := c3) (HR6.out.below IntR.stable HB7.out) (HR35.out.below IntR.stable HB7.out) (by omega)
  clear hb7
  go_wp2_with fail
  refine hi7.mono ?_
  clear hi7 t1 t2 hT
  rintro e w8 ⟨rfl, hb8⟩
  have HB8 := Lib.hid (HB7.out.trans (hb8.mono HB7.out.size))
  have hc34 := scnt_any (HM5.out.cod.below HB8.out) (size := 34) (Lib.hid (by decide))
  rw [show scI 1 34 = 1 by decide] at hc34
  clear hb8
  go_wp2_with fail
  refine hc34.mono ?_
  clear hc34
  rintro e w9 ⟨rfl, hb9⟩
  have HB9 := Lib.hid (HB8.out.trans (hb9.mono HB8.out.size))
  have hc35 := scnt_any (HM5.out.cod.below HB9.out) (size := 35) (Lib.hid (by decide))
  rw [show scI 1 35 = 2 by decide] at hc35
  clear hb9
  go_wp2_with fail
  refine hc35.mono ?_
  clear hc35
  rintro e w10 ⟨rfl, hb10⟩
  have HB10 := Lib.hid (HB9.out.trans (hb10.mono HB9.out.size))
  have hpb := spb_any (c := 0) (p := 258) (ct := 2) (sz := 3) (g := 1) (xs := []) (RdL.nil (A := none) (S := fun _ => True) (w := w10)) (by omega) (Lib.hid (by decide))
  rw [show ([] : List Nat) ++ nmB 258 1 2 3 = [2, 1, 1, 0, 0, 0, 0, 0, 0, 0, 2, 0, 3, 0, 0, 0] by decide +kernel] at hpb
  unfold scC at hpb
  rw [show ((1 : Nat) : Int) = 1 from rfl] at hpb
  clear hb10
  go_wp2_with fail
  refine hpb.mono ?_
  clear hpb
  rintro e w11 ⟨A11, c11, rfl, hc11, hr11, hb11⟩
  have t1 := text_run (c := c11) hr11
  rw [show textB [2, 1, 1, 0, 0, 0, 0, 0, 0, 0, 2, 0, 3, 0, 0, 0] = ⟨#[2, 1, 1, 0, 0, 0, 0, 0, 0, 0, 2, 0, 3, 0, 0, 0]⟩ by decide +kernel] at t1
  have HB11 := Lib.hid (HM5.out.bel.trans ((HB10.out.trans (hb11.mono HB10.out.size)).mono HM5.out.bel.size))
  clear hr11 hb11
  go_wp2_with fail
  go_ret
  exact ⟨rfl, HB11.out⟩
end Go.Proofs.YtcliejdiaohamaaGreat

set_option linter.unusedSimpArgs false
set_option linter.unusedVariables false
namespace Go.Proofs.YtcliejdiaohamaaGreat
open Go.RowKit Go.Cib
attribute [local go_sem] cell_set Later.cell Later.frozen Grw.cell Grw.frozen
end Go.Proofs.YtcliejdiaohamaaGreat

set_option linter.unusedSimpArgs false
set_option linter.unusedVariables false
namespace Go.Proofs.YtcliejdiaohamaaGreat
open Go.RowKit Go.Cib
attribute [local go_sem] cell_set Later.cell Later.frozen Grw.cell Grw.frozen
end Go.Proofs.YtcliejdiaohamaaGreat

set_option linter.unusedSimpArgs false
set_option linter.unusedVariables false
namespace Go.Proofs.YtcliejdiaohamaaGreat
open Go.RowKit Go.Cib
attribute [local go_sem] cell_set Later.cell Later.frozen Grw.cell Grw.frozen
end Go.Proofs.YtcliejdiaohamaaGreat

set_option linter.unusedSimpArgs false
set_option linter.unusedVariables false
namespace Go.Proofs.YtcliejdiaohamaaGreat
open Go.RowKit Go.Cib
attribute [local go_sem] cell_set Later.cell Later.frozen Grw.cell Grw.frozen
end Go.Proofs.YtcliejdiaohamaaGreat

set_option linter.unusedSimpArgs false
set_option linter.unusedVariables false
namespace Go.Proofs.YtcliejdiaohamaaGreat
open Go.RowKit Go.Cib
attribute [local go_sem] cell_set Later.cell Later.frozen Grw.cell Grw.frozen
end Go.Proofs.YtcliejdiaohamaaGreat

set_option linter.unusedSimpArgs false
set_option linter.unusedVariables false
namespace Go.Proofs.YtcliejdiaohamaaGreat
open Go.RowKit Go.Cib
attribute [local go_sem] cell_set Later.cell Later.frozen Grw.cell Grw.frozen
theorem OwnL.rdS {E : TypeId} {base n c : Nat} {w : World} {A : Option Addr} {xs : List Nat} (h : OwnL ByR E 1 base (fun _ => True) w (.slice A n c) n xs) : RdL ByR 1 (fun _ => True) w A n xs := by
  obtain ⟨A', c', e, _, hr⟩ := h.rd (S' := fun _ => True) (fun j hj => trivial) (fun cs x hx => hx)
  injection e with e1 _ e2
  subst e1
  exact hr
end Go.Proofs.YtcliejdiaohamaaGreat

set_option linter.unusedSimpArgs false
set_option linter.unusedVariables false
namespace Go.Proofs.YtcliejdiaohamaaGreat
open Go.RowKit Go.Cib
attribute [local go_sem] cell_set Later.cell Later.frozen Grw.cell Grw.frozen
end Go.Proofs.YtcliejdiaohamaaGreat

set_option linter.unusedSimpArgs false
set_option linter.unusedVariables false
namespace Go.Proofs.YtcliejdiaohamaaGreat
open Go.RowKit Go.Cib
attribute [local go_sem] cell_set Later.cell Later.frozen Grw.cell Grw.frozen
theorem bsm_nat {k m f c : Int} (h : bsmB k m f c = true) : ∃ k' m' f' c' : Nat, k = (k' : Int) ∧ m = (m' : Int) ∧ f = (f' : Int) ∧ c = (c' : Int) ∧ 1 ≤ k' ∧ 1 ≤ m' ∧ k' + m' ≤ 10 ∧ f' ≤ 20 ∧ 1 ≤ c' ∧ c' ≤ 60 := by
  have h2 := of_decide_eq_true h
  exact ⟨k.toNat, m.toNat, f.toNat, c.toNat, by omega, by omega, by omega, by omega, by omega, by omega, by omega, by omega, by omega, by omega⟩
theorem cntP_true (N : Nat) : cntP (fun _ => true) N = N := by
  unfold cntP
  rw [List.filter_eq_self.2 (fun _ _ => rfl), List.length_range]
/-- What is kept of each value while values are put. -/
def KbsOk (g : Nat → Bool) (k N f T : Nat) (ks : List (Nat × List Nat)) (sts : List DSt) : Prop := ∀ kb ∈ ks, kb.1 + cntN k kb.2.length ≤ T ∧ kb.2.length ≤ 400 ∧ Byt kb.2 ∧ HdB g k N (f + kb.1) kb.1 (cntN k kb.2.length) kb.2 sts
theorem KbsOk.put {k N n f T : Nat} {ks : List (Nat × List Nat)} {sts : List DSt} {x : List Nat} (h : KbsOk (fun _ => true) k N f T ks sts) (hA : Alv n sts) (hx : Byt x) (hl : x.length ≤ 400) (hn : f + T + cntN k x.length ≤ n) :
    KbsOk (fun _ => true) k N f (T + cntN k x.length) (ks ++ [(T, x)]) (putB n k N (plL (f + T) (cntN k x.length)) T x sts (cntN k x.length)) := fun kb hkb => by
  rcases List.mem_append.1 hkb with h1 | h1
  · obtain ⟨a1, a2, a3, a4⟩ := h kb h1
    exact ⟨by omega, a2, a3, a4.put (n := n) hx hn (by omega)⟩
  · rw [List.mem_singleton.1 h1]
    exact ⟨Nat.le_refl _, hl, hx, HdB.new hA hx hn⟩
end Go.Proofs.YtcliejdiaohamaaGreat

set_option linter.unusedSimpArgs false
set_option linter.unusedVariables false
namespace Go.Proofs.YtcliejdiaohamaaGreat
open Go.RowKit Go.Cib
attribute [local go_sem] cell_set Later.cell Later.frozen Grw.cell Grw.frozen
/-- A long text lies on the drives g. -/
def ScV (g : Nat → Bool) (k N aa G M : Nat) (xs : List Nat) (sts : List DSt) : Prop := ∀ i, i < M → Hds g k N (scRf aa G i) (scTx k aa G M xs i) sts
section
variable {g : Nat → Bool} {n k N aa G M b H M2 : Nat} {xs ys : List Nat} {sts : List DSt}
theorem ScV.new (h : Alv n sts) (hx : Byt xs) (ha : aa + M ≤ n) : ScV (fun _ => true) k N aa G M xs (putC n k N (scRf aa G) (scTx k aa G M xs) sts M) := fun t ht =>
  putC_new h (fun i hi => scRf_ok (by omega)) (fun i => scTx_byt hx i) (fun i j h1 h2 => by show aa + j ≠ aa + i; omega) M (Nat.le_refl _) t ht
theorem ScV.old (h : ScV g k N aa G M xs sts) (hy : Byt ys) (hb : b + M2 ≤ n) (hd : aa + M ≤ b) : ScV g k N aa G M xs (putC n k N (scRf b H) (scTx k b H M2 ys) sts M2) := fun t ht =>
  putC_old (n := n) (M := M2) (h t ht) (fun i hi => scRf_ok (by omega)) (fun i => scTx_byt hy i) (fun i hi => by show b + i ≠ aa + t; omega) M2 (Nat.le_refl _)
theorem ScV.flush (h : ScV g k N aa G M xs sts) (ha : aa + M ≤ n) (hA : Alv n sts) : ScV g k N aa G M xs (sts.map flushG) := fun t ht => (h t ht).flush (n := n) (scRf_ok (by omega)) fun st hst => (hA st hst).2
theorem ScV.fail (h : ScV g k N aa G M xs sts) (ha : aa + M ≤ n) (x : Int) : ScV (butB g x) k N aa G M xs (failA n sts x) := fun t ht => (h t ht).fail (scRf_ok (by omega)) x
theorem putC_alvS (h : Alv n sts) (hx : Byt xs) (ha : aa + M ≤ n) : Alv n (putC n k N (scRf aa G) (scTx k aa G M xs) sts M) :=
  putC_alv h (M := M) (fun i hi => scRf_ok (by omega)) (fun i => scTx_byt hx i) M (Nat.le_refl _)
end
section
variable {P X S : Nat → Prop} {w0 w w' : World} {a p o l go gl ct fs np n cb bf k m t : Nat} {sts : List DSt}
def SputO (P X : Nat → Prop) (w0 w : World) (a cb bf k m n p o l go gl ct fs np t size : Nat) (xs : List Nat) (sts : List DSt) (e : Ending) (w' : World) : Prop :=
  ∃ (e2 p2 g2 ct2 s2 : Int) (M2 : Nat) (A : Option Addr) (c : Nat) (S' : Nat → Prop) (sts2 : List DSt), e = .returned (.tuple #[.agg #[.int .i64 p2, .int .u64 g2, .int .i64 ct2, .int .i64 s2], .slice A M2 c, .int .i64 e2]) ∧ M2 ≤ c ∧ RdL IntR 1 S' w' A M2 (plL (fs + t) M2) ∧ (∀ j, S' j → w.heap.size ≤ j ∧ j < w'.heap.size) ∧
    PoolT w' p o l go gl (ct + M2) fs np (t + M2) ∧ MidP P (fun j => X j ∨ S' j) w0 w' a cb bf k m n sts2 ∧ KpX X w w' ∧
    ((e2 = 0 ∧ M2 = scN k size ∧ t + M2 ≤ np ∧ p2 = ((fs + t : Nat) : Int) ∧ g2 = (ct : Int) ∧ ct2 = (M2 : Int) ∧ s2 = (size : Int) ∧ sts2 = putC n k (k + m) (scRf (fs + t) ct) (scTx k (fs + t) ct M2 xs) sts M2) ∨ (e2 = 140 ∧ M2 = 0 ∧ np - t < scN k size ∧ sts2 = sts))
theorem scp_or (h : MidP P X w0 w a cb bf k m n sts) (hP : PoolT w p o l go gl ct fs np t) (hPB : ∀ j, PoolB p o l go gl j → P j) {A : Option Addr} {size cx : Nat} {xs : List Nat} (R : RdL ByR 1 S w A size xs) (hSX : ∀ j, S j → X j) (hcx : size ≤ cx) (hs : size ≤ 2000) (hct : ct + scN k size ≤ 1048576) (htn : t ≤ np) (hnp : fs + np ≤ n) (hcl : ∀ st ∈ sts, st.cache.length < 800000) (h4 : scN k size ≤ 400) :
    Calls Tryz.prog 44 #[.pointer (some ⟨a, 0, none⟩), .pointer (some ⟨cb, 0, none⟩), .pointer (some ⟨p, 0, none⟩), .slice A size cx] w fun e w' => SputO P X w0 w a cb bf k m n p o l go gl ct fs np t size xs sts e w' := by
  by_cases ht : t + scN k size ≤ np
  · refine (scp_any h hP hPB R hSX hcx hs hct ht hnp hcl h4).mono ?_
    rintro e w' ⟨A', c, S', rfl, hc, hr, hS, hP', hM, hK⟩
    exact ⟨0, _, _, _, _, scN k size, A', c, S', _, rfl, hc, hr, hS, hP', hM, hK, .inl ⟨rfl, rfl, ht, rfl, rfl, rfl, rfl, rfl⟩⟩
  · refine (scp_full h hP (A := A) (c := cx) (by omega) h4 (by omega)).mono ?_
    rintro e w' ⟨rfl, hb⟩
    refine ⟨140, 0, 0, 0, 0, 0, none, 0, fun _ => False, sts, rfl, Nat.le_refl _, RdL.nil, fun j hj => hj.elim, hP.below hb, (h.below' hb).sub (fun j hj => hj.elim id False.elim), KpX.of_below hb fun j hj => h.lt hj, .inr ⟨rfl, rfl, by omega, rfl⟩⟩
end
end Go.Proofs.YtcliejdiaohamaaGreat

set_option linter.unusedSimpArgs false
set_option linter.unusedVariables false
namespace Go.Proofs.YtcliejdiaohamaaGreat
open Go.RowKit Go.Cib
attribute [local go_sem] cell_set Later.cell Later.frozen Grw.cell Grw.frozen
theorem scN_400 {k n : Nat} (hk : 1 ≤ k) (hn : n ≤ 2000) : scN k n ≤ 60 := by
  unfold scN
  split
  · omega
  · have h1 : (n - 1) / (k * 44 - 10) ≤ (n - 1) / 34 := Nat.div_le_div_left (by omega) (by omega)
    omega
end Go.Proofs.YtcliejdiaohamaaGreat

set_option linter.unusedSimpArgs false
set_option linter.unusedVariables false
namespace Go.Proofs.YtcliejdiaohamaaGreat
open Go.RowKit Go.Cib
attribute [local go_sem] cell_set Later.cell Later.frozen Grw.cell Grw.frozen
def Frs (st : DSt) : Prop := ∀ b ∈ st.rotten, b = false
theorem frs_put {n k N d : Nat} {r : Ref} (hr : r.ok n) {xs : List Nat} (hx : Byt xs) {st : DSt} (h : Frs st) : Frs (putQ n k N r xs d st) := by
  cases hd : st.dead with
  | true => rw [putQ_dead hd]; exact h
  | false => rw [putQ_live hr hx hd]; exact h
theorem frs_putC {n k N M : Nat} {rf : Nat → Ref} {tx : Nat → List Nat} {sts : List DSt} (h : ∀ st ∈ sts, Frs st) (hr : ∀ i, i < M → (rf i).ok n) (hx : ∀ i, Byt (tx i)) : ∀ i, i ≤ M → ∀ st ∈ putC n k N rf tx sts i, Frs st
  | 0, _ => h
  | i + 1, hi => fun st hst => by
    rw [putC] at hst
    obtain ⟨d, hd⟩ := List.getElem?_of_mem hst
    obtain ⟨s1, h1, rfl⟩ := mapIdx_at hd
    exact frs_put (hr i (by omega)) (hx i) (frs_putC h hr hx i (by omega) s1 (List.mem_of_getElem? h1))
theorem frs_flush {st : DSt} (h : Frs st) : Frs (flushG st) := by
  unfold flushG
  split
  · exact freshL_false _ _ _ _ h
  · exact h
/-- A drive that lives, with nothing under way and nothing spoilt. -/
structure Sld (n : Nat) (st : DSt) : Prop where
  live : st.dead = false
  ok : st.ok n
  cache : st.cache = []
  frs : Frs st
theorem sld_flush {n : Nat} {st : DSt} (h : st.dead = false) (hok : st.ok n) (hf : Frs st) : Sld n (flushG st) := ⟨by rw [flushG_dead]; exact h, flushG_ok hok, by unfold flushG; rw [if_pos h]; rfl, frs_flush hf⟩
theorem Sld.rotOk {n z : Nat} {st : DSt} (h : Sld n st) (hz : z < n) : rotDOk st n (z : Int) 16 255 := by
  have hl : z < st.rotten.length := by rw [h.ok.rl]; exact hz
  refine ⟨⟨h.live, by omega, by omega⟩, ⟨⟨by decide, by decide⟩, by decide⟩, ?_⟩
  rw [Int.toNat_natCast, List.getElem?_eq_getElem hl, h.frs _ (List.getElem_mem hl)]
theorem rotE_sld {n d z : Nat} {sts : List DSt} {st : DSt} (hd : sts[d]? = some st) (h : Sld n st) (hz : z < n) : rotE n sts (d : Int) (z : Int) 16 255 = 0 := by
  have hl := (List.getElem?_eq_some_iff.1 hd).1
  have hr := h.rotOk hz
  unfold rotE
  rw [if_pos ⟨by omega, by omega⟩, Int.toNat_natCast, hd]
  dsimp only
  exact rotC_ok ((ready_iff st n z).2 hr.1) hr.2.1 (by rw [hr.2.2]; rfl)
theorem rotA_sld {n d z : Nat} {sts : List DSt} {st : DSt} (hd : sts[d]? = some st) (h : Sld n st) (hz : z < n) : rotA n sts (d : Int) (z : Int) 16 255 = sts.set d (st.rot z 16 255) := by
  have hl := (List.getElem?_eq_some_iff.1 hd).1
  unfold rotA
  rw [if_pos ⟨by omega, by omega⟩, Int.toNat_natCast, hd]
  dsimp only
  unfold rtDA
  rw [if_pos (h.rotOk hz)]; rfl
theorem cell_rot2 {st : DSt} {z z' : Nat} (hc : st.cache = []) (hne : z' ≠ z) (off : Nat) (mask : Int) : (st.rot z off mask).seen z' = st.seen z' := by
  rw [DSt.seen_nil (st := st.rot z off mask) hc, DSt.seen_nil hc]
  show ((st.stored.set z (rotTo ((st.stored[z]?).getD []) off mask 4))[z']?).getD [] = _
  rw [List.getElem?_set_ne (fun e => hne e.symm)]
/-- Which drives still have the stripe i, when d of them lost the stripe ix. -/
def gLs (ix d i x : Nat) : Bool := if i = ix then decide (d ≤ x) else true
theorem gLs_cnt (ix d i N : Nat) : cntP (gLs ix d i) N = if i = ix then N - d else N := by
  unfold gLs
  split
  · induction N with
    | zero => simp [cntP]
    | succ N ih =>
      unfold cntP at ih ⊢
      rw [List.range_succ, List.filter_append, List.length_append, ih]
      by_cases h : d ≤ N
      · rw [List.filter_cons_of_pos (by simpa using h)]
        simp only [List.filter_nil, List.length_singleton]
        omega
      · rw [List.filter_cons_of_neg (by simpa using h)]
        simp only [List.filter_nil, List.length_nil]
        omega
  · exact cntP_true N
def LosI (n k N aa G M : Nat) (xs : List Nat) (ix d : Nat) (sts : List DSt) : Prop := (∀ j st, sts[j]? = some st → d ≤ j → Sld n st) ∧ ∀ i, i < M → Hds (gLs ix d i) k N (scRf aa G i) (scTx k aa G M xs i) sts
section
variable {n k N aa G M ix d : Nat} {xs : List Nat} {sts : List DSt}
theorem LosI.zero (h : ScV (fun _ => true) k N aa G M xs sts) (hs : ∀ st ∈ sts, Sld n st) : LosI n k N aa G M xs ix 0 sts :=
  ⟨fun j st hj _ => hs st (List.mem_of_getElem? hj), fun i hi => (h i hi).congr fun x _ => by unfold gLs; split <;> simp⟩
theorem LosI.rot (h : LosI n k N aa G M xs ix d sts) (hd : d < sts.length) (hk : 1 ≤ k) (hk2 : k ≤ 255) (ha : aa + M ≤ n) (hn : n ≤ 600) (hG : Hid (G + M < 2 ^ 63)) (hx : Byt xs) (hix : ix < M) (hN : 1 ≤ N) (hN2 : N ≤ 255) :
    rotE n sts (d : Int) ((aa + ix : Nat) : Int) 16 255 = 0 ∧ LosI n k N aa G M xs ix (d + 1) (rotA n sts (d : Int) ((aa + ix : Nat) : Int) 16 255) := by
  obtain ⟨h1, h2⟩ := h
  have hst : sts[d]? = some sts[d] := List.getElem?_eq_getElem hd
  have hS := h1 d _ hst (Nat.le_refl _)
  have hz : aa + ix < n := by omega
  refine ⟨rotE_sld hst hS hz, ?_⟩
  rw [rotA_sld hst hS hz]
  refine ⟨fun j st hj hdj => ?_, fun i hi => ?_⟩
  · rw [List.getElem?_set_ne (by omega)] at hj
    exact h1 j st hj (by omega)
  · refine (h2 i hi).set (fun x hx => ?_) fun _ => ?_
    · unfold gLs
      split
      · by_cases e : d ≤ x
        · rw [decide_eq_true e, decide_eq_true (by omega)]
        · rw [decide_eq_false e, decide_eq_false (by omega)]
      · rfl
    · have hH : HasS k N (scRf aa G i) (scTx k aa G M xs i) d sts[d] := by
        rcases h2 i hi d _ hst with ⟨_, h⟩ | ⟨hf, _⟩
        · exact h
        · unfold gLs at hf
          split at hf
          · exact absurd hf (by simp)
          · cases hf
      by_cases e : i = ix
      · refine .inr ⟨by unfold gLs; rw [if_pos e]; exact decide_eq_false (by omega), ?_⟩
        have hr := scRf_ok (a := aa) (G := G) (i := i) (n := n) (by omega)
        have hl := scTx_len hk aa G M xs i
        refine lost_rot (off := 16) (mask := 255) (putX_ok (k := k) (xs := scTx k aa G M xs i) hr hn (Lib.hid (by have := hG.out; show G + i < 2 ^ 64; omega)) (scTx_byt hx i) (by omega) hN hN2 d) (by decide) (by decide) (by decide) ?_
        rw [← hH.2]
        subst e
        exact cell_rot hS.cache hS.ok hz 16 255
      · refine .inl ⟨by unfold gLs; rw [if_neg e], hH.1, ?_⟩
        rw [← hH.2]
        exact cell_rot2 hS.cache (by show aa + i ≠ aa + ix; omega) 16 255
end
end Go.Proofs.YtcliejdiaohamaaGreat

set_option linter.unusedSimpArgs false
set_option linter.unusedVariables false
namespace Go.Proofs.YtcliejdiaohamaaGreat
open Go.RowKit Go.Cib
attribute [local go_sem] cell_set Later.cell Later.frozen Grw.cell Grw.frozen
attribute [local go_sem ↓] run_min_b run_max_b2
set_option maxRecDepth 100000 in
set_option maxHeartbeats 64000000 in
theorem sclost_any {w : World} {k m f c which : Int} {A1 : Option Addr} {n1 c1 : Nat} {xs : List Nat} (R1 : Hid (RdL ByR 1 (fun _ => True) w A1 n1 xs)) (hc1 : n1 ≤ c1) :
    Calls Tryz.prog 12 #[.agg (baseC k m f c), .slice A1 n1 c1, .int .i64 which] w fun e w' => e = .returned (.bool true) ∧ Below w.heap.size w w' := by
  have hsm := fun w => bsmall_any (w := w) k m f c
  have hb0 : Below w.heap.size w (w.alloc (.cells (baseC k m f c) 76)) := (Below.refl _ _).alloc (Nat.le_refl _) _
  have bB := BoxAt.new w (baseC k m f c) 76
  unfold baseC at hsm hb0 bB ⊢
  go_enter Tryz.func12, Tryz.ntmps12
  obtain ⟨wA, hwA⟩ : ∃ wA, w.alloc (.cells #[.int .i64 k, .int .i64 m, .int .i64 f, .int .i64 c] 76) = wA := ⟨_, rfl⟩
  obtain ⟨q, hq⟩ : ∃ q, w.heap.size = q := ⟨_, rfl⟩
  rw [hwA] at hb0 bB
  rw [hq] at bB
  have HB0 := Lib.hid hb0
  have BB := Lib.hid bB
  have c0 : wA.cell? ⟨q, 0, none⟩ = some (.int .i64 k) ∧ wA.cell? ⟨q, 1, none⟩ = some (.int .i64 m) ∧ wA.cell? ⟨q, 2, none⟩ = some (.int .i64 f) ∧ wA.cell? ⟨q, 3, none⟩ = some (.int .i64 c) := ⟨bB.cell 0, bB.cell 1, bB.cell 2, bB.cell 3⟩
  clear hb0 bB
  go_wp2_with fail
  clear hwA hq
  cases hs : bsmB k m f c with
  | false =>
    rw [hs] at hsm
    refine (hsm _).mono ?_
    clear hsm
    rintro e w1 ⟨rfl, hb1⟩
    have HB1 := Lib.hid (HB0.out.trans (hb1.mono HB0.out.size))
    clear c0
    go_wp2_with fail
    refine rolls_any.mono ?_
    rintro e wz ⟨rfl, hbz⟩
    go_wp2_with fail
    go_ret
    exact ⟨rfl, HB1.out.trans (hbz.mono HB1.out.size)⟩
  | true =>
    rw [hs] at hsm
    refine (hsm _).mono ?_
    clear hsm
    rintro e w1 ⟨rfl, hb1⟩
    have HB1 := Lib.hid (HB0.out.trans (hb1.mono HB0.out.size))
    have BB1 := Lib.hid (BB.out.below hb1)
    obtain ⟨k, m, f, c, rfl, rfl, rfl, rfl, k1, m1, km, f20, c1', c60⟩ := bsm_nat hs
    have c1s : w1.cell? ⟨q, 0, none⟩ = some (.int .i64 (k : Int)) ∧ w1.cell? ⟨q, 1, none⟩ = some (.int .i64 (m : Int)) ∧ w1.cell? ⟨q, 2, none⟩ = some (.int .i64 (f : Int)) ∧ w1.cell? ⟨q, 3, none⟩ = some (.int .i64 (c : Int)) := ⟨BB1.out.cell 0, BB1.out.cell 1, BB1.out.cell 2, BB1.out.cell 3⟩
    clear hs hb1 c0 BB
    have p1 : (0 : Int) ≤ (n1 : Int) := Int.natCast_nonneg _
    by_cases g0 : (n1 : Int) > 2000
    · go_wp2_with fail
      refine rolls_any.mono ?_
      rintro e wz ⟨rfl, hbz⟩
      go_wp2_with fail
      go_ret
      exact ⟨rfl, HB1.out.trans (hbz.mono HB1.out.size)⟩
    have hmd := bmade_any (w0 := w1) (w := w1) (k := k) (m := m) (f := f) (c := c) (Below.refl _ _) k1 m1 (by omega) c1' (by omega) (by omega)
    unfold baseC at hmd
    go_wp2_with fail
    refine hmd.mono ?_
    clear hmd c1s
    rintro e w3 ⟨a, cb, bf, p, o, l, go, gl, rfl, hM, hP, hb3⟩
    have HM3 := Lib.hid (show MidP (PoolB p o l go gl) (fun j => j < w1.heap.size) w1 w3 a cb bf k m (f + c) (newS (f + c) (k + m)) from hM)
    have HP3 := Lib.hid (PoolT.new hP)
    have HR1 := Lib.hid (RdL.bound1 ByR.stable (R1.out.below ByR.stable HB1.out))
    have HQ1 := Lib.hid (show q < w1.heap.size from BB1.out.lt)
    have hxb := by_byt HR1.out
    have hxl : xs.length = n1 := HR1.out.1
    have hM60 := scN_400 (k := k) (n := n1) k1 (by omega)
    have hMp := scN_pos k n1
    have HKW : Hid (∀ w' : World, Below w1.heap.size w1 w' → w'.cell? ⟨q, 1, none⟩ = some (.int .i64 (m : Int))) := Lib.hid fun w' hb => (BB1.out.below hb).cell 1
    clear hM hP hb3 R1 HB0
    have hpu := scp_or (cx := c1) HM3.out HP3.out (fun j hj => hj) (HR1.out.below ByR.stable HM3.out.bel) (fun j hj => hj.2) hc1 (by omega) (by omega) (Nat.zero_le _) (Nat.le_refl _) (fun st hst => by
      obtain ⟨d, hd, rfl⟩ := List.mem_iff_getElem.1 hst
      rw [(newS_at (List.getElem?_eq_getElem hd)).1]; show 0 < 800000; omega) (by omega)
    have HPU := Lib.hid hpu
    clear hpu
    go_wp2_with fail
    refine HPU.out.mono ?_
    clear HPU
    rintro e w4 ⟨e2, p2', g2', ct2, s2, M1, A4, c4, S4, sts4, rfl, hc4, hr4, hS4, hP4, hM4, hK4, hor⟩
    have bX := BoxAt.new w4 #[.int .i64 p2', .int .u64 g2', .int .i64 ct2, .int .i64 s2] 24
    have hb5 : Below w4.heap.size w4 (w4.alloc (.cells #[.int .i64 p2', .int .u64 g2', .int .i64 ct2, .int .i64 s2] 24)) := (Below.refl _ _).alloc (Nat.le_refl _) _
    have hM5 := hM4.below hb5
    obtain ⟨w5, hw5⟩ : ∃ w5, w4.alloc (.cells #[.int .i64 p2', .int .u64 g2', .int .i64 ct2, .int .i64 s2] 24) = w5 := ⟨_, rfl⟩
    obtain ⟨q12, hq12⟩ : ∃ q12, w4.heap.size = q12 := ⟨_, rfl⟩
    have hs5 : w5.heap.size = q12 + 1 := by rw [← hw5, ← hq12, World.size_alloc]
    rw [hw5] at bX hb5 hM5
    rw [hq12] at bX hM5
    have HX5 := Lib.hid bX
    have HM5 := Lib.hid hM5
    have HR4 := Lib.hid (hr4.below IntR.stable hb5)
    have HW5 := Lib.hid (HB1.out.trans (hM5.bel.mono HB1.out.size))
    have HQ12 := Lib.hid (show q12 < w5.heap.size by omega)
    obtain ⟨M, hMe⟩ : ∃ M, scN k n1 = M := ⟨_, rfl⟩
    rw [hMe] at hor hM60 hMp
    clear hb5 hM5 hM4 hP4 hr4 hK4 bX hS4
    rcases hor with ⟨rfl, rfl, htl, ep, eg, ec, es, rfl⟩ | ⟨rfl, rfl, hlt0, rfl⟩
    · have EQ := Lib.hid (show p2' = ((f + 0 : Nat) : Int) ∧ g2' = ((0 : Nat) : Int) ∧ ct2 = (M1 : Int) ∧ s2 = (n1 : Int) from ⟨ep, eg, ec, es⟩)
      clear ep eg ec es
      have gM : ¬ (M1 : Int) = 0 := by omega
      have hA5 := putC_alvS (n := f + c) (k := k) (N := k + m) (aa := f + 0) (G := 0) (M := M1) (Alv.new (f + c) (k + m)) hxb (by omega)
      have hV5 := ScV.new (n := f + c) (k := k) (N := k + m) (aa := f + 0) (G := 0) (M := M1) (Alv.new (f + c) (k + m)) hxb (by omega)
      have hF5 : ∀ st ∈ putC (f + c) k (k + m) (scRf (f + 0) 0) (scTx k (f + 0) 0 M1 xs) (newS (f + c) (k + m)) M1, Frs st := frs_putC (M := M1) (fun st hst => by
        obtain ⟨d, hd, rfl⟩ := List.mem_iff_getElem.1 hst
        rw [(newS_at (List.getElem?_eq_getElem hd)).1]
        exact fun b hb => List.eq_of_mem_replicate hb) (fun i hi => scRf_ok (by omega)) (fun i => scTx_byt hxb i) M1 (Nat.le_refl _)
      have hC5 : ∀ st ∈ putC (f + c) k (k + m) (scRf (f + 0) 0) (scTx k (f + 0) 0 M1 xs) (newS (f + c) (k + m)) M1, st.cache.length < 1 + M1 := putC_cache (fun st hst => by
        obtain ⟨d, hd, rfl⟩ := List.mem_iff_getElem.1 hst
        rw [(newS_at (List.getElem?_eq_getElem hd)).1]; show 0 < 1; omega) M1
      obtain ⟨sts5, hsts⟩ : ∃ sts5, putC (f + c) k (k + m) (scRf (f + 0) 0) (scTx k (f + 0) 0 M1 xs) (newS (f + c) (k + m)) M1 = sts5 := ⟨_, rfl⟩
      rw [hsts] at hA5 hV5 hC5 hF5 HM5
      have hVF := hV5.flush (n := f + c) (by omega) hA5
      obtain ⟨L, hL⟩ : ∃ L, M1 = L + 1 := ⟨M1 - 1, by omega⟩
      have hw1 : IntKind.i64.wrap ((M1 : Int) - 1) = (L : Int) := by rw [IntKind.wrap_i64]; omega
      obtain ⟨ix, hmx⟩ : ∃ ix : Nat, max 0 (min which (L : Int)) = (ix : Int) := ⟨(max 0 (min which (L : Int))).toNat, by omega⟩
      have hix : ix < M1 := by omega
      have HLZ := Lib.hid (LosI.zero (n := f + c) (ix := ix) hVF fun st hst => by
        obtain ⟨s1, h1, rfl⟩ := List.mem_map.1 hst
        exact sld_flush (hA5 s1 h1).1 (hA5 s1 h1).2 (hF5 s1 h1))
      obtain ⟨X5, hX5⟩ : ∃ X5 : Nat → Prop, (fun j => (j < w1.heap.size ∨ S4 j) ∨ q12 ≤ j ∧ j < w5.heap.size) = X5 := ⟨_, rfl⟩
      have HX12s : Hid (X5 q12) := Lib.hid (by rw [← hX5]; exact .inr ⟨Nat.le_refl _, HQ12.out⟩)
      have HX5s := Lib.hid (show (∀ j, S4 j → X5 j) ∧ X5 q12 by rw [← hX5]; exact ⟨fun j hj => .inl (.inr hj), .inr ⟨Nat.le_refl _, HQ12.out⟩⟩)
      rw [hX5] at HM5
      have HFL := Lib.hid (flush_p HM5.out (fun st hst => by have := hC5 st hst; omega))
      have HMe := Lib.hid hMe
      clear hA5 hV5 hF5 hC5 hVF hsts hX5 hs5 hL hMe
      go_wp2_with fail
      refine HFL.out.mono ?_
      clear HFL hw5 hq12
      obtain ⟨rfl, rfl, rfl, rfl⟩ := EQ.out
      clear EQ
      rintro e w6 ⟨rfl, hM6, hK6⟩
      have hKX := hK6.mono (Y := X5) fun j hj => .inl hj
      have HM6 := Lib.hid hM6
      have HX6 := Lib.hid (hKX.box HX5.out HX5s.out.2)
      have hr6 := hKX.rd IntR.stable HR4.out (fun j hj => HX5s.out.1 j hj)
      obtain ⟨b2, o2, rfl, _, hb2⟩ := hr6.addr hix
      obtain ⟨y, hy, v2⟩ := int_at1 hr6 hix
      obtain rfl : y = ((f + 0 + ix : Nat) : Int) := by
        unfold plL at hy
        rw [List.getElem?_map, List.getElem?_range hix] at hy
        exact (Option.some.inj hy).symm
      clear hM6 hK6 hKX hr6 hy HX5 HR4 HM5 HX5s
      go_wp2_with fail
      clear hw1 hmx v2 hb2
      go_loopw [14] (fun vd wr => ∃ (d : Nat) (sts' : List DSt), d ≤ m + 1 ∧ vd = .int .i64 d ∧ Hid (MidP (PoolB p o l go gl) X5 w1 wr a cb bf k m (f + c) sts') ∧ Hid (BoxAt wr q12 #[.int .i64 ((f + 0 : Nat) : Int), .int .u64 ((0 : Nat) : Int), .int .i64 (M1 : Int), .int .i64 (n1 : Int)]) ∧ Hid (LosI (f + c) k (k + m) (f + 0) 0 M1 xs ix d sts')) (fun vd _ => m + 1 - (intOf vd).toNat)
      case atStart => exact ⟨0, _, Nat.zero_le _, rfl, HM6, HX6, HLZ⟩
      case round =>
        clear HM6 HX6 HLZ
        obtain ⟨d, sts', hd2, rfl, HM, HX, HL⟩ := hrel
        have pd : (0 : Int) ≤ (d : Int) := Int.natCast_nonneg _
        have cm := HKW.out _ HM.out.bel
        have hg1 := scg_any (aa := f + 0) (G := 0) (gs := gLs ix d) HM.out.x.mid (by omega) (by omega) (by rw [HMe.out]; omega) (by rw [HMe.out]; omega) (Lib.hid (by rw [HMe.out]; omega)) hxb hxl (by rw [HMe.out]; exact HL.out.2)
        rw [HMe.out] at hg1
        unfold scC at hg1
        have HG1 := Lib.hid hg1
        have k0 := HX.out.cell 0
        have k1' := HX.out.cell 1
        have k2 := HX.out.cell 2
        have k3 := HX.out.cell 3
        clear hg1
        by_cases hlt : d ≤ m
        · have pd2 : (d : Int) ≤ (m : Int) := by omega
          have HRT := Lib.hid (HL.out.rot (by rw [HM.out.len]; omega) k1 (by omega) (by omega) (by omega) (Lib.hid (by omega)) hxb hix (by omega) (by omega))
          go_wp2_with fail
          refine HG1.out.mono ?_
          clear HG1 k0 k1' k2 k3 cm
          rintro e w14 ⟨hb14, ⟨⟨i, hi, hlo⟩, _⟩ | ⟨_, A5, c5, A6, c6, rfl, hc5, hr5, hc6, hr6⟩⟩
          · rw [gLs_cnt] at hlo
            split at hlo <;> exact absurd hlo (by omega)
          have hrt := rot_p (HM.out.below' hb14) (d : Int) ((f + 0 + ix : Nat) : Int) 16 255
          rw [HRT.out.1] at hrt
          have HRP := Lib.hid hrt
          have HX14 := Lib.hid (HX.out.below hb14)
          have HLn := Lib.hid HRT.out.2
          have HSX := Lib.hid (HX.out.lt)
          clear hrt hr5 hr6 HRT HL HM HX hc5 hc6
          go_wp2_with fail
          refine HRP.out.mono ?_
          clear HRP
          rintro e w15 ⟨rfl, hM15, hK15⟩
          have HM15 := Lib.hid hM15
          have HX15 := Lib.hid (hK15.box HX14.out (.inl HX12s.out))
          clear hM15 hK15
          go_wp2_with fail
          exact ⟨⟨d + 1, _, by omega, by go_num, HM15, HX15, HLn⟩, by simp [intOf]; omega⟩
        · have pd2 : ¬ (d : Int) ≤ (m : Int) := by omega
          go_wp2_with fail
          refine HG1.out.mono ?_
          clear HG1 k0 k1' k2 k3 cm
          rintro e w14 ⟨hb14, ⟨_, rfl⟩ | ⟨hhi, _⟩⟩
          · have HW14 := Lib.hid (HB1.out.trans ((HM.out.below' hb14).bel.mono HB1.out.size))
            clear hb14
            go_wp2_with fail
            refine rolls_any.mono ?_
            rintro e wz ⟨rfl, hbz⟩
            go_wp2_with fail
            go_ret
            exact ⟨rfl, HW14.out.trans (hbz.mono HW14.out.size)⟩
          · have h2 := hhi ix hix
            rw [gLs_cnt, if_pos rfl] at h2
            exact absurd h2 (by omega)
    · clear hs5
      go_wp2_with fail
      refine rolls_any.mono ?_
      rintro e wz ⟨rfl, hbz⟩
      go_wp2_with fail
      go_ret
      exact ⟨rfl, HW5.out.trans (hbz.mono HW5.out.size)⟩
end Go.Proofs.YtcliejdiaohamaaGreat

set_option linter.unusedSimpArgs false
set_option linter.unusedVariables false
namespace Go.Proofs.YtcliejdiaohamaaGreat
open Go.RowKit Go.Cib
attribute [local go_sem] cell_set Later.cell Later.frozen Grw.cell Grw.frozen
open Go.ChangeShapes Go.WideShapes Go.ChangeAt Go.Deep
theorem opens_by : Opens Tryz.prog 5 ByR 1 :=
  ⟨by kernel_rfl, by omega, fun H enc w base spare held fuel cs x _ hx => by
    obtain ⟨n, rfl, _, hw⟩ := DataW.trod_int Tryz.underlying5 hx
    have h2 : 0 ≤ n ∧ n ≤ 255 := by
      simp [Lit.wf, IntKind.min, IntKind.max, IntKind.signed, IntKind.bits] at hw
      omega
    exact ⟨n.toNat, by omega, by rw [show ((n.toNat : Nat) : Int) = n by omega]⟩⟩
end Go.Proofs.YtcliejdiaohamaaGreat

set_option linter.unusedSimpArgs false
set_option linter.unusedVariables false
namespace Go.Proofs.YtcliejdiaohamaaGreat
open Go.RowKit Go.Cib
attribute [local go_sem] cell_set Later.cell Later.frozen Grw.cell Grw.frozen
open Go.ChangeShapes Go.WideShapes Go.ChangeAt Go.Deep
set_option maxRecDepth 100000 in
theorem open_base {H : Type} {enc : TypeId × Value → H} {w : World} {base b0 : Nat} {spare : Nat → Bool} {held : Bool} {r : Reach} {v : Value} {d : DataW H} {ps : List MemPlace}
    (hval : Value.okWide Tryz.prog w r b0 76 v) (h : DataW.Trod enc Tryz.prog w base spare held 76 v d ps) : ∃ k m f c : Int, v = .agg #[.int .i64 k, .int .i64 m, .int .i64 f, .int .i64 c] := by
  obtain ⟨cs, rfl, hsz⟩ := okWide_struct Tryz.underlying76 hval
  obtain ⟨fuel, hx⟩ := h
  have h5 : cs.size = 4 := hsz.trans (by kernel_rfl)
  have hl : (Value.agg cs).cells.toList.length = 4 := by simpa [Value.cells] using h5
  obtain ⟨xs, n, _, _, hlen, hxl, hf⟩ := DataW.trod_struct Tryz.underlying76 hx
  have e0 : (Value.agg cs).cells.toList = cs.toList := rfl
  rw [e0] at hf hl
  match hc : cs.toList, hl with
  | [c0, c1, c2, c3], _ =>
    rw [hc] at hf
    have f0 := hf 0 _ rfl
    have f1 := hf 1 _ rfl
    have f2 := hf 2 _ rfl
    have f3 := hf 3 _ rfl
    have k1 : Tryz.prog.cellsOf 3 = 1 := by kernel_rfl
    have hx3 : xs.length = 4 := hxl
    simp only [List.getElem_toArray, List.getElem_cons_zero, List.getElem_cons_succ, k1, List.drop_zero, List.drop_succ_cons, List.take_succ_cons, List.take_zero] at f0 f1 f2 f3
    rw [List.getElem?_eq_getElem (by omega)] at f0 f1 f2 f3
    obtain ⟨s, e1, _, _⟩ := DataW.trod_int Tryz.underlying3 f0
    obtain ⟨t, e2, _, _⟩ := DataW.trod_int Tryz.underlying3 f1
    obtain ⟨u, e3, _, _⟩ := DataW.trod_int Tryz.underlying3 f2
    obtain ⟨x, e4, _, _⟩ := DataW.trod_int Tryz.underlying3 f3
    simp only [List.cons.injEq, and_true] at e1 e2 e3 e4
    subst e1; subst e2; subst e3; subst e4
    refine ⟨s, t, u, x, ?_⟩
    rw [show cs = cs.toList.toArray by simp, hc]
end Go.Proofs.YtcliejdiaohamaaGreat
