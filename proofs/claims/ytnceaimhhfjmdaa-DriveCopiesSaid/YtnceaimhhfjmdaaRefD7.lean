/-
  The document's drive: Stored.
-/
import Derived.Test.YtnceaimhhfjmdaaRefD6
set_option linter.unusedSimpArgs false
set_option linter.unusedVariables false
namespace Go.Proofs.Ytnceaimhhfjmdaa
open Go.RowKit Go.Cib
attribute [local go_sem] cell_set Later.cell Later.frozen Grw.cell Grw.frozen
attribute [local go_sem ↓] shut_build shut_slice

/-- What lies at k. -/
def storedE (L : List Ev) (k : Int) : List Int := L.foldl (fun b e => if e.at_ = k then (if e.mask = 0 then e.b else rotTo b e.off.toNat e.mask 4) else b) (rep 0)
theorem storedE_snoc (L : List Ev) (e : Ev) (k : Int) : storedE (L ++ [e]) k = if e.at_ = k then (if e.mask = 0 then e.b else rotTo (storedE L k) e.off.toNat e.mask 4) else storedE L k := by simp [storedE]
/-- An event that can be. -/
def EvOk (e : Ev) : Prop := (e.mask = 0 ∧ e.b.length = 64) ∨ (¬ e.mask = 0 ∧ 0 ≤ e.off ∧ e.off ≤ 60)
theorem storedE_len (k : Int) : ∀ (L : List Ev), (∀ e ∈ L, EvOk e) → (storedE L k).length = 64 := by
  intro L
  suffices h : ∀ (L : List Ev) (b : List Int), b.length = 64 → (∀ e ∈ L, EvOk e) → (L.foldl (fun b e => if e.at_ = k then (if e.mask = 0 then e.b else rotTo b e.off.toNat e.mask 4) else b) b).length = 64 from fun h1 => h L (rep 0) (rep_len 0) h1
  intro L
  induction L with
  | nil => intro b hb _; exact hb
  | cons e L ih =>
    intro b hb hL
    refine ih _ ?_ (fun d hd => hL d (List.mem_cons_of_mem _ hd))
    have he := hL e (by simp)
    show (if e.at_ = k then (if e.mask = 0 then e.b else rotTo b e.off.toNat e.mask 4) else b).length = 64
    split
    · split
      · rcases he with h | h
        · exact h.2
        · exact absurd (by assumption) h.1
      · rw [rotTo_len]; exact hb
    · exact hb
theorem ownL_u8 {base : Nat} {S : Nat → Prop} {w : World} {v : Value} {n : Nat} {bs : List Int} (h : OwnL U8R 5 1 base S w v n bs) : w.ownsRow base 5 1 v n (secCells bs) := by
  obtain ⟨css, h1, h2, h3, h4, h5⟩ := h
  have e : css.flatten = secCells bs := by
    have hc : css = bs.map (fun x => [Value.int .u8 x]) := by
      apply List.ext_getElem
      · simp [h2, h3]
      · intro i hi hi2
        have := h5 i _ _ (List.getElem?_eq_getElem hi) (List.getElem?_eq_getElem (by omega : i < bs.length))
        simpa using (show css[i] = [.int .u8 bs[i]] from this)
    rw [hc]
    clear hc h5 h2
    induction bs with
    | nil => rfl
    | cons x l ih => rw [List.map_cons, List.flatten_cons]; exact congrArg (Value.int .u8 x :: ·) (by simpa [secCells] using ih)
  rw [← e]; exact h1
theorem row_rd {base : Nat} {w : World} {g cap : Nat} {bs : List Int} (h : w.ownsRow base 5 1 (.slice (some ⟨g, 0, none⟩) 64 cap) 64 (secCells bs)) : RdL U8R 1 (base ≤ ·) w (some ⟨g, 0, none⟩) 64 bs := by
  have hl : bs.length = 64 := by have := h.1; simpa [secCells] using this
  refine ⟨hl, fun _ => ⟨g, 0, rfl, (h.lt g rfl).1, (h.lt g rfl).2, fun i x hx => ⟨[.int .u8 x], rfl, rfl, fun j v hj => ?_⟩⟩⟩
  have hil := (List.getElem?_eq_some_iff.1 hx).1
  match j, hj with
  | 0, hj =>
    simp only [List.getElem?_cons_zero, Option.some.injEq] at hj
    subst hj
    rw [h.cellAt _ (by omega)]
    simp [secCells, hx]

set_option maxRecDepth 100000 in
set_option maxHeartbeats 8000000 in
theorem rstored_good {G : Nat → Prop} {w : World} {x n : Nat} {rs : RSt} (h : Hid (RefAt G w x n rs)) (hd : rs.gone = false) (z : Nat) (hz : z < n) (hcl : rs.L.length < 1000000) (hok : Hid (∀ e ∈ rs.L, EvOk e)) :
    Calls Try.prog 67 #[.pointer (some ⟨x, 0, none⟩), .int .i64 z] w fun e w' => ∃ g c, e = .returned (.slice (some ⟨g, 0, none⟩) 64 c) ∧ w.heap.size ≤ g ∧ g < w'.heap.size ∧ RdL U8R 1 (· = g) w' (some ⟨g, 0, none⟩) 64 (storedE rs.L z) ∧ Below w.heap.size w w' := by
  obtain ⟨Sb, vL, vW, hB, _⟩ := h.out
  obtain ⟨k0, k1, k2, k3⟩ := ref_cells hB
  clear hB
  rw [hd] at k3
  have e1 : decide (0 ≤ (z : Int) ∧ (z : Int) < n) = true := by simp; omega
  go_enter Try.func67, Try.ntmps67
  go_wp2_with fail
  refine (rhas_any h z).mono ?_
  rintro e w1 ⟨rfl, t1⟩
  rw [e1]
  clear e1 k0 k1 k2 k3
  obtain ⟨Sb, vL, vW, hB, g1, g2, g3, g4, lt⟩ := h.out.below t1
  obtain ⟨AL, cL, rfl⟩ := ownL_form hB.oL
  have kL : Hid (∀ w', Below w1.heap.size w1 w' → w'.cell? ⟨x, 1, none⟩ = some (.slice AL rs.L.length cL) ∧ OwnL EvR 112 4 0 Sb w' (.slice AL rs.L.length cL) rs.L.length rs.L) := Lib.hid fun w' hb => ⟨(hb.cell (p := ⟨x, 1, none⟩) (lt x g1)).trans (hB.box.cell 1), hB.oL.keep EvR.stable hb⟩
  have hmk := make64 w1
  have b0 := World.ownsRow_lit (base := w1.heap.size) (e := 5) (size := 1) w1 ((List.replicate 64 (0 : Int)).map (Value.int .u8)).toArray 64 (Nat.le_refl _) (by decide) (by simp)
  have a1 : Below w1.heap.size w1 (w1.alloc (.cells ((List.replicate 64 (0 : Int)).map (Value.int .u8)).toArray 5)) := (Below.refl _ _).alloc (Nat.le_refl _) _
  obtain ⟨w2, hw2⟩ : ∃ w2, w1.alloc (.cells ((List.replicate 64 (0 : Int)).map (Value.int .u8)).toArray 5) = w2 := ⟨_, rfl⟩
  rw [hw2] at hmk b0 a1
  have B0 : Hid (w2.ownsRow w1.heap.size 5 1 (.slice (some ⟨w1.heap.size, 0, none⟩) 64 64) 64 (secCells (rep 0))) := Lib.hid (by simpa [secCells, rep, -List.reduceReplicate] using b0)
  have A1 := Lib.hid a1
  have T1 := Lib.hid t1
  have hw1s := t1.size
  clear b0 a1 hw2 hB t1
  go_wp2_with fail
  clear hmk
  go_loopw [5, 6] (fun vb vi wr => ∃ (i g cap : Nat) (bs : List Int), i ≤ rs.L.length ∧ vi = .int .i64 i ∧ vb = .slice (some ⟨g, 0, none⟩) 64 cap ∧ Hid (bs = storedE (rs.L.take i) z) ∧ Hid (wr.ownsRow w1.heap.size 5 1 (.slice (some ⟨g, 0, none⟩) 64 cap) 64 (secCells bs)) ∧ Hid (Below w1.heap.size w1 wr)) (fun _ vi _ => rs.L.length - (intOf vi).toNat)
  case atStart => exact ⟨0, w1.heap.size, 64, rep 0, Nat.zero_le _, rfl, rfl, Lib.hid rfl, B0, A1⟩
  case round =>
    clear B0 A1
    obtain ⟨wo, rfl⟩ : ∃ wo, wo = wr := ⟨_, rfl⟩
    obtain ⟨i, g, cap, bs, hi, rfl, rfl, hbs, hrow, hW1⟩ := hrel
    by_cases hlt : i < rs.L.length
    · have h1 : (i : Int) < (rs.L.length : Int) := by omega
      have h2 : (0 : Int) ≤ (i : Int) := Int.natCast_nonneg _
      have h3 : (i : Int) < 1000000 := by omega
      obtain ⟨k1, hoL⟩ := kL.out wo hW1.out
      obtain ⟨ge, e, B, mm, d, rfl, he, hre, y0, y1, y2, y3⟩ := ev_at hoL hlt
      have HR := Lib.hid hre
      have hee : e ∈ rs.L := List.mem_of_getElem? he
      have htk : rs.L.take (i + 1) = rs.L.take i ++ [e] := by rw [List.take_succ_eq_append_getElem hlt, (List.getElem?_eq_some_iff.1 he).2]
      have hs := storedE_snoc (rs.L.take i) e z
      rw [← htk] at hs
      clear hoL hre he htk
      by_cases ha : e.at_ = z
      · rw [if_pos ha] at hs
        have hok1 := hok.out e hee
        clear hee
        rw [ha] at y0
        by_cases hm : e.mask = 0
        · rw [if_pos hm] at hs
          have HS := Lib.hid hs
          rw [hm] at y3
          have hl : e.b.length = 64 := by
            rcases hok1 with h | h
            · exact h.2
            · exact absurd hm h.1
          obtain rfl : mm = 64 := HR.out.1.symm.trans hl
          have own0 : OwnL U8R 5 1 (wo.heap.size + 1) (fun _ => False) ((wo.alloc (.cells #[.int .i64 z, .slice B 64 d, .int .i64 e.off, .int .u32 0] 112)).alloc (.cells #[] 5)) (.slice (some ⟨wo.heap.size + 1, 0, none⟩) 0 0) 0 [] := by
            have := OwnL.made (R := U8R) (E := 5) (s := 1) (S := fun _ => False) (base := wo.heap.size + 1) (w := wo.alloc (.cells #[.int .i64 z, .slice B 64 d, .int .i64 e.off, .int .u32 0] 112)) #[] 0 (by simp) (by decide) (by simp)
            simpa only [World.size_alloc] using this
          have hB9 : Below wo.heap.size wo ((wo.alloc (.cells #[.int .i64 z, .slice B 64 d, .int .i64 e.off, .int .u32 0] 112)).alloc (.cells #[] 5)) := ((Below.refl _ _).alloc (Nat.le_refl _) _).alloc (by simp) _
          have rd9 := HR.out.below U8R.stable hB9
          have g9 : Hid (∀ w8, ((wo.alloc (.cells #[.int .i64 z, .slice B 64 d, .int .i64 e.off, .int .u32 0] 112)).alloc (.cells #[] 5)).grownBy w8 (Value.slice (some ⟨wo.heap.size + 1, 0, none⟩) 0 0).ownBlock → Below wo.heap.size wo w8) := Lib.hid fun w8 hg => hB9.trans ⟨hg.os, hg.tape, hg.output, hg.size, fun k hk => hg.block k (by simp; omega) (by simp [Value.ownBlock]; omega)⟩
          have s1 := hW1.out.size
          clear hs hB9 hok1 hl
          go_wp2_with (at_builtin; go_must (refine wpList_appL U8R.stable U8R.one slU8 (by rfl) (by rfl) (base := wo.heap.size + 1) (S := fun _ => False) (by rfl) own0 (by rfl) rd9 (fun _ _ hy => hy) (by decide) (by decide) (by simp) ?_); intro A8 c8 w8 hc8 own8 hg8 hat8)
          have hb8 := g9.out w8 hg8
          have r8 := ownL_u8 own8
          obtain ⟨g8, cap8, e8, _, _⟩ := r8.form (by omega)
          obtain ⟨rfl, rfl⟩ : A8 = some ⟨g8, 0, none⟩ ∧ c8 = cap8 := by simpa using e8
          refine ⟨⟨i + 1, g8, c8, e.b, by omega, by go_num, rfl, Lib.hid HS.out.symm, Lib.hid ?_, Lib.hid (hW1.out.trans (hb8.mono s1))⟩, by simp [intOf]; omega⟩
          have r9 : w8.ownsRow (wo.heap.size + 1) 5 1 (.slice (some ⟨g8, 0, none⟩) 64 c8) 64 (secCells e.b) := r8
          exact ⟨r9.1, r9.2.imp id fun ⟨g, cap, cur, e, hg, r⟩ => ⟨g, cap, cur, e, by omega, r⟩⟩
        · rw [if_neg hm] at hs
          have HS := Lib.hid hs
          have hmf : (e.mask == 0) = false := by simpa using hm
          have hoff : 0 ≤ e.off ∧ e.off ≤ 60 := by
            rcases hok1 with h | h
            · exact absurd h.1 hm
            · exact h.2
          obtain ⟨o, ho⟩ : ∃ o : Nat, e.off = o := ⟨e.off.toNat, by omega⟩
          rw [ho] at y2 hoff HS
          have hge : g < wo.heap.size := (hrow.out.lt g rfl).2
          have s1 := hW1.out.size
          have hg1 : w1.heap.size ≤ g := (hrow.out.lt g rfl).1
          have hlb : bs.length = 64 := by have := hrow.out.1; simpa [secCells] using this
          have Q0 : Hid (BoxAt (wo.alloc (.cells #[.int .i64 z, .slice B mm d, .int .i64 o, .int .u32 e.mask] 112)) wo.heap.size #[.int .i64 z, .slice B mm d, .int .i64 o, .int .u32 e.mask]) := Lib.hid (BoxAt.new _ _ _)
          have O0 : Hid ((wo.alloc (.cells #[.int .i64 z, .slice B mm d, .int .i64 o, .int .u32 e.mask] 112)).ownsRow w1.heap.size 5 1 (.slice (some ⟨g, 0, none⟩) 64 cap) 64 (secCells (rotTo bs o e.mask 0))) := Lib.hid (hrow.out.alloc _)
          have W0 : Hid (Below w1.heap.size w1 (wo.alloc (.cells #[.int .i64 z, .slice B mm d, .int .i64 o, .int .u32 e.mask] 112))) := Lib.hid (hW1.out.alloc s1 _)
          clear hs hok1
          go_wp2_with fail
          go_loopw [8] (fun vk wr => ∃ k : Nat, k ≤ 4 ∧ vk = .int .i64 k ∧ Hid (BoxAt wr wo.heap.size #[.int .i64 z, .slice B mm d, .int .i64 o, .int .u32 e.mask]) ∧ Hid (wr.ownsRow w1.heap.size 5 1 (.slice (some ⟨g, 0, none⟩) 64 cap) 64 (secCells (rotTo bs o e.mask k))) ∧ Hid (Below w1.heap.size w1 wr)) (fun vk _ => 4 - (intOf vk).toNat)
          case atStart => exact ⟨0, Nat.zero_le _, rfl, Q0, O0, W0⟩
          case round =>
            clear Q0 O0 W0 y0 y1 y2 y3 k1
            obtain ⟨k, hk, rfl, Q, O, W⟩ := hrel
            by_cases hk4 : k < 4
            · have hlen : (rotTo bs o e.mask k).length = 64 := by rw [rotTo_len]; exact hlb
              obtain ⟨ov, hov⟩ : ∃ v, (rotTo bs o e.mask k)[o + k]? = some v := ⟨_, List.getElem?_eq_getElem (by omega)⟩
              have q0 : wr.cell? ⟨g, o + k, none⟩ = some (.int .u8 ov) := by rw [O.out.cellAt _ (by omega)]; simp [secCells, hov]
              have q1 := O.out.frozenAt (o + k)
              have q2 : wr.cell? ⟨wo.heap.size, 2, none⟩ = some (.int .i64 (o : Int)) := Q.out.cell 2
              have q3 : wr.cell? ⟨wo.heap.size, 3, none⟩ = some (.int .u32 e.mask) := Q.out.cell 3
              have hne : wo.heap.size ≠ g := by omega
              have hoi : IntKind.i64.wrap ((o : Int) + (k : Int)) = (o : Int) + (k : Int) := by rw [IntKind.wrap_i64]; omega
              have hoj : (0 : Int) ≤ (o : Int) + (k : Int) := by omega
              have hok2 : (o : Int) + (k : Int) < 64 := by omega
              have hot : ((o : Int) + (k : Int)).toNat = o + k := by omega
              have h8 : IntKind.i64.wrap (8 * (k : Int)) = ((8 * k : Nat) : Int) := by rw [IntKind.wrap_i64]; omega
              have h80 : (0 : Int) ≤ ((8 * k : Nat) : Int) := Int.natCast_nonneg _
              have O2 := Lib.hid (O.out.stored (o + k) (.int .u8 (rotV ov e.mask k))).1
              have e2 : (secCells (rotTo bs o e.mask k)).set (o + k) (.int .u8 (rotV ov e.mask k)) = secCells (rotTo bs o e.mask (k + 1)) := by simp [secCells, rotTo, hov, List.map_set]
              rw [e2] at O2
              have Q2 := Lib.hid (Q.out.set_other (p := ⟨g, o + k, none⟩) hne (.int .u8 (rotV ov e.mask k)))
              have W2 := Lib.hid (W.out.setCell (p := ⟨g, o + k, none⟩) hg1 (.int .u8 (rotV ov e.mask k)))
              clear hov hlen e2 O Q W hm hmf ha h1 h2 h3 hlt hg1 hge hlb
              go_wp2_with fail
              refine wp_region_held_drew (S := fun w' => w'.cell? ⟨wo.heap.size, 2, none⟩ = some (.int .i64 (o : Int)) ∧ w'.cell? ⟨wo.heap.size, 3, none⟩ = some (.int .u32 e.mask)) (by kernel_rfl) (by first | exact ⟨q2, q3⟩ | exact ⟨cell_setCell_ne (w := World.drew _) q2 hne, cell_setCell_ne (w := World.drew _) q3 hne⟩) (fun hHeld => ?_)
              refine wpAnyH_take (i := 0) (v := ?_) rfl (by kernel_rfl) (by kernel_rfl) (by kernel_rfl) (fun _ _ _ h => h) (Or.inl ⟨by rfl, ?_⟩) (by assumption) ?_
              rotate_left
              · (intro wq hSw; (try dsimp only at hSw); (try simp only [List.getElem_toArray, List.getElem_cons_succ, List.getElem_cons_zero]); go_simp); try with_reducible rfl
              try simp only [List.getElem_toArray, List.getElem_cons_succ, List.getElem_cons_zero, Act.put, List.setIfInBounds_toArray, List.set_cons_zero, List.set_cons_succ]
              refine wpAnyH_take (i := 1) (v := ?_) rfl (by kernel_rfl) (by kernel_rfl) (by kernel_rfl) (fun _ _ _ h => h) (Or.inl ⟨by rfl, ?_⟩) (by assumption) ?_
              rotate_left
              · (intro wq hSw; (try dsimp only at hSw); (try simp only [List.getElem_toArray, List.getElem_cons_succ, List.getElem_cons_zero]); go_simp); try with_reducible rfl
              try simp only [List.getElem_toArray, List.getElem_cons_succ, List.getElem_cons_zero, Act.put, List.setIfInBounds_toArray, List.set_cons_zero, List.set_cons_succ]
              refine wpAnyH_take (i := 2) (v := ?_) rfl (by kernel_rfl) (by kernel_rfl) (by kernel_rfl) (fun _ _ _ h => h) (Or.inl ⟨by rfl, ?_⟩) (by assumption) ?_
              rotate_left
              · (intro wq hSw; (try dsimp only at hSw); (try simp only [List.getElem_toArray, List.getElem_cons_succ, List.getElem_cons_zero]); go_simp); try with_reducible rfl
              try simp only [List.getElem_toArray, List.getElem_cons_succ, List.getElem_cons_zero, Act.put, List.setIfInBounds_toArray, List.set_cons_zero, List.set_cons_succ]
              refine wpAnyH_take (i := 3) (v := ?_) rfl (by kernel_rfl) (by kernel_rfl) (by kernel_rfl) (fun _ _ _ h => h) (Or.inl ⟨by rfl, ?_⟩) (by assumption) ?_
              rotate_left
              · (intro wq hSw; (try dsimp only at hSw); (try simp only [List.getElem_toArray, List.getElem_cons_succ, List.getElem_cons_zero]); go_simp); try with_reducible rfl
              try simp only [List.getElem_toArray, List.getElem_cons_succ, List.getElem_cons_zero, Act.put, List.setIfInBounds_toArray, List.set_cons_zero, List.set_cons_succ]
              refine wpAnyH_take (i := 4) (v := ?_) rfl (by kernel_rfl) (by kernel_rfl) (by kernel_rfl) (fun _ _ _ h => h) (Or.inl ⟨by rfl, ?_⟩) (by assumption) ?_
              rotate_left
              · (intro wq hSw; (try dsimp only at hSw); (try simp only [List.getElem_toArray, List.getElem_cons_succ, List.getElem_cons_zero]); go_simp); try with_reducible rfl
              try simp only [List.getElem_toArray, List.getElem_cons_succ, List.getElem_cons_zero, Act.put, List.setIfInBounds_toArray, List.set_cons_zero, List.set_cons_succ]
              refine wpAnyH_take (i := 5) (v := ?_) rfl (by kernel_rfl) (by kernel_rfl) (by kernel_rfl) (fun _ _ _ h => h) (Or.inl ⟨by rfl, ?_⟩) (by assumption) ?_
              rotate_left
              · (intro wq hSw; (try dsimp only at hSw); (try simp only [List.getElem_toArray, List.getElem_cons_succ, List.getElem_cons_zero]); go_simp); try with_reducible rfl
              try simp only [List.getElem_toArray, List.getElem_cons_succ, List.getElem_cons_zero, Act.put, List.setIfInBounds_toArray, List.set_cons_zero, List.set_cons_succ]
              refine wpAnyH_take (i := 6) (v := ?_) rfl (by kernel_rfl) (by kernel_rfl) (by kernel_rfl) (fun _ _ _ h => h) (Or.inl ⟨by rfl, ?_⟩) (by assumption) ?_
              rotate_left
              · (intro wq hSw; (try dsimp only at hSw); (try simp only [List.getElem_toArray, List.getElem_cons_succ, List.getElem_cons_zero]); go_simp); try with_reducible rfl
              try simp only [List.getElem_toArray, List.getElem_cons_succ, List.getElem_cons_zero, Act.put, List.setIfInBounds_toArray, List.set_cons_zero, List.set_cons_succ]
              refine wpAnyH_take (i := 7) (v := ?_) rfl (by kernel_rfl) (by kernel_rfl) (by kernel_rfl) (fun _ _ _ h => h) (Or.inl ⟨by rfl, ?_⟩) (by assumption) ?_
              rotate_left
              · (intro wq hSw; (try dsimp only at hSw); (try simp only [List.getElem_toArray, List.getElem_cons_succ, List.getElem_cons_zero]); go_simp); try with_reducible rfl
              try simp only [List.getElem_toArray, List.getElem_cons_succ, List.getElem_cons_zero, Act.put, List.setIfInBounds_toArray, List.set_cons_zero, List.set_cons_succ]
              refine wpAnyH_take (i := 8) (v := ?_) rfl (by kernel_rfl) (by kernel_rfl) (by kernel_rfl) (fun _ _ _ h => h) (Or.inl ⟨by rfl, ?_⟩) (by assumption) ?_
              rotate_left
              · (intro wq hSw; (try dsimp only at hSw); (try simp only [List.getElem_toArray, List.getElem_cons_succ, List.getElem_cons_zero]); go_simp); try with_reducible rfl
              try simp only [List.getElem_toArray, List.getElem_cons_succ, List.getElem_cons_zero, Act.put, List.setIfInBounds_toArray, List.set_cons_zero, List.set_cons_succ]
              refine wpAnyH_take (i := 9) (v := ?_) rfl (by kernel_rfl) (by kernel_rfl) (by kernel_rfl) (fun _ _ _ h => h) (Or.inl ⟨by rfl, ?_⟩) (by assumption) ?_
              rotate_left
              · (intro wq hSw; (try dsimp only at hSw); (try simp only [List.getElem_toArray, List.getElem_cons_succ, List.getElem_cons_zero]); go_simp); try with_reducible rfl
              try simp only [List.getElem_toArray, List.getElem_cons_succ, List.getElem_cons_zero, Act.put, List.setIfInBounds_toArray, List.set_cons_zero, List.set_cons_succ]
              refine wpAnyH_take (i := 10) (v := ?_) rfl (by kernel_rfl) (by kernel_rfl) (by kernel_rfl) (fun _ _ _ h => h) (Or.inl ⟨by rfl, ?_⟩) (by assumption) ?_
              rotate_left
              · (intro wq hSw; (try dsimp only at hSw); (try simp only [List.getElem_toArray, List.getElem_cons_succ, List.getElem_cons_zero]); go_simp); try with_reducible rfl
              try simp only [List.getElem_toArray, List.getElem_cons_succ, List.getElem_cons_zero, Act.put, List.setIfInBounds_toArray, List.set_cons_zero, List.set_cons_succ]
              refine wpAnyH_take (i := 12) (v := ?_) rfl (by kernel_rfl) (by kernel_rfl) (by kernel_rfl) (fun _ _ _ h => h) (Or.inl ⟨by rfl, ?_⟩) (by assumption) ?_
              rotate_left
              · (intro wq hSw; (try dsimp only at hSw); (try simp only [List.getElem_toArray, List.getElem_cons_succ, List.getElem_cons_zero]); go_simp); try with_reducible rfl
              try simp only [List.getElem_toArray, List.getElem_cons_succ, List.getElem_cons_zero, Act.put, List.setIfInBounds_toArray, List.set_cons_zero, List.set_cons_succ]
              refine wpAnyH_take (i := 13) (v := ?_) rfl (by kernel_rfl) (by kernel_rfl) (by kernel_rfl) (fun _ _ _ h => h) (Or.inl ⟨by rfl, ?_⟩) (by assumption) ?_
              rotate_left
              · (intro wq hSw; (try dsimp only at hSw); (try simp only [List.getElem_toArray, List.getElem_cons_succ, List.getElem_cons_zero]); go_simp); try with_reducible rfl
              try simp only [List.getElem_toArray, List.getElem_cons_succ, List.getElem_cons_zero, Act.put, List.setIfInBounds_toArray, List.set_cons_zero, List.set_cons_succ]
              refine wpAnyH_take (i := 14) (v := ?_) rfl (by kernel_rfl) (by kernel_rfl) (by kernel_rfl) (fun _ _ _ h => h) (Or.inl ⟨by rfl, ?_⟩) (by assumption) ?_
              rotate_left
              · (intro wq hSw; (try dsimp only at hSw); (try simp only [List.getElem_toArray, List.getElem_cons_succ, List.getElem_cons_zero]); go_simp); try with_reducible rfl
              try simp only [List.getElem_toArray, List.getElem_cons_succ, List.getElem_cons_zero, Act.put, List.setIfInBounds_toArray, List.set_cons_zero, List.set_cons_succ]
              refine wpAnyH_take (i := 15) (v := ?_) rfl (by kernel_rfl) (by kernel_rfl) (by kernel_rfl) (fun _ _ _ h => h) (Or.inl ⟨by rfl, ?_⟩) (by assumption) ?_
              rotate_left
              · (intro wq hSw; (try dsimp only at hSw); (try simp only [List.getElem_toArray, List.getElem_cons_succ, List.getElem_cons_zero]); go_simp); try with_reducible rfl
              try simp only [List.getElem_toArray, List.getElem_cons_succ, List.getElem_cons_zero, Act.put, List.setIfInBounds_toArray, List.set_cons_zero, List.set_cons_succ]
              refine wpAnyH_take (i := 16) (v := ?_) rfl (by kernel_rfl) (by kernel_rfl) (by kernel_rfl) (fun _ _ _ h => h) (Or.inl ⟨by rfl, ?_⟩) (by assumption) ?_
              rotate_left
              · (intro wq hSw; (try dsimp only at hSw); (try simp only [List.getElem_toArray, List.getElem_cons_succ, List.getElem_cons_zero]); go_simp); try with_reducible rfl
              try simp only [List.getElem_toArray, List.getElem_cons_succ, List.getElem_cons_zero, Act.put, List.setIfInBounds_toArray, List.set_cons_zero, List.set_cons_succ]
              refine wpAnyH_take (i := 17) (v := ?_) rfl (by kernel_rfl) (by kernel_rfl) (by kernel_rfl) (fun _ _ _ h => h) (Or.inl ⟨by rfl, ?_⟩) (by assumption) ?_
              rotate_left
              · (intro wq hSw; (try dsimp only at hSw); (try simp only [List.getElem_toArray, List.getElem_cons_succ, List.getElem_cons_zero]); go_simp); try with_reducible rfl
              try simp only [List.getElem_toArray, List.getElem_cons_succ, List.getElem_cons_zero, Act.put, List.setIfInBounds_toArray, List.set_cons_zero, List.set_cons_succ]
              refine wpAnyH_take (i := 18) (v := ?_) rfl (by kernel_rfl) (by kernel_rfl) (by kernel_rfl) (fun _ _ _ h => h) (Or.inl ⟨by rfl, ?_⟩) (by assumption) ?_
              rotate_left
              · (intro wq hSw; (try dsimp only at hSw); (try simp only [List.getElem_toArray, List.getElem_cons_succ, List.getElem_cons_zero]); go_simp); try with_reducible rfl
              try simp only [List.getElem_toArray, List.getElem_cons_succ, List.getElem_cons_zero, Act.put, List.setIfInBounds_toArray, List.set_cons_zero, List.set_cons_succ]
              refine wpAnyH_ready (rs := [11]) (by kernel_rfl) (by simp) ?_
              refine AllReadyH.cons rfl (fun K hK => ?_) AllReadyH.nil
              try simp only [List.getElem_toArray, List.getElem_cons_succ, List.getElem_cons_zero]
              go_simp
              refine hK.out _ _ (by first | exact ⟨q2, q3⟩ | exact ⟨cell_setCell_ne (w := World.drew _) q2 hne, cell_setCell_ne (w := World.drew _) q3 hne⟩) (fun hHeld => ?_)
              clear hK K
              try simp only [List.getElem_toArray, List.getElem_cons_succ, List.getElem_cons_zero, Act.put, List.setIfInBounds_toArray, List.set_cons_zero, List.set_cons_succ]
              refine wpAnyH_take (i := 19) (v := ?_) rfl (by kernel_rfl) (by kernel_rfl) (by kernel_rfl) (fun _ _ _ h => h) (Or.inl ⟨by rfl, ?_⟩) (by assumption) ?_
              rotate_left
              · (intro wq hSw; (try dsimp only at hSw); (try simp only [List.getElem_toArray, List.getElem_cons_succ, List.getElem_cons_zero]); go_simp); try with_reducible rfl
              try simp only [List.getElem_toArray, List.getElem_cons_succ, List.getElem_cons_zero, Act.put, List.setIfInBounds_toArray, List.set_cons_zero, List.set_cons_succ]
              refine wpAnyH_take (i := 20) (v := ?_) rfl (by kernel_rfl) (by kernel_rfl) (by kernel_rfl) (fun _ _ _ h => h) (Or.inl ⟨by rfl, ?_⟩) (by assumption) ?_
              rotate_left
              · (intro wq hSw; (try dsimp only at hSw); (try simp only [List.getElem_toArray, List.getElem_cons_succ, List.getElem_cons_zero]); go_simp); try with_reducible rfl
              try simp only [List.getElem_toArray, List.getElem_cons_succ, List.getElem_cons_zero, Act.put, List.setIfInBounds_toArray, List.set_cons_zero, List.set_cons_succ]
              refine wpAnyH_ready (rs := [21]) (by kernel_rfl) (by simp) ?_
              refine AllReadyH.cons rfl (fun K hK => ?_) AllReadyH.nil
              try simp only [List.getElem_toArray, List.getElem_cons_succ, List.getElem_cons_zero]
              go_simp
              refine hK.out _ _ (by first | exact ⟨q2, q3⟩ | exact ⟨cell_setCell_ne (w := World.drew _) q2 hne, cell_setCell_ne (w := World.drew _) q3 hne⟩) (fun hHeld => ?_)
              clear hK K
              try simp only [List.getElem_toArray, List.getElem_cons_succ, List.getElem_cons_zero, Act.put, List.setIfInBounds_toArray, List.set_cons_zero, List.set_cons_succ]
              refine wpAnyH_done (by kernel_rfl) ?_ _
              go_wp2_with fail
              rw [show min (8 * k) 32 = 8 * k by omega, ← rotV_eq]
              exact ⟨⟨k + 1, by omega, by go_num, Lib.hid Q2.out, Lib.hid O2.out, Lib.hid W2.out.drew⟩, by simp [intOf]; omega⟩
            · obtain rfl : k = 4 := by omega
              go_wp2_with fail
              refine ⟨⟨i + 1, g, cap, _, by omega, by go_num, rfl, Lib.hid ?_, O, W⟩, by simp [intOf]; omega⟩
              rw [HS.out, hbs.out]; rfl
      · rw [if_neg ha] at hs
        have HS := Lib.hid hs
        have haf : (e.at_ != (z : Int)) = true := by simpa using ha
        have s1 := hW1.out.size
        clear hs hee
        go_wp2_with fail
        exact ⟨⟨i + 1, g, cap, bs, by omega, by go_num, rfl, Lib.hid (hbs.out.trans HS.out.symm), Lib.hid (hrow.out.alloc _), Lib.hid (hW1.out.alloc s1 _)⟩, by simp [intOf]; omega⟩
    · obtain rfl : i = rs.L.length := by omega
      have h1 : ¬ (rs.L.length : Int) < (rs.L.length : Int) := by omega
      obtain ⟨k1, _⟩ := kL.out wo hW1.out
      go_wp2_with fail
      go_ret
      have hf := hrow.out.lt g rfl
      have hr := row_rd hrow.out
      obtain ⟨b, o, e0, _, _, hx⟩ := u8_exact hr (by omega)
      obtain ⟨rfl, rfl⟩ : g = b ∧ 0 = o := by simpa using e0
      rw [hbs.out, List.take_length] at hx
      exact ⟨g, ⟨cap, rfl⟩, by omega, hf.2, hx, T1.out.trans (hW1.out.mono hw1s)⟩

set_option maxRecDepth 100000 in
theorem rstored_gone {G : Nat → Prop} {w : World} {x n : Nat} {rs : RSt} (h : Hid (RefAt G w x n rs)) (hd : rs.gone = true) (z : Int) :
    Calls Try.prog 67 #[.pointer (some ⟨x, 0, none⟩), .int .i64 z] w fun e w' => e = .returned (.slice none 0 0) ∧ Below w.heap.size w w' := by
  obtain ⟨Sb, vL, vW, hB, _⟩ := h.out
  obtain ⟨k0, k1, k2, k3⟩ := ref_cells hB
  clear hB
  rw [hd] at k3
  go_enter Try.func67, Try.ntmps67
  go_wp2_with fail
  go_ret
  exact ⟨rfl, Below.refl _ _⟩
end Go.Proofs.Ytnceaimhhfjmdaa
