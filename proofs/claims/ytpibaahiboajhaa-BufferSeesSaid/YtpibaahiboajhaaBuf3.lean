/-
  A buffer's writes as a list; spans; what is shown.
-/
import Derived.Test.YtpibaahiboajhaaBufK
set_option linter.unusedSimpArgs false
set_option linter.unusedVariables false
namespace Go.Proofs.Ytpibaahiboajhaa
open Go.RowKit Go.Cib
attribute [local go_sem] cell_set Later.cell Later.frozen Grw.cell Grw.frozen

theorem str_at {S : Nat → Prop} {w : World} {A : Option Addr} {m : Nat} {xs : List ByteArray} (h : RdL StrR 1 S w A m xs) {i : Nat} (hi : i < m) : ∃ b o x, A = some ⟨b, o, none⟩ ∧ xs[i]? = some x ∧ b < w.heap.size ∧ S b ∧ w.cell? ⟨b, o + i, none⟩ = some (.string x) := by
  obtain ⟨b, o, rfl, hS, hlt⟩ := h.addr hi
  obtain ⟨hl, cs, h1, h2, h3⟩ := h.at hi
  refine ⟨b, o, xs[i], rfl, by simp [hl], hlt, hS, ?_⟩
  have := h3 0 (.string xs[i]) (by rw [h2]; rfl)
  simpa using this
theorem wr_at {S : Nat → Prop} {w : World} {A : Option Addr} {m : Nat} {xs : List Wr} (h : RdL WrR 3 S w A m xs) {i : Nat} (hi : i < m) : ∃ b o x A' m' c', A = some ⟨b, o, none⟩ ∧ xs[i]? = some x ∧ b < w.heap.size ∧ S b ∧ RdL U8R 1 S w A' m' x.val ∧
    w.cell? ⟨b, o + i * 3, none⟩ = some (.string x.key) ∧ w.cell? ⟨b, o + i * 3 + 1, none⟩ = some (.bool x.dead) ∧ w.cell? ⟨b, o + i * 3 + 2, none⟩ = some (.slice A' m' c') := by
  obtain ⟨b, o, rfl, hS, hlt⟩ := h.addr hi
  obtain ⟨hl, cs, h1, ⟨A', m', c', rfl, hr⟩, h3⟩ := h.at hi
  exact ⟨b, o, xs[i], A', m', c', rfl, by simp [hl], hlt, hS, hr, h3 0 _ rfl, h3 1 _ rfl, h3 2 _ rfl⟩
theorem find_mem {L : List Wr} (h : RisesW L) {x : Wr} (hx : x ∈ L) : findW L x.key = some x := by
  induction L with
  | nil => cases hx
  | cons y r ih =>
    obtain ⟨h1, h2⟩ := List.pairwise_cons.1 h
    unfold findW
    rcases List.mem_cons.1 hx with rfl | hx
    · rw [if_pos rfl]
    · rw [if_neg (bl_ne (h1 x hx)), ih h2 hx]
theorem sl_wr : SlTy Try.prog 95 102 zWr 3 48 := ⟨by kernel_rfl, by kernel_rfl, by kernel_rfl, by omega⟩
theorem ownL_form {X : Type} {R : (Nat → Prop) → World → List Value → X → Prop} {E : TypeId} {s base : Nat} {S : Nat → Prop} {w : World} {v : Value} {n : Nat} {xs : List X} (h : OwnL R E s base S w v n xs) : ∃ A c, v = .slice A n c := by
  obtain ⟨A, c, e, _⟩ := h.form
  exact ⟨A, c, e⟩
theorem take_snoc {α : Type} {l : List α} {i : Nat} {x : α} (h : l[i]? = some x) : l.take (i + 1) = l.take i ++ [x] := by
  rw [List.take_add_one, h]; rfl

set_option maxRecDepth 100000 in
set_option maxHeartbeats 4000000 in
theorem blist_ok {w : World} {b bb : Nat} {L : List Wr} (h : Hid (BufB w b bb L)) :
    Calls Try.prog 55 #[.pointer (some ⟨b, 0, none⟩)] w fun e w' => ∃ A c, e = .returned (.slice A L.length c) ∧ RdL WrR 3 (w.heap.size ≤ ·) w' A L.length L ∧ Below w.heap.size w w' := by
  go_enter Try.func55, Try.ntmps55
  go_wp2_with fail
  refine (bkeys_ok h).mono ?_
  rintro e w1 ⟨A1, c1, rfl, r1, t1⟩
  have R1 := Lib.hid r1
  have T1 := Lib.hid t1
  clear r1 t1
  have hL16 : L.length ≤ 16 := h.out.ok.len
  go_wp2_with fail
  go_loopw [3, 9] (fun out vi wr => ∃ i : Nat, i ≤ L.length ∧ vi = .int .i64 i ∧ Hid (OwnL WrR 102 3 w1.heap.size (w1.heap.size ≤ ·) wr out i (L.take i)) ∧ Hid (Below w1.heap.size w1 wr)) (fun _ vi _ => L.length - (intOf vi).toNat)
  case atStart => exact ⟨0, Nat.zero_le _, rfl, Lib.hid OwnL.nil_, Lib.hid (Below.refl _ _)⟩
  case round =>
    obtain ⟨wo, rfl⟩ : ∃ wo, wo = wr := ⟨_, rfl⟩
    obtain ⟨i, hi, rfl, HO, HT⟩ := hrel
    have T2 := Lib.hid (below_then HT.out T1.out)
    by_cases hlt : i < L.length
    · have q1 : (i : Int) < (L.length : Int) := by omega
      have q2 : (0 : Int) ≤ (i : Int) := Int.natCast_nonneg _
      obtain ⟨x, hx⟩ : ∃ x, L[i]? = some x := ⟨_, List.getElem?_eq_getElem hlt⟩
      obtain ⟨g, og, k, rfl, hk, hg, _, pk⟩ := str_at (R1.out.below StrR.stable HT.out) hlt
      rw [List.getElem?_map, hx] at hk
      injection hk with hk
      subst hk
      have hxm := List.mem_of_getElem? hx
      have hfx := find_mem h.out.ok.rises hxm
      have HB := Lib.hid (h.out.below T2.out)
      have p0 := HB.out.cell
      obtain ⟨es, hm, _, h3⟩ := HB.out.map
      obtain ⟨A, m, c, hv, hr, hm4⟩ : ∃ A m c, (mlook es x.key).getD zWr = .agg #[.string x.key, .bool x.dead, .slice A m c] ∧ RdL U8R 1 (· ≠ bb) wo A m x.val ∧ m ≤ 400 := by
        rcases h3 x.key with ⟨e1, e2⟩ | ⟨v, z, e1, e2, A, m, c, rfl, hr⟩
        · rw [hfx] at e2; cases e2
        · rw [hfx] at e2
          injection e2 with e2; subst e2
          exact ⟨A, m, c, by rw [e1]; rfl, hr, by rw [← hr.1]; exact (h.out.ok.each x hxm).2⟩
      have hlk : (Instr.lookup 117 (.map (some bb)) (.string x.key) false).run Try.prog wo = .ok (.agg #[.string x.key, .bool x.dead, .slice A m c]) wo := by
        have := run_lookup (P := Try.prog) kt_str un_wmap z_wr hm x.key false
        rw [if_neg (by decide), hv] at this
        exact this
      have HR := Lib.hid hr
      have HX := Lib.hid hx
      clear hm h3 hv hr hfx hxm hx
      go_wp2_with fail
      refine (own_any HR (by omega)).mono ?_
      rintro e w2 ⟨A2, c2, rfl, r2, t2⟩
      have hown := HO.out.keep WrR.stable t2
      have hs2 := t2.size
      have hs3 := HT.out.size
      have hrest := fun bq (hb : wo.heap.size ≤ bq) => HO.out.rest (b := bq) (show w1.heap.size ≤ bq by omega) hb
      have R2 := Lib.hid (r2.weaken U8R.stable hrest)
      have T3 := Lib.hid (below_then t2 HT.out)
      clear r2 t2 hrest pk p0 hlk
      go_wp2_with (at_builtin; refine wpList_push1 WrR.stable WrR.one sl_wr rfl (by exact rfl) (by exact rfl) (by exact rfl) hown (y := x) rfl ⟨A2, m, c2, rfl, R2.out⟩ (by unfold maxLen; omega) (by omega) (by omega) ?_; intro A3 c3 u hc3 hown3 hus hub hat)
      refine ⟨⟨i + 1, by omega, by go_num, ?_, Lib.hid (T3.out.trans hub)⟩, by simp [intOf]; omega⟩
      rw [take_snoc HX.out]
      exact Lib.hid hown3
    · obtain rfl : i = L.length := by omega
      have q1 : ¬ (L.length : Int) < (L.length : Int) := by omega
      obtain ⟨A, c, rfl, hc, hrd⟩ := HO.out.rd (S' := (w.heap.size ≤ ·)) (fun b hb => Nat.le_trans T1.out.size hb) (fun cs x hx => WrR.stable _ _ _ _ _ _ hx fun b hb _ => ⟨Nat.le_trans T1.out.size hb.1, rfl⟩)
      rw [List.take_of_length_le (Nat.le_refl _)] at hrd
      have HR := Lib.hid hrd
      clear hrd
      go_wp2_with fail
      go_ret
      exact ⟨A, ⟨c, rfl⟩, HR.out, T2.out⟩
end Go.Proofs.Ytpibaahiboajhaa
