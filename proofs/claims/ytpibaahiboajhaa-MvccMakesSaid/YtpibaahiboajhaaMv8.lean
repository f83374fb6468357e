/-
  A store's scan, a store's rows.
-/
import Derived.Test.YtpibaahiboajhaaMv7
set_option linter.unusedSimpArgs false
set_option linter.unusedVariables false
namespace Go.Proofs.Ytpibaahiboajhaa
open Go.RowKit Go.Cib
attribute [local go_sem] cell_set Later.cell Later.frozen Grw.cell Grw.frozen

def scanR (f t : ByteArray) (at_ most : Int) (L : List Ent) : List Fd := (fdsL at_ (spanE f t L)).take most.toNat
theorem scan_all {f t : ByteArray} {at_ most : Int} {L : List Ent} (h : ((fdsL at_ (spanE f t L)).length : Int) ≤ most ∨ fdsL at_ (spanE f t L) = []) : fdsL at_ (spanE f t L) = scanR f t at_ most L := by
  unfold scanR
  rw [List.take_of_length_le]
  rcases h with h | h
  · omega
  · rw [h]; exact Nat.zero_le _
theorem scan_cut {f t : ByteArray} {at_ most : Int} {L s0 : List Ent} {y : Ent} (hp : s0 ++ [y] <+: spanE f t L) (h : ((fdsL at_ s0).length : Int) ≤ most ∨ fdsL at_ s0 = []) (hm : most ≤ ((fdsL at_ s0).length : Int)) : fdsL at_ s0 = scanR f t at_ most L := by
  obtain ⟨r, hr⟩ := hp
  unfold scanR
  have : fdsL at_ (spanE f t L) = fdsL at_ s0 ++ fdsL at_ ([y] ++ r) := by rw [← hr, List.append_assoc]; unfold fdsL; rw [List.filterMap_append]
  have e : most.toNat = (fdsL at_ s0).length := by
    rcases h with h | h
    · omega
    · rw [h] at hm ⊢; simp at hm ⊢; omega
  rw [this, e, List.take_left]
section
variable {w : World} {base s nb : Nat} {L : List Ent} {last : Int} {F : Nat → Prop}
set_option maxRecDepth 100000 in
set_option maxHeartbeats 4000000 in
theorem scan_any (HM : Hid (MvM w base s L last F)) (hok : Hid (OkL nb last L)) (hnb : nb ≤ 4194304) (hll : L.length ≤ 1000000) (f t : ByteArray) (at_ most : Int) :
    Calls Try.prog 37 #[.pointer (some ⟨s, 0, none⟩), .agg #[.string f, .string t], .int .u64 at_, .int .i64 most] w fun e w' => ∃ v, e = .returned v ∧
      OwnL FdR 82 6 w.heap.size (w.heap.size ≤ ·) w' v (scanR f t at_ most L).length (scanR f t at_ most L) ∧ Below w.heap.size w w' := by
  have B1 := (((BoxAt.new w #[.string f, .string t] 56).alloc (.cells #[.int .u64 at_] 22)).alloc (.cells #[.int .i64 most] 3)).alloc (.cells #[.slice none 0 0] 66)
  have B2 := ((BoxAt.new (w.alloc (.cells #[.string f, .string t] 56)) #[.int .u64 at_] 22).alloc (.cells #[.int .i64 most] 3)).alloc (.cells #[.slice none 0 0] 66)
  have B3 := (BoxAt.new ((w.alloc (.cells #[.string f, .string t] 56)).alloc (.cells #[.int .u64 at_] 22)) #[.int .i64 most] 3).alloc (.cells #[.slice none 0 0] 66)
  have B4 := BoxAt.new (((w.alloc (.cells #[.string f, .string t] 56)).alloc (.cells #[.int .u64 at_] 22)).alloc (.cells #[.int .i64 most] 3)) #[.slice none 0 0] 66
  have hb4 : Below w.heap.size w ((((w.alloc (.cells #[.string f, .string t] 56)).alloc (.cells #[.int .u64 at_] 22)).alloc (.cells #[.int .i64 most] 3)).alloc (.cells #[.slice none 0 0] 66)) := (by repeat (first | (with_reducible exact Below.refl _ _) | (with_reducible assumption) | (with_reducible refine Below.drew ?_) | (with_reducible refine Below.setCell ?_ ?_ _) | (with_reducible refine Below.alloc ?_ ?_ _) | (with_reducible refine Below.later ?_ ?_ _) | (first | (with_reducible exact Nat.le_refl _) | omega | (simp only [World.size_alloc, World.size_setCell, World.size_drew] <;> omega))))
  obtain ⟨w4, hw4⟩ : ∃ w4, (((w.alloc (.cells #[.string f, .string t] 56)).alloc (.cells #[.int .u64 at_] 22)).alloc (.cells #[.int .i64 most] 3)).alloc (.cells #[.slice none 0 0] 66) = w4 := ⟨_, rfl⟩
  simp only [World.size_alloc] at B2 B3 B4
  rw [hw4] at B1 B2 B3 B4 hb4
  obtain ⟨bs, hbs⟩ : ∃ bs, w.heap.size = bs := ⟨_, rfl⟩
  have hs4 : w4.heap.size = bs + 1 + 1 + 1 + 1 := by rw [← hw4, World.size_alloc, World.size_alloc, World.size_alloc, World.size_alloc, hbs]
  rw [hbs] at B1 B2 B3 B4
  have hJ0 : ScanJ (bs + 1 + 1 + 1) (bs + 1 + 1) (bs + 1) (bs + 4) most at_ [] (.slice none 0 0) w4 := ⟨B4, B3, B2, OwnL.nil_, .inr rfl, by omega⟩
  have hrows := rows_any (w := w4) (Lib.hid (HM.out.below hb4)) hll f t 76 (bs + 1 + 1 + 1) #[.pointer (some ⟨bs + 1 + 1 + 1, 0, none⟩), .pointer (some ⟨bs + 1 + 1, 0, none⟩), .pointer (some ⟨bs + 1, 0, none⟩)]
    (ScanJ (bs + 1 + 1 + 1) (bs + 1 + 1) (bs + 1) (bs + 4) most at_) (ScanX (bs + 1 + 1 + 1) (bs + 1 + 1) (bs + 1) (bs + 4) most at_) (enters_of Try.func76 (by kernel_rfl) rfl) (by omega) (fun q hq => by have := (HM.out.lt hq).2; omega) hJ0 (fun seen v W W' h hb => h.below hb)
    (fun seen v y VA vm vc W h hlt hy hvm hV => scan1_any (Lib.hid h) ⟨by omega, by omega⟩ ⟨by omega, by omega, by omega⟩ (by omega) ⟨by have h1 := (hok.out y hy).len; have h2 := hV.out.1; omega, (hok.out y hy).small⟩ hV)
  have HB4 := Lib.hid hb4
  have k0 := B1.cell 0; have k1 := B1.cell 1
  clear B1 B2 B3 B4 hb4 hJ0
  go_enter Try.func37, Try.ntmps37
  go_wp2_with fail
  refine hrows.mono ?_
  rintro e w5 ⟨rfl, hk, hres⟩
  have hfin : ∃ v, BoxAt w5 (bs + 1 + 1 + 1) #[v] ∧ OwnL FdR 82 6 bs (bs ≤ ·) w5 v (scanR f t at_ most L).length (scanR f t at_ most L) := by
    rcases hres with ⟨v, hJ⟩ | ⟨seen, v, hp, s0, y, rfl, hJ, hm⟩
    · exact ⟨v, hJ.out, by rw [← scan_all hJ.len]; exact OwnL.weakS FdR.stable (OwnL.basem (base' := bs) hJ.own (Nat.le_add_right _ _)) (fun b hb => by have hb' : bs + 4 ≤ b := hb; show bs ≤ b; omega)⟩
    · exact ⟨v, hJ.out, by rw [← scan_cut hp hJ.len hm]; exact OwnL.weakS FdR.stable (OwnL.basem (base' := bs) hJ.own (Nat.le_add_right _ _)) (fun b hb => by have hb' : bs + 4 ≤ b := hb; show bs ≤ b; omega)⟩
  obtain ⟨v, hv, ho⟩ := hfin
  have HB5 := Lib.hid ((Keep.of_below HB4.out).trans hk (fun q e hl => e) : Keep (fun q => q = bs + 1 + 1 + 1) w w5)
  have HO := Lib.hid ho
  have o0 := hv.cell 0
  clear hres hk hv ho hrows hw4
  go_wp2_with fail
  go_ret
  subst hbs
  exact ⟨v, rfl, HO.out, HB5.out.below (Nat.le_refl _) (fun q e => by subst e; omega)⟩
end
theorem sl_row : SlTy Try.prog 68 72 (.agg #[.string ⟨#[]⟩, .slice none 0 0]) 2 40 := ⟨by kernel_rfl, by kernel_rfl, rfl, by decide⟩
structure RowsJ (ob B : Nat) (seen : List Ent) (v : Value) (W : World) : Prop where
  out : BoxAt W ob #[v]
  own : OwnL EntR 72 2 B (B ≤ ·) W v seen.length seen
  low : B ≤ W.heap.size
theorem RowsJ.below {W W' : World} {ob B : Nat} {seen : List Ent} {v : Value} (h : RowsJ ob B seen v W) (hb : Below W.heap.size W W') : RowsJ ob B seen v W' :=
  ⟨h.out.below hb, h.own.keep EntR.stable hb, Nat.le_trans h.low hb.size⟩
set_option maxRecDepth 100000 in
set_option maxHeartbeats 4000000 in
theorem rows1_any {W : World} {ob B nb : Nat} {last : Int} {seen : List Ent} {v : Value} {y : Ent} {VA : Option Addr} {vm vc : Nat} (h : Hid (RowsJ ob B seen v W)) (hB : ob < B) (hlen : seen.length ≤ 1000000) (hy : OkE nb last y) (hnb : nb ≤ 4194303) (hV : Hid (RdL VerR 5 (fun _ => True) W VA vm y.vers)) :
    Calls Try.prog 78 #[.string y.key, .slice VA vm vc, .pointer (some ⟨ob, 0, none⟩)] W fun e W' => ∃ b v', e = .returned (.bool b) ∧ Keep (fun q => q = ob ∨ v.ownBlock = some q) W W' ∧
      (v'.ownBlock = v.ownBlock ∨ ∃ g, v'.ownBlock = some g ∧ W.heap.size ≤ g) ∧ (if b then RowsJ ob B (seen ++ [y]) v' W' else False) := by
  obtain ⟨A, c, rfl, hc⟩ := OwnL.form h.out.own
  have hvm : vm ≤ 4194303 := by have h1 := hy.len; have h2 := hV.out.1; omega
  have hev := everything_any VA vm vc W hvm hV
  have hkeep := keeps_all hy.right (fun v hv => (hy.pos v hv).1)
  obtain ⟨n, hn⟩ : ∃ n, seen.length = n := ⟨_, rfl⟩
  rw [hn] at hc hlen
  have o0 := h.out.out.cell 0
  rw [hn] at o0
  go_enter Try.func78, Try.ntmps78
  go_wp2_with fail
  refine hev.mono ?_
  rintro e w1 ⟨EA, ec, rfl, hER, hec, hb1⟩
  have hpr := prune_any (starts := 0 :: y.vers.map (·.stamp)) VA EA vm vc (vm + 1) ec w1 hvm (by omega) (Lib.hid (hV.out.below VerR.stable hb1)) hy.small (Lib.hid hER)
  rw [hkeep] at hpr
  have HB1 := Lib.hid hb1
  clear hev hER hb1 hkeep
  go_wp2_with fail
  refine hpr.mono ?_
  rintro e w3 ⟨A3, n3, c3, A4, n4, c4, rfl, hR3, hc3, _, _, hb3⟩
  have HB3 := Lib.hid (HB1.out.trans (hb3.mono HB1.out.size))
  have HJ3 := Lib.hid (h.out.below HB3.out)
  have p0 := HJ3.out.out.cell 0
  have pf := HJ3.out.out.frozen 0
  rw [hn] at p0
  have hob3 := HJ3.out.out.lt
  have hnB := h.out.low
  have hs1 := HB1.out.size
  have HO3 := Lib.hid (by have := HJ3.out.own; rwa [hn] at this : OwnL EntR 72 2 B (B ≤ ·) w3 (.slice A n c) n seen)
  have hown0 : (Value.slice A n c).ownBlock ≠ some ob := fun e => by have := (OwnL.lt HO3.out ob e).1; omega
  have hR9 : RdL VerR 5 (Go.Cib.Rest (fun b => B ≤ b) (.slice A n c)) w3 A3 n3 y.vers := hR3.weaken VerR.stable (fun b hb => ⟨by have hb' : w1.heap.size ≤ b := hb; show B ≤ b; omega, fun e => by
    have h1 := (OwnL.lt (by have := h.out.own; rwa [hn] at this : OwnL EntR 72 2 B (B ≤ ·) W (.slice A n c) n seen) b e.symm).2
    have hb' : w1.heap.size ≤ b := hb
    omega⟩)
  have HR9 := Lib.hid hR9
  have hs3 := HB3.out.size
  clear hR9 hR3 hb3 hpr
  go_wp2_with (at_builtin; refine wpList_push1 EntR.stable EntR.one sl_row rfl rfl (by exact rfl) (by exact rfl) HO3.out (y := y) rfl ⟨A3, n3, c3, rfl, hc3, HR9.out⟩ (by unfold maxLen; omega) (by omega) (by omega) ?_; intro A7 c7 u hc7 hown7 hus hub hat; have p7 := (u.cell (b := ob) (o := 0) hob3 (fun e => hown0 e.symm)).trans p0; have pf7 := (u.frozen (b := ob) (o := 0) hob3 (fun e => hown0 e.symm)).trans pf)
  go_ret
  have hu := u.ok
  have hkt : Keep (fun q => q = ob) u.to (u.to.setCell ⟨ob, 0, none⟩ (.slice A7 (n + 1) c7)) := setCell_keep u.to ob 0 _ rfl
  have hbx : ∀ {b : Nat} {cs : Array Value}, BoxAt w3 b cs → b < B → BoxAt u.to b cs := fun hb hlt => hb.grw hu (fun e => by have := (OwnL.lt HO3.out _ e.symm).1; omega)
  subst hn
  refine ⟨true, .slice A7 (seen.length + 1) c7, rfl, ?_, hat.imp id (fun e => ⟨_, e, by omega⟩), ?_⟩
  · exact ((Keep.of_below HB3.out).trans (Keep.of_grown hu) (fun q e _ => .inr e.symm)).trans hkt (fun q e _ => .inl e)
  · rw [if_pos rfl]
    refine ⟨?_, ?_, ?_⟩
    · have := (hbx HJ3.out.out hB).set 0 (.slice A7 (seen.length + 1) c7)
      simpa using this
    · rw [List.length_append]
      exact OwnL.keepF EntR.stable hown7 hkt (fun g hg e => by have := (OwnL.lt hown7 g hg).1; omega) (fun b hb _ => ⟨hb, fun e => by have hb' : B ≤ b := hb; omega⟩)
    · have := hkt.size; omega
section
variable {w : World} {base s nb : Nat} {L : List Ent} {last : Int} {F : Nat → Prop}
theorem span_all (L : List Ent) : spanE ⟨#[]⟩ ⟨#[]⟩ L = L := by
  have hl : ∀ k : ByteArray, Op.bytesLess k.toList (⟨#[]⟩ : ByteArray).toList = false := fun k => by
    cases h : Op.bytesLess k.toList (⟨#[]⟩ : ByteArray).toList with
    | false => rfl
    | true =>
      rw [bl_eq, decide_eq_true_eq] at h
      have e : (⟨#[]⟩ : ByteArray).toList = [] := (str_nil _).2 rfl
      rw [e] at h
      exact absurd h (List.not_lt_nil _)
  unfold spanE
  rw [fromE_ge (fun x _ => by show ¬ (Op.bytesLess x.key.toList (⟨#[]⟩ : ByteArray).toList = true); rw [hl]; decide)]
  have := List.takeWhile_append_of_pos (p := fun y : Ent => inB ⟨#[]⟩ ⟨#[]⟩ y.key) (l₁ := L) (l₂ := []) (fun y _ => by unfold inB; rw [hl]; rfl)
  simpa using this
set_option maxRecDepth 100000 in
set_option maxHeartbeats 4000000 in
theorem rows_all {nb : Nat} (HM : Hid (MvM w base s L last F)) (hok : Hid (OkL nb last L)) (hnb : nb ≤ 4194303) (hll : L.length ≤ 1000000) :
    Calls Try.prog 38 #[.pointer (some ⟨s, 0, none⟩)] w fun e w' => ∃ v, e = .returned v ∧ OwnL EntR 72 2 w.heap.size (w.heap.size ≤ ·) w' v L.length L ∧ Below w.heap.size w w' := by
  have B1 := BoxAt.new w #[.slice none 0 0] 68
  have hb4 : Below w.heap.size w (w.alloc (.cells #[.slice none 0 0] 68)) := (by repeat (first | (with_reducible exact Below.refl _ _) | (with_reducible assumption) | (with_reducible refine Below.drew ?_) | (with_reducible refine Below.setCell ?_ ?_ _) | (with_reducible refine Below.alloc ?_ ?_ _) | (with_reducible refine Below.later ?_ ?_ _) | (first | (with_reducible exact Nat.le_refl _) | omega | (simp only [World.size_alloc, World.size_setCell, World.size_drew] <;> omega))))
  obtain ⟨w4, hw4⟩ : ∃ w4, w.alloc (.cells #[.slice none 0 0] 68) = w4 := ⟨_, rfl⟩
  rw [hw4] at B1 hb4
  obtain ⟨bs, hbs⟩ : ∃ bs, w.heap.size = bs := ⟨_, rfl⟩
  have hs4 : w4.heap.size = bs + 1 := by rw [← hw4, World.size_alloc, hbs]
  rw [hbs] at B1
  have hJ0 : RowsJ bs (bs + 1) [] (.slice none 0 0) w4 := ⟨B1, OwnL.nil_, by omega⟩
  have hrows := rows_any (w := w4) (Lib.hid (HM.out.below hb4)) hll ⟨#[]⟩ ⟨#[]⟩ 78 bs #[.pointer (some ⟨bs, 0, none⟩)]
    (RowsJ bs (bs + 1)) (fun _ _ _ => False) (enters_of Try.func78 (by kernel_rfl) rfl) (by omega) (fun q hq => by have := (HM.out.lt hq).2; omega) hJ0 (fun seen v W W' h hb => h.below hb)
    (fun seen v y VA vm vc W h hlt hy hvm hV => rows1_any (Lib.hid h) (by omega) (by omega) (hok.out y hy) hnb hV)
  have HB4 := Lib.hid hb4
  clear B1 hb4 hJ0
  go_enter Try.func38, Try.ntmps38
  go_wp2_with fail
  refine hrows.mono ?_
  rintro e w5 ⟨rfl, hk, hres⟩
  rw [span_all] at hres
  have hfin : ∃ v, BoxAt w5 bs #[v] ∧ OwnL EntR 72 2 bs (bs ≤ ·) w5 v L.length L := by
    rcases hres with ⟨v, hJ⟩ | ⟨_, _, _, h⟩
    · exact ⟨v, hJ.out, OwnL.weakS EntR.stable (OwnL.basem (base' := bs) hJ.own (Nat.le_add_right _ _)) (fun b hb => by have hb' : bs + 1 ≤ b := hb; show bs ≤ b; omega)⟩
    · exact h.elim
  obtain ⟨v, hv, ho⟩ := hfin
  have HB5 := Lib.hid ((Keep.of_below HB4.out).trans hk (fun q e hl => e) : Keep (fun q => q = bs) w w5)
  have HO := Lib.hid ho
  have o0 := hv.cell 0
  clear hres hk hv ho hrows hw4
  go_wp2_with fail
  go_ret
  subst hbs
  exact ⟨v, rfl, HO.out, HB5.out.below (Nat.le_refl _) (fun q e => by subst e; omega)⟩
end
end Go.Proofs.Ytpibaahiboajhaa
