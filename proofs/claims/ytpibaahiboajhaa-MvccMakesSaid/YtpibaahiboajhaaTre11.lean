/-
  A tree: Put.
-/
import Derived.Test.YtpibaahiboajhaaTre10
set_option linter.unusedSimpArgs false
set_option linter.unusedVariables false
namespace Go.Proofs.Ytpibaahiboajhaa
open Go.RowKit Go.Cib
attribute [local go_sem] cell_set Later.cell Later.frozen Grw.cell Grw.frozen

theorem putE_len (k : ByteArray) (v : List Ver) : ∀ (f : List Ent), (∀ x ∈ f, x.key ≠ k) → (putE f k v).length = f.length + 1
  | [], _ => rfl
  | e :: l, h => by
    have h1 := h e (List.mem_cons_self ..)
    unfold putE
    split
    · rw [List.length_cons, putE_len k v l (fun x hx => h x (List.mem_cons_of_mem _ hx)), List.length_cons]
    · first | (rw [if_neg h1]; rfl) | rfl
theorem putE_len2 (k : ByteArray) (v : List Ver) : ∀ (f : List Ent), (putE f k v).length ≤ f.length + 1
  | [] => Nat.le_refl _
  | e :: l => by
    unfold putE
    split
    · have := putE_len2 k v l; simp only [List.length_cons]; omega
    · split <;> simp
def PutP (w : World) (base : Nat) (S : Nat → Prop) (t : Nat) (F : Nat → Prop) (f' : List Ent) (e : Ending) (w' : World) : Prop :=
  ∃ b F', e = .returned (.bool b) ∧ TreeM w' base S t f' F' ∧ Keep F w w' ∧ ∀ k, F' k → F k ∨ w.heap.size ≤ k
/-- What came of a tree's nodes, with its box stored. -/
theorem put_end {w w1 w2 w3 w' : World} {base t D D' root root' : Nat} {S : Nat → Prop} {f f' : List Ent} {N N2 : NMap} {ns NS : List Nat} (I : TreeI w base S t f N D root ns) (b1 : Below w.heap.size w w1) {N1 : NMap} (hk : Keep (fun k => k = t ∨ OwnN N k) w1 w2) (hN1 : ∀ k, OwnN N1 k → OwnN N k ∨ w1.heap.size ≤ k) (m : Mod base S w2 N1 w3 N2) (hkt : Keep (fun k => k = t) w3 w')
    (X : BoxAt w' t #[.pointer (some ⟨root', 0, none⟩), .int .i64 (f'.length : Int)]) (hT : TreeOf N2 D' root' f' NS) (hn : NS.Nodup) (hr : Rises f') (b : Bool) : PutP w base S t (fun k => k = t ∨ OwnN N k) f' (.returned (.bool b)) w' := by
  have htl := I.box.lt
  have hown : ∀ k, OwnN N2 k → OwnN N k ∨ w.heap.size ≤ k := fun k hk2 => by
    rcases m.own k hk2 with h | h
    · exact (hN1 k h).imp id (fun h => Nat.le_trans b1.size h)
    · exact .inr (Nat.le_trans b1.size (Nat.le_trans hk.size h))
  have htN : ¬ OwnN N2 t := fun h => by
    rcases hown t h with h | h
    · exact I.tN h
    · omega
  refine ⟨b, _, rfl, ⟨N2, D', root', NS, ⟨X, m.mem.keep hkt (fun p nd k h1 h2 e => htN ⟨p, nd, h1, e ▸ h2⟩) (fun b hb e => I.tS (e ▸ hb)), hT, hn, hr, htN, I.tS, I.ge⟩, rfl⟩, ?_, fun k h => ?_⟩
  · refine (((Keep.of_below (F := fun k => k = t ∨ OwnN N k) b1).trans hk (fun k h _ => h)).trans m.keep (fun k h hl => ?_)).trans hkt (fun k h _ => .inl h)
    rcases hN1 k h with h | h
    · exact .inr h
    · have := b1.size; omega
  · rcases h with h | h
    · exact .inl (.inl h)
    · exact (hown k h).imp .inr id
set_option maxRecDepth 100000 in
set_option maxHeartbeats 8000000 in
theorem put_any {w : World} {base t : Nat} {S F : Nat → Prop} {f : List Ent} {k : ByteArray} {v : List Ver} {VA : Option Addr} {vm vc : Nat} (h : Hid (TreeM w base S t f F)) (hbase : base ≤ w.heap.size) (HE : Hid (EntR S w [.string k, .slice VA vm vc] ⟨k, v⟩)) (hlen : f.length ≤ 1000000) :
    Calls Try.prog 74 #[.pointer (some ⟨t, 0, none⟩), .string k, .slice VA vm vc] w (PutP w base S t F (putE f k v)) := by
  obtain ⟨N, D, root, ns, I, rfl⟩ := h.out
  have hnone := tnone_is w I.box
  have hseek := seek_any k I.box (Lib.hid I.mem) (Lib.hid I.tree) (Lib.hid I.nod) (Lib.hid I.rises)
  obtain ⟨nr, hroot, hr5, hr6⟩ := I.tree.node
  have HI := Lib.hid I
  have htl := I.box.lt
  have hSb : ∀ w', Below w.heap.size w w' → EntR S w' [.string k, .slice VA vm vc] ⟨k, v⟩ := fun w' hb => EntR.stable _ S _ w' _ _ HE.out (fun b hb' hl => ⟨hb', hb.block b hl⟩)
  clear h I
  go_enter Try.func74, Try.ntmps74
  go_wp2_with fail
  refine hnone.mono ?_
  rintro e w0 ⟨rfl, rfl⟩
  go_wp2_with fail
  refine hseek.mono ?_
  rintro e w1 ⟨hP, b1⟩
  have M1 := HI.out.mem.below b1
  have X1 := HI.out.box.below b1
  have hb1s := b1.size
  clear hnone hseek
  rcases hP with ⟨rfl, hno⟩ | ⟨g, i, y, rfl, ⟨⟨d, p, nd, pre, post, fp, ns0, nsp, hp, hy, hyk, hg, hHo, hT, hf, hpre, hpm⟩⟩⟩
  · have HNO := Lib.hid hno
    have hplen := putE_len k v f hno
    have t0 := X1.cell 0
    have t1 := X1.cell 1
    have hfull := full_any (M1.at_ root nr hroot)
    by_cases hf5 : nr.l.length = 5
    · have e5 : (nr.l.length == 5) = true := by simpa using hf5
      rw [e5] at hfull
      -- a new top
      have hrow : OwnL PtrR 177 1 w1.heap.size (fun _ => True) (w1.alloc (.cells #[.pointer (some ⟨root, 0, none⟩)] 177)) (.slice (some ⟨w1.heap.size, 0, none⟩) 1 1) 1 [root] := OwnL.lit PtrR.stable rfl (Nat.le_refl _) rfl
      have hal : Below w1.heap.size w1 (w1.alloc (.cells #[.pointer (some ⟨root, 0, none⟩)] 177)) := (Below.refl _ _).alloc (Nat.le_refl _) _
      have m1 := Mod.new M1 (Nat.le_trans hbase hb1s) hal (l := []) (ks := [root]) (OwnL.nil_ : OwnL EntR 189 2 w1.heap.size S _ (.slice none 0 0) 0 []) hrow (fun g e => by cases e) 181
      have hsz1 : (w1.alloc (.cells #[.pointer (some ⟨root, 0, none⟩)] 177)).heap.size = w1.heap.size + 1 := World.size_alloc _ _
      rw [hsz1] at m1
      obtain ⟨g', hg'⟩ : ∃ g', w1.heap.size = g' := ⟨_, rfl⟩
      rw [hg'] at m1
      obtain ⟨p', hp'⟩ : ∃ p', g' + 1 = p' := ⟨_, rfl⟩
      rw [hp'] at m1
      obtain ⟨w3, hw3⟩ : ∃ w3, (w1.alloc (.cells #[.pointer (some ⟨root, 0, none⟩)] 177)).alloc (.cells #[.slice none 0 0, .slice (some ⟨g', 0, none⟩) 1 1] 181) = w3 := ⟨_, rfl⟩
      rw [hw3] at m1
      have X3 := X1.keeps m1.keep HI.out.tN
      have ft0 := X3.frozen 0
      have t03 := X3.cell 0
      have t13 := X3.cell 1
      have X4 := X3.set 0 (.pointer (some ⟨p', 0, none⟩))
      have hkt : Keep (fun k => k = t) w3 (w3.setCell ⟨t, 0, none⟩ (.pointer (some ⟨p', 0, none⟩))) := setCell_keep w3 t 0 _ rfl
      have hpN : ∀ q nd, N q = some nd → q < g' := fun q nd h => hg' ▸ (M1.lt h (.inl rfl)).2
      have hrp : ¬ (root = p') := fun e => by have := hpN root nr hroot; omega
      have hpns : p' ∉ ns := fun h => by obtain ⟨nd, h1⟩ := HI.out.tree.some p' h; have := hpN p' nd h1; omega
      have hnp : upd N p' ⟨.slice none 0 0, [], .slice (some ⟨g', 0, none⟩) 1 1, [root]⟩ p' = some ⟨.slice none 0 0, [], .slice (some ⟨g', 0, none⟩) 1 1, [root]⟩ := upd_same _ _ _
      have hnr : upd N p' ⟨.slice none 0 0, [], .slice (some ⟨g', 0, none⟩) 1 1, [root]⟩ root = some nr := (upd_ne _ _ hrp).trans hroot
      have hT1 : TreeOf (upd N p' ⟨.slice none 0 0, [], .slice (some ⟨g', 0, none⟩) 1 1, [root]⟩) (D + 1) p' f (p' :: ns) :=
        ⟨_, [(f, ns)], hnp, Nat.zero_le _, rfl, ⟨HI.out.tree.congr (fun q hq => upd_ne _ _ (fun e => hpns (e ▸ hq))), trivial⟩, rfl, by simp [nods]⟩
      obtain ⟨N1, hN1⟩ : ∃ N1, upd N p' ⟨.slice none 0 0, [], .slice (some ⟨g', 0, none⟩) 1 1, [root]⟩ = N1 := ⟨_, rfl⟩
      rw [hN1] at m1 hnp hnr hT1
      have htN1 : ¬ OwnN N1 t := fun h => (m1.own t h).elim HI.out.tN (fun h => by have := X1.lt; omega)
      have hpN1 : ∀ q nd, N1 q = some nd → q < w3.heap.size := fun q nd h => (m1.mem.lt h (.inl rfl)).2
      obtain ⟨w4, hw4⟩ : ∃ w4, w3.setCell ⟨t, 0, none⟩ (.pointer (some ⟨p', 0, none⟩)) = w4 := ⟨_, rfl⟩
      rw [hw4] at X4 hkt
      have M4 := m1.mem.keep hkt (fun p nd k h1 h2 e => htN1 ⟨p, nd, h1, e ▸ h2⟩) (fun b hb e => HI.out.tS (e ▸ hb))
      have hs14 : w1.heap.size ≤ w4.heap.size := Nat.le_trans m1.keep.size hkt.size
      have hks : nr.ks.length = 0 ∨ nr.ks.length = 6 := by
        by_cases h : nr.ks.length = 0
        · exact .inl h
        · obtain ⟨d2, rfl⟩ := HI.out.tree.inner hroot h
          obtain ⟨nd3, ps, h1, h2, h3, _⟩ := HI.out.tree
          rw [hroot] at h1; cases h1
          exact .inr (by omega)
      have hsp := split_any (i := 0) (a := root) (Lib.hid M4) (Nat.le_trans hbase (Nat.le_trans hb1s hs14)) hnp hnr (fun e => hrp e.symm) (Nat.zero_le _) (by show 0 ≤ 4; omega) rfl rfl hf5 hks
      have t04 : w4.cell? ⟨t, 0, none⟩ = some (.pointer (some ⟨p', 0, none⟩)) := by simpa using X4.cell 0
      have hk14 : Keep (fun k => k = t ∨ OwnN N k) w1 w4 := (m1.keep.mono (fun k h _ => .inr h)).trans hkt (fun k e _ => .inl e)
      have HK14 := Lib.hid hk14
      have HX4 := Lib.hid X4
      have HM1 := Lib.hid m1
      have HT1 := Lib.hid hT1
      have HNP := Lib.hid hnp
      have HNR := Lib.hid hnr
      have HPN := Lib.hid hpN1
      have HM4 := Lib.hid M4
      have HB1 := Lib.hid b1
      have HNS := Lib.hid hpns
      have hlt34 : w3.heap.size ≤ w4.heap.size := hkt.size
      clear M1 X1 b1 m1 hT1 hnp hnr hpN1 M4 hrow hal hpN hrp hpns hN1 X3 X4 hkt hk14 hno
      go_wp2_with fail
      refine hfull.mono ?_
      rintro e w2 ⟨rfl, rfl⟩
      go_wp2_with fail
      refine hsp.mono ?_
      rintro e w5 ⟨rfl, N2, b, nda, ndb, ndn, mm, m2, hbb, H⟩
      have hnd1 : (p' :: ns).Nodup := List.nodup_cons.2 ⟨HNS.out, HI.out.nod⟩
      have W1 : Way N1 (D + 1) p' (D + 1) p' f k [] [] f [] (p' :: ns) := ⟨Hole.refl, HT1.out, by simp, by simp, by simp, by simpa using hnd1⟩
      obtain ⟨nsp, W2⟩ := W1.split HNP.out (Nat.zero_le _) (by show 0 ≤ 4; omega) rfl HNR.out hf5 (fun q nd h => Nat.lt_of_lt_of_le (HPN.out q nd h) (Nat.le_trans hlt34 hbb)) H
      have hnl : ndn.l.length = 1 := by rw [H.nl]; rfl
      have hins := insert_any (k := k) (v := v) (VA := VA) (vm := vm) (vc := vc) (Lib.hid m2.mem) (Nat.le_trans hbase (Nat.le_trans hb1s (Nat.le_trans hs14 m2.keep.size))) (Lib.hid W2.tree) (Lib.hid (by have := W2.nod; simpa using this)) (Lib.hid HI.out.rises) H.at_n (by omega) HNO (Lib.hid (by
        refine EntR.stable _ S _ w5 _ _ (hSb _ HB1.out) (fun b hb hl => ⟨hb, ?_⟩)
        have h1 : b < w4.heap.size := Nat.lt_of_lt_of_le hl hs14
        refine (m2.keep.block b h1 (fun h => ?_)).trans (HK14.out.block b hl (fun h => ?_))
        · obtain ⟨p, nd, h2, h3⟩ := h
          exact HM4.out.sep p nd b h2 h3 hb
        · rcases h with rfl | ⟨p, nd, h2, h3⟩
          · exact HI.out.tS hb
          · exact HI.out.mem.sep p nd b h2 h3 hb))
      have htN1' : ¬ OwnN N1 t := htN1
      have X5 := HX4.out.keeps m2.keep htN1
      have t05 : w5.cell? ⟨t, 0, none⟩ = some (.pointer (some ⟨p', 0, none⟩)) := by simpa using X5.cell 0
      have HX5 := Lib.hid X5
      have HM2 := Lib.hid m2
      have hb5 : t < w4.heap.size := HX4.out.lt
      have htN2 : ¬ OwnN N2 t := fun h => (m2.own t h).elim htN1 (fun h => by omega)
      clear W1 W2 H m2 X5 hsp
      go_wp2_with fail
      refine hins.mono ?_
      rintro e w6 ⟨rfl, N3, NS, m, hT2, hn2⟩
      have X6 := HX5.out.keeps m.keep htN2
      have t3 : w6.cell? ⟨t, 1, none⟩ = some (.int .i64 (f.length : Int)) := by simpa using X6.cell 1
      have f3 := X6.frozen 1
      have X7 := X6.set 1 (.int .i64 ((f.length : Int) + 1))
      have hw1 : IntKind.i64.wrap ((f.length : Int) + 1) = (f.length : Int) + 1 := by rw [IntKind.wrap_i64]; omega
      have hkt7 : Keep (fun k => k = t) w6 (w6.setCell ⟨t, 1, none⟩ (.int .i64 ((f.length : Int) + 1))) := setCell_keep w6 t 1 _ rfl
      have hfin := put_end HI.out HB1.out HK14.out (fun k h => HM1.out.own k h) (HM2.out.trans m) hkt7 (by
        have e : ((putE f k v).length : Int) = (f.length : Int) + 1 := by omega
        rw [e]; simpa using X7) hT2 hn2 (putE_rises f HI.out.rises).1 true
      have HF := Lib.hid hfin
      clear hfin hkt7 m X6 X7 hT2 hn2
      go_wp2_with fail
      go_ret
      exact HF.out
    · have e5 : (nr.l.length == 5) = false := by simpa using hf5
      rw [e5] at hfull
      have hins := insert_any (k := k) (v := v) (VA := VA) (vm := vm) (vc := vc) (Lib.hid M1) (Nat.le_trans hbase hb1s) (Lib.hid HI.out.tree) (Lib.hid HI.out.nod) (Lib.hid HI.out.rises) hroot (by omega) (Lib.hid hno) (Lib.hid (hSb w1 b1))
      have HX1 := Lib.hid X1
      have HM1 := Lib.hid M1
      have HB1 := Lib.hid b1
      clear M1 X1 b1 hno
      go_wp2_with fail
      refine hfull.mono ?_
      rintro e w2 ⟨rfl, rfl⟩
      go_wp2_with fail
      refine hins.mono ?_
      rintro e w3 ⟨rfl, N2, NS, m, hT2, hn2⟩
      have X3 := HX1.out.keeps m.keep HI.out.tN
      have t3 := X3.cell 1
      have f3 := X3.frozen 1
      have X4 := X3.set 1 (.int .i64 ((f.length : Int) + 1))
      have hw1 : IntKind.i64.wrap ((f.length : Int) + 1) = (f.length : Int) + 1 := by rw [IntKind.wrap_i64]; omega
      have hkt : Keep (fun k => k = t) w3 (w3.setCell ⟨t, 1, none⟩ (.int .i64 ((f.length : Int) + 1))) := setCell_keep w3 t 1 _ rfl
      have hfin := put_end HI.out HB1.out (Keep.refl _ _) (fun k h => .inl h) m hkt (by
        have e : ((putE f k v).length : Int) = (f.length : Int) + 1 := by omega
        rw [e]; simpa using X4) hT2 hn2 (putE_rises f HI.out.rises).1 true
      have HF := Lib.hid hfin
      clear hfin hkt m X3 X4
      go_wp2_with fail
      go_ret
      exact HF.out
  · have hN := M1.at_ p nd hp
    obtain ⟨EA, EC, hlv, hEC, ER, hEg⟩ := hN.ents
    have hil : i < nd.l.length := (List.getElem?_eq_some_iff.1 hy).1
    obtain ⟨gl, rfl⟩ := hEg (by omega)
    have e3 : gl = g := by rw [hlv] at hg; exact Option.some.inj hg
    subst e3
    obtain ⟨_, _, _, hgl, _, _, cm1⟩ := entS_at ER hy
    have fg : w1.frozen? ⟨gl, i * 2 + 1, none⟩ = false := by
      obtain ⟨css, h1, _⟩ := hN.l
      rcases h1.2 with ⟨e, _⟩ | ⟨g', cap, cur, e, _, hblk, _⟩
      · rw [hlv] at e; cases e
      · rw [hlv] at e
        injection e with e _ _
        injection e with e
        injection e with e _ _
        subst e
        simp [World.frozen?, hblk]
    obtain ⟨a, b, hfp, haK, hset⟩ := hT.set hp hy ((List.nodup_append.1 (hpm.nodup_iff.2 HI.out.nod)).2.1) ((hf ▸ HI.out.rises : Rises (pre ++ fp ++ post)).sub ((List.sublist_append_right pre fp).trans (List.sublist_append_left _ post)))
    have hm := Mod.setE M1 hp hy hg (VA := VA) (vm := vm) (vc := vc) (v := v) (by rw [hyk]; exact hSb w1 b1)
    have hTn := hset ⟨y.key, v⟩ _ _ (upd_same N p ⟨nd.lv, nd.l.set i ⟨y.key, v⟩, nd.kv, nd.ks⟩) rfl rfl (fun q _ hne => upd_ne _ _ hne)
    have hpn : ∀ q ∈ ns0, q ≠ p := fun q hq e => (List.nodup_append.1 (hpm.nodup_iff.2 HI.out.nod)).2.2 q hq p hT.root e
    obtain ⟨NS, t1, t2⟩ := hHo _ _ _ (fun q hq => upd_ne _ _ (hpn q hq)) hTn
    have hput : putE f k v = pre ++ (a ++ ⟨y.key, v⟩ :: b) ++ post := by
      rw [hf, hfp, List.append_assoc, putE_app v pre _ hpre, List.append_assoc, putE_app v a _ (fun x hx => by rw [← hyk]; exact haK x hx), List.cons_append, putE_old v y _ hyk, hyk]
      simp
    have hlen2 : (putE f k v).length = f.length := by rw [hput, hf, hfp]; simp
    have hgt : t ≠ gl := fun e => HI.out.tN ⟨p, nd, hp, .inr (.inl (e ▸ hg))⟩
    have X2 := X1.set_other (p := ⟨gl, i * 2 + 1, none⟩) hgt (.slice VA vm vc)
    have hfin := put_end HI.out b1 (Keep.refl _ _) (fun k h => .inl h) hm (Keep.refl _ _) (by rw [hlen2]; exact X2) (by rw [hput]; exact t1) (t2.nodup_iff.2 (hpm.nodup_iff.2 HI.out.nod)) (putE_rises f HI.out.rises).1 false
    have HF := Lib.hid hfin
    clear hfin X2 hput hlen2 t1 t2 hTn hm hset hfp haK hHo hT hf hpre hpm ER hEg hN hpn M1 X1 b1
    go_wp2_with fail
    go_ret
    exact HF.out
end Go.Proofs.Ytpibaahiboajhaa
