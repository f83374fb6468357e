/-
  chain.Prune: its contract.
-/
import Derived.Test.YtpibaahiboajhaaChain4
set_option linter.unusedSimpArgs false
set_option linter.unusedVariables false
namespace Go.Proofs.Ytpibaahiboajhaa
open Go.RowKit Go.Cib
attribute [local go_sem] cell_set Later.cell Later.frozen Grw.cell Grw.frozen

def seenIdx (l : List Ver) (s : Int) : Nat := l.findIdx fun v => decide (v.stamp ≤ s)
def seenStep (l : List Ver) (es : List (Int × Value)) (s : Int) : List (Int × Value) := if seenIdx l s < l.length then mput es (seenIdx l s : Int) (.bool true) else es
def seenEs (l : List Ver) (starts : List Int) : List (Int × Value) := starts.foldl (seenStep l) [(0, .bool true)]
def noneB (l : List Ver) (starts : List Int) : Bool := rightL l && goneL l (seenEs l starts) starts
def keepP (l : List Ver) (starts : List Int) (i : Nat) : Bool := !rightL l || ((mlook (seenEs l starts) (i : Int)).isSome && !noneB l starts)
def sel (p : Nat → Bool) : Nat → List Ver → List Ver
  | _, [] => []
  | i, v :: r => if p i then v :: sel p (i + 1) r else sel p (i + 1) r
theorem sel_append (p : Nat → Bool) : ∀ (l r : List Ver) (i : Nat), sel p i (l ++ r) = sel p i l ++ sel p (i + l.length) r
  | [], r, i => by simp [sel]
  | v :: l, r, i => by
    simp only [List.cons_append, sel, sel_append p l r (i + 1), List.length_cons]
    rw [show i + 1 + l.length = i + (l.length + 1) by omega]
    split <;> simp
theorem sel_length (p : Nat → Bool) : ∀ (l : List Ver) (i : Nat), (sel p i l).length ≤ l.length
  | [], i => by simp [sel]
  | v :: l, i => by
    have := sel_length p l (i + 1)
    simp only [sel]; split <;> simp <;> omega
theorem sel_take {l : List Ver} {k : Nat} {x : Ver} (p : Nat → Bool) (h : l[k]? = some x) : sel p 0 (l.take (k + 1)) = sel p 0 (l.take k) ++ (if p k then [x] else []) := by
  have hk : k < l.length := (List.getElem?_eq_some_iff.1 h).1
  rw [List.take_add_one, h, sel_append]
  simp only [List.length_take, Nat.min_eq_left (Nat.le_of_lt hk), Nat.zero_add, Option.toList_some, sel]

theorem found_idx {l : List Ver} {s : Int} {i : Nat} (h : rightL l = true) (hf : Found (leAt l s) l.length i) : i = seenIdx l s := by
  obtain ⟨h1, h2, h3⟩ := hf
  have hbefore : ∀ j, j < i → leAt l s j = false := fun j hj => by
    have h4 := h3 (by omega)
    rcases Nat.lt_or_ge j (i - 1) with h5 | h5
    · have h6 := stamps_fall h (i - 1 - j) j (by omega) (by omega)
      rw [show j + (i - 1 - j) = i - 1 by omega] at h6
      simp only [leAt, decide_eq_false_iff_not] at h4 ⊢
      omega
    · rw [show j = i - 1 by omega]; exact h4
  symm
  rcases Nat.lt_or_ge i l.length with hi | hi
  · rw [seenIdx, List.findIdx_eq hi]
    refine ⟨by have := h2 hi; simpa [leAt, hi] using this, fun j hj => ?_⟩
    have := hbefore j hj
    simpa [leAt, show j < l.length by omega] using this
  · have hil : i = l.length := by omega
    rw [hil, seenIdx, List.findIdx_eq_length]
    intro x hx
    obtain ⟨j, hj, rfl⟩ := List.mem_iff_getElem.1 hx
    have := hbefore j (by omega)
    simpa [leAt, hj] using this

theorem put_true {es : List (Int × Value)} (h : ∀ p ∈ es, p.2 = Value.bool true) (k : Int) : ∀ p ∈ mput es k (.bool true), p.2 = .bool true := by
  induction es with
  | nil => simp [mput]
  | cons q r ihr =>
    obtain ⟨a, u⟩ := q
    simp only [mput]
    split
    · intro p hp; rcases List.mem_cons.1 hp with h1 | h1
      · rw [h1]
      · exact h p (List.mem_cons_of_mem _ h1)
    · intro p hp; rcases List.mem_cons.1 hp with h1 | h1
      · rw [h1]; exact h _ (by simp)
      · exact ihr (fun p hp => h p (List.mem_cons_of_mem _ hp)) p h1

/-- The map of what is seen, behind some starts. -/
def SeenAt (w : World) (m : Nat) (l : List Ver) (starts : List Int) (es : List (Int × Value)) : Prop := MapAt (Value.int .i64) w m es ∧ (∀ p ∈ es, p.2 = .bool true) ∧ (rightL l = true → es = seenEs l starts)

theorem Below.grw {B : Nat} {a W : World} {m : Nat} (h : Below B a W) (hB : B ≤ W.heap.size) (hm : B ≤ m) (u : Grw (some m) W) : Below B a u.to := h.grown u.ok hB (fun k hk => by injection hk with hk; omega)

theorem look_bool {es : List (Int × Value)} (h : ∀ p ∈ es, p.2 = .bool true) (k : Int) : (mlook es k).getD (.bool false) = .bool (mlook es k).isSome := by
  cases hl : mlook es k with
  | none => rfl
  | some v => have := h _ (look_mem hl); simp at this; simp [this]

theorem keep_un {l : List Ver} {starts : List Int} {i : Nat} (h : rightL l = false) : keepP l starts i = true := by simp [keepP, h]
def OwnTwo (base : Nat) (w : World) (v1 v2 : Value) (n1 n2 : Nat) (l1 l2 : List Ver) : Prop :=
  OwnL VerR 77 5 base (fun b => base ≤ b ∧ some b ≠ v2.ownBlock) w v1 n1 l1 ∧ OwnL VerR 77 5 base (fun b => base ≤ b ∧ some b ≠ v1.ownBlock) w v2 n2 l2 ∧ (v1.ownBlock = none ∨ v1.ownBlock ≠ v2.ownBlock)
theorem OwnTwo.swap {base : Nat} {w : World} {v1 v2 : Value} {n1 n2 : Nat} {l1 l2 : List Ver} (h : OwnTwo base w v1 v2 n1 n2 l1 l2) : OwnTwo base w v2 v1 n2 n1 l2 l1 :=
  ⟨h.2.1, h.1, by rcases h.2.2 with e | e
                  · cases hv : v2.ownBlock with
                    | none => exact .inl rfl
                    | some k => rw [e]; exact .inr (by simp)
                  · exact .inr (Ne.symm e)⟩
theorem OwnTwo.keep {base : Nat} {w w' : World} {v1 v2 : Value} {n1 n2 : Nat} {l1 l2 : List Ver} (h : OwnTwo base w v1 v2 n1 n2 l1 l2) (hb : Below w.heap.size w w') : OwnTwo base w' v1 v2 n1 n2 l1 l2 :=
  ⟨h.1.keep VerR.stable hb, h.2.1.keep VerR.stable hb, h.2.2⟩
theorem OwnTwo.pushed {base : Nat} {w w' : World} {v1 v2 v1' : Value} {n1 n2 n1' : Nat} {l1 l2 l1' : List Ver} (h : OwnTwo base w v1 v2 n1 n2 l1 l2) (hbase : base ≤ w.heap.size) (hg : w.grownBy w' v1.ownBlock) (hat : v1'.ownBlock = v1.ownBlock ∨ v1'.ownBlock = some (w.heap.size + 1))
    (h1 : OwnL VerR 77 5 base (fun b => base ≤ b ∧ some b ≠ v2.ownBlock) w' v1' n1' l1') : OwnTwo base w' v1' v2 n1' n2 l1' l2 := by
  have hlt := h.2.1.lt
  refine ⟨h1, h.2.1.other VerR.stable hg ?_ (fun b hb => hb.2) (fun b hb hbl => ⟨hb.1, ?_⟩), ?_⟩
  · exact h.swap.2.2
  · rcases hat with e | e
    · rw [e]; exact hb.2
    · rw [e]; intro h; injection h with h; omega
  · rcases hat with e | e
    · rw [e]; exact h.2.2
    · right; rw [e]; intro h
      have := hlt _ h.symm; omega
theorem OwnTwo.rd {base B : Nat} {w : World} {A1 A2 : Option Addr} {n1 n2 c1 c2 : Nat} {l1 l2 : List Ver} (h : OwnTwo base w (.slice A1 n1 c1) (.slice A2 n2 c2) n1 n2 l1 l2) (hB : B ≤ base) : RdL VerR 5 (B ≤ ·) w A1 n1 l1 ∧ n1 ≤ c1 := by
  obtain ⟨A, c, e, hc, hr⟩ := h.1.rd (S' := (B ≤ ·)) (fun b hb => Nat.le_trans hB hb) (fun cs x hx => VerR.stable _ _ _ _ _ _ hx fun b hb _ => ⟨Nat.le_trans hB hb.1.1, rfl⟩)
  injection e with e1 e2 e3
  subst e1; subst e3
  exact ⟨hr, hc⟩

set_option maxRecDepth 100000 in
set_option maxHeartbeats 2000000 in
theorem prune_any {S S2 : Nat → Prop} {l : List Ver} {starts : List Int} (A A2 : Option Addr) (n c n2 c2 : Nat) (w : World) (hn : n ≤ 4194303) (hn2 : n2 ≤ 4194304) (hr : Hid (RdL VerR 5 S w A n l)) (hsm : Small l) (hr2 : Hid (RdL U64R 1 S2 w A2 n2 starts)) :
    Calls Try.prog 79 #[.slice A n c, .slice A2 n2 c2] w fun e w' => ∃ A3 n3 c3 A4 n4 c4, e = .returned (.tuple #[.slice A3 n3 c3, .slice A4 n4 c4]) ∧
      RdL VerR 5 (w.heap.size ≤ ·) w' A3 n3 (sel (keepP l starts) 0 l) ∧ n3 ≤ c3 ∧ RdL VerR 5 (w.heap.size ≤ ·) w' A4 n4 (sel (fun i => !keepP l starts i) 0 l) ∧ n4 ≤ c4 ∧ Below w.heap.size w w' := by
  go_enter Try.func79, Try.ntmps79
  have hnew := MapAt.new (Value.int .i64) w
  have HN := Lib.hid hnew; clear hnew
  have hmm := @run_makeMap Try.prog
  go_wp2_with (refine wpList_mapUpdate kt_int und_mapIB rfl (.inr rfl) (by exact rfl) (by exact rfl) rfl HN.out ?_; intro u hma hus)
  have hwu : Below w.heap.size w u.to := Below.grw (by repeat (first | (with_reducible exact Below.refl _ _) | (with_reducible assumption) | (with_reducible refine Below.drew ?_) | (with_reducible refine Below.setCell ?_ ?_ _) | (with_reducible refine Below.alloc ?_ ?_ _) | (with_reducible refine Below.later ?_ ?_ _) | (first | (with_reducible exact Nat.le_refl _) | omega | (simp only [World.size_alloc, World.size_setCell, World.size_drew] <;> omega)))) (by simp) (Nat.le_refl _) u
  have hus2 : w.heap.size < u.to.heap.size := by rw [hus]; simp
  refine (right_any A n c _ (by omega) (Lib.hid (hr.out.below VerR.stable hwu))).mono ?_
  rintro e w1 ⟨rfl, hb1⟩
  have hw1 : Below w.heap.size w w1 := hwu.trans (hb1.mono hwu.size)
  have hm1 : MapAt (Value.int .i64) w1 w.heap.size [(0, .bool true)] := hma.below hb1
  have hs1 : w.heap.size < w1.heap.size := Nat.lt_of_lt_of_le hus2 hb1.size
  clear hma hwu hus hus2 hb1 HN hmm
  cases hR : rightL l
  · have HR := Lib.hid hR; clear hR
    go_wp2_with fail
    go_loopw [23] (fun vi wr => ∃ (j : Nat) (es : List (Int × Value)), j ≤ n2 ∧ vi = .int .i64 j ∧ Below w.heap.size w wr ∧ w.heap.size < wr.heap.size ∧ SeenAt wr w.heap.size l (starts.take j) es) (fun vi _ => n2 - (intOf vi).toNat)
    case atStart => exact ⟨0, _, Nat.zero_le _, rfl, hw1, hs1, hm1, by simp, fun _ => by simp [seenEs]⟩
    case round =>
      clear hw1 hm1 hs1
      obtain ⟨j, es, hj, rfl, hbel, hsz, hseen⟩ := hrel
      by_cases hlt : j < n2
      · obtain ⟨b2, o2, rfl, _, hb2⟩ := hr2.out.addr hlt
        obtain ⟨hjl, cs, hcs, hu, hcell⟩ := hr2.out.at hlt
        have hc0 := hcell 0 (.int .u64 starts[j]) (by rw [hu]; rfl)
        simp only [Nat.mul_one, Nat.add_zero] at hc0
        clear hcell hu hcs
        obtain ⟨y, rfl⟩ := Later.ex hbel
        have HS := Lib.hid hseen; clear hseen
        go_wp2_with fail
        refine (place_any A n c _ _ (by omega) (Lib.hid (hr.out.below VerR.stable y.ok))).mono ?_
        rintro e w2 ⟨i, hf, rfl, hb2'⟩
        have hw2 : Below w.heap.size w w2 := y.ok.trans (hb2'.mono (Nat.le_of_lt hsz))
        have hs2 : w.heap.size < w2.heap.size := Nat.lt_of_lt_of_le hsz hb2'.size
        have hm2 : MapAt (Value.int .i64) w2 w.heap.size es := HS.out.1.below hb2'
        rw [← hr.out.1] at hf
        have HF := Lib.hid hf; clear hf hb2'
        have HT := Lib.hid (show starts.take (j + 1) = starts.take j ++ [starts[j]] by rw [List.take_add_one, List.getElem?_eq_getElem hjl]; rfl)
        have HL := Lib.hid hr.out.1
        by_cases hin : i < n
        · go_wp2_with (refine wpList_mapUpdate kt_int und_mapIB (val := .bool true) rfl (.inl rfl) (by exact rfl) (by exact rfl) rfl hm2 ?_; intro u hma hus)
          refine ⟨⟨j + 1, _, by omega, by go_num, Below.grw hw2 (Nat.le_of_lt hs2) (Nat.le_refl _) u, by omega, hma, ?_, fun hright => ?_⟩, by simp [intOf]; omega⟩
          · intro p hp
            have := put_true HS.out.2.1 (i : Int) p hp
            exact this
          · rw [HS.out.2.2 hright, HT.out, seenEs, seenEs, List.foldl_append, List.foldl_cons, List.foldl_nil, seenStep, ← found_idx hright HF.out, if_pos (by rw [HL.out]; exact hin)]
        · go_wp2_with fail
          refine ⟨⟨j + 1, _, by omega, by go_num, hw2, hs2, hm2, HS.out.2.1, fun hright => ?_⟩, by simp [intOf]; omega⟩
          rw [HS.out.2.2 hright, HT.out, seenEs, seenEs, List.foldl_append, List.foldl_cons, List.foldl_nil, seenStep, ← found_idx hright HF.out, if_neg (by rw [HL.out]; exact hin)]
      · have hjn : starts.take j = starts := List.take_of_length_le (by rw [hr2.out.1]; omega)
        rw [hjn] at hseen
        have HS := Lib.hid hseen; clear hseen hjn
        go_wp2_with fail
        obtain ⟨W, hW⟩ : ∃ W, W = wr := ⟨_, rfl⟩
        rw [← hW] at hbel hsz HS ⊢
        clear hW
        have HL := Lib.hid hr.out.1
        have hWs : w.heap.size ≤ W.heap.size := Nat.le_of_lt hsz
        have hmlt := HS.out.1.lt
        go_loopw [12, 13, 47] (fun v1 v2 vi wx => ∃ (k n1 : Nat) (A1 : Option Addr) (c1 n3 : Nat) (A3 : Option Addr) (c3 : Nat), k ≤ n ∧ vi = .int .i64 k ∧ v1 = .slice A1 n1 c1 ∧ v2 = .slice A3 n3 c3 ∧ Below W.heap.size W wx ∧ OwnTwo W.heap.size wx (.slice A1 n1 c1) (.slice A3 n3 c3) n1 n3 (sel (keepP l starts) 0 (l.take k)) (sel (fun i => !keepP l starts i) 0 (l.take k))) (fun _ _ vi _ => n - (intOf vi).toNat)
        case atStart => exact ⟨0, 0, none, 0, 0, none, 0, Nat.zero_le _, rfl, rfl, rfl, Below.refl _ _, OwnL.nil_, OwnL.nil_, .inl rfl⟩
        case round =>
          obtain ⟨k, n1, A1, c1, n3, A3, c3, hk, rfl, rfl, rfl, hb, htwo⟩ := hrel
          by_cases hlt : k < n
          · obtain ⟨y, rfl⟩ := Later.ex hb
            have hyb := y.ok.size
            obtain ⟨b, o, rfl, hS, hb0⟩ := hr.out.addr hlt
            obtain ⟨v, B1, m1, d1, hx, hmc, hpl, e0, e1, e2, e3, e4⟩ := vers_at ((hr.out.below VerR.stable hbel)) hlt
            have HX := Lib.hid hx
            have hm : m1 ≤ 17592186043904 := by rw [← hpl.1]; exact hsm v (List.mem_of_getElem? hx)
            have HP := Lib.hid hpl
            have hb1 : b < y.to.heap.size := by omega
            have hb2 : b ≤ y.to.heap.size := by omega
            have hb3 : b < W.heap.size := by omega
            clear hS hx hpl
            have hl1 : n1 ≤ k := by have h1 := htwo.1.len; have h2 := sel_length (keepP l starts) (l.take k) 0; simp at h2; omega
            have hl3 : n3 ≤ k := by have h1 := htwo.2.1.len; have h2 := sel_length (fun i => !keepP l starts i) (l.take k) 0; simp at h2; omega
            have HK := Lib.hid (keep_un (starts := starts) (i := k) HR.out)
            go_wp2_with fail
            refine (own_any _ _ _ _ B1 m1 d1 _ (Lib.hid ((HP.out.below IntR.stable y.ok).alloc IntR.stable _)) hm).mono ?_
            rintro e w' ⟨B2, d2, rfl, hc2, hr3, hb⟩
            obtain ⟨z, rfl⟩ := Later.ex hb
            clear hb
            have hzs := z.ok.size
            simp only [World.size_alloc] at hr3 hzs
            have htwo2 := (htwo.keep ((Below.refl _ _).alloc (Nat.le_refl _) _)).keep z.ok
            have hfr := fun b (hb : y.to.heap.size + 1 ≤ b) => htwo.1.rest (b := b) ⟨show W.heap.size ≤ b by omega, fun e => by have := (htwo.2.1.lt b e.symm).2; omega⟩ (by omega)
            have hzb : Below W.heap.size W z.to := (by repeat (first | (with_reducible exact Below.refl _ _) | (with_reducible assumption) | (with_reducible refine Below.drew ?_) | (with_reducible refine Below.setCell ?_ ?_ _) | (with_reducible refine Below.alloc ?_ ?_ _) | (with_reducible refine Below.later ?_ ?_ _) | (first | (with_reducible exact Nat.le_refl _) | omega | (simp only [World.size_alloc, World.size_setCell, World.size_drew] <;> omega))))
            have hlen := htwo.1.len
            clear htwo
            go_wp2_with (at_builtin; refine wpList_push1 VerR.stable VerR.one sl_ver rfl rfl (by exact rfl) (by exact rfl) htwo2.1 (y := v) rfl ⟨B2, m1, d2, rfl, hc2, hr3.weaken IntR.stable hfr⟩ (by unfold maxLen; omega) (by omega) (by omega) ?_; intro A5 c5 u hc5 hown3 hus hub hat)
            refine ⟨⟨k + 1, _, _, _, _, _, _, by omega, by go_num, rfl, rfl, hzb.trans hub, ?_⟩, by simp [intOf]; omega⟩
            rw [sel_take _ HX.out, sel_take _ HX.out, HK.out]
            simp only [Bool.not_true, Bool.not_false, if_true, if_false, Bool.false_eq_true, List.append_nil]
            exact htwo2.pushed (by omega) u.ok hat hown3
          · have hkn : l.take k = l := List.take_of_length_le (by rw [HL.out]; omega)
            rw [hkn] at htwo
            go_wp2_with fail
            go_ret2
            obtain ⟨r1, r2⟩ := htwo.rd hWs
            obtain ⟨r3, r4⟩ := htwo.swap.rd hWs
            exact ⟨A1, n1, c1, A3, n3, c3, rfl, r1, r2, r3, r4, hbel.trans (hb.mono hWs)⟩
  · have HR := Lib.hid hR; clear hR
    go_wp2_with fail
    go_loopw [23] (fun vi wr => ∃ (j : Nat) (es : List (Int × Value)), j ≤ n2 ∧ vi = .int .i64 j ∧ Below w.heap.size w wr ∧ w.heap.size < wr.heap.size ∧ SeenAt wr w.heap.size l (starts.take j) es) (fun vi _ => n2 - (intOf vi).toNat)
    case atStart => exact ⟨0, _, Nat.zero_le _, rfl, hw1, hs1, hm1, by simp, fun _ => by simp [seenEs]⟩
    case round =>
      clear hw1 hm1 hs1
      obtain ⟨j, es, hj, rfl, hbel, hsz, hseen⟩ := hrel
      by_cases hlt : j < n2
      · obtain ⟨b2, o2, rfl, _, hb2⟩ := hr2.out.addr hlt
        obtain ⟨hjl, cs, hcs, hu, hcell⟩ := hr2.out.at hlt
        have hc0 := hcell 0 (.int .u64 starts[j]) (by rw [hu]; rfl)
        simp only [Nat.mul_one, Nat.add_zero] at hc0
        clear hcell hu hcs
        obtain ⟨y, rfl⟩ := Later.ex hbel
        have HS := Lib.hid hseen; clear hseen
        go_wp2_with fail
        refine (place_any A n c _ _ (by omega) (Lib.hid (hr.out.below VerR.stable y.ok))).mono ?_
        rintro e w2 ⟨i, hf, rfl, hb2'⟩
        have hw2 : Below w.heap.size w w2 := y.ok.trans (hb2'.mono (Nat.le_of_lt hsz))
        have hs2 : w.heap.size < w2.heap.size := Nat.lt_of_lt_of_le hsz hb2'.size
        have hm2 : MapAt (Value.int .i64) w2 w.heap.size es := HS.out.1.below hb2'
        rw [← hr.out.1] at hf
        have HF := Lib.hid hf; clear hf hb2'
        have HT := Lib.hid (show starts.take (j + 1) = starts.take j ++ [starts[j]] by rw [List.take_add_one, List.getElem?_eq_getElem hjl]; rfl)
        have HL := Lib.hid hr.out.1
        by_cases hin : i < n
        · go_wp2_with (refine wpList_mapUpdate kt_int und_mapIB (val := .bool true) rfl (.inl rfl) (by exact rfl) (by exact rfl) rfl hm2 ?_; intro u hma hus)
          refine ⟨⟨j + 1, _, by omega, by go_num, Below.grw hw2 (Nat.le_of_lt hs2) (Nat.le_refl _) u, by omega, hma, ?_, fun hright => ?_⟩, by simp [intOf]; omega⟩
          · intro p hp
            have := put_true HS.out.2.1 (i : Int) p hp
            exact this
          · rw [HS.out.2.2 hright, HT.out, seenEs, seenEs, List.foldl_append, List.foldl_cons, List.foldl_nil, seenStep, ← found_idx hright HF.out, if_pos (by rw [HL.out]; exact hin)]
        · go_wp2_with fail
          refine ⟨⟨j + 1, _, by omega, by go_num, hw2, hs2, hm2, HS.out.2.1, fun hright => ?_⟩, by simp [intOf]; omega⟩
          rw [HS.out.2.2 hright, HT.out, seenEs, seenEs, List.foldl_append, List.foldl_cons, List.foldl_nil, seenStep, ← found_idx hright HF.out, if_neg (by rw [HL.out]; exact hin)]
      · have hjn : starts.take j = starts := List.take_of_length_le (by rw [hr2.out.1]; omega)
        rw [hjn] at hseen
        have HS := Lib.hid hseen; clear hseen hjn
        go_wp2_with (go_at_call 120; refine (gone_any A A2 n c n2 c2 _ _ (by omega) hn2 (Lib.hid (hr.out.below VerR.stable hbel)) (Lib.hid HS.out.1) (Lib.hid (hr2.out.below U64R.stable hbel))).mono ?_; rintro e w3 ⟨rfl, hb3⟩; have hbel := hbel.trans (hb3.mono (Nat.le_of_lt hsz)); have hsz := Nat.lt_of_lt_of_le hsz hb3.size; have HS := Lib.hid (show SeenAt w3 w.heap.size l starts es from ⟨HS.out.1.below hb3, HS.out.2⟩); clear hb3)
        obtain ⟨W, hW⟩ : ∃ W, W = w3 := ⟨_, rfl⟩
        rw [← hW] at hbel hsz HS ⊢
        clear hW
        have HL := Lib.hid hr.out.1
        have hWs : w.heap.size ≤ W.heap.size := Nat.le_of_lt hsz
        have hmlt := HS.out.1.lt
        go_loopw [12, 13, 47] (fun v1 v2 vi wx => ∃ (k n1 : Nat) (A1 : Option Addr) (c1 n3 : Nat) (A3 : Option Addr) (c3 : Nat), k ≤ n ∧ vi = .int .i64 k ∧ v1 = .slice A1 n1 c1 ∧ v2 = .slice A3 n3 c3 ∧ Below W.heap.size W wx ∧ OwnTwo W.heap.size wx (.slice A1 n1 c1) (.slice A3 n3 c3) n1 n3 (sel (keepP l starts) 0 (l.take k)) (sel (fun i => !keepP l starts i) 0 (l.take k))) (fun _ _ vi _ => n - (intOf vi).toNat)
        case atStart => exact ⟨0, 0, none, 0, 0, none, 0, Nat.zero_le _, rfl, rfl, rfl, Below.refl _ _, OwnL.nil_, OwnL.nil_, .inl rfl⟩
        case round =>
          obtain ⟨k, n1, A1, c1, n3, A3, c3, hk, rfl, rfl, rfl, hb, htwo⟩ := hrel
          by_cases hlt : k < n
          · obtain ⟨y, rfl⟩ := Later.ex hb
            have hyb := y.ok.size
            obtain ⟨b, o, rfl, hS, hb0⟩ := hr.out.addr hlt
            obtain ⟨v, B1, m1, d1, hx, hmc, hpl, e0, e1, e2, e3, e4⟩ := vers_at ((hr.out.below VerR.stable hbel)) hlt
            have HX := Lib.hid hx
            have hm : m1 ≤ 17592186043904 := by rw [← hpl.1]; exact hsm v (List.mem_of_getElem? hx)
            have HP := Lib.hid hpl
            have hb1 : b < y.to.heap.size := by omega
            have hb2 : b ≤ y.to.heap.size := by omega
            have hb3 : b < W.heap.size := by omega
            clear hS hx hpl
            have hl1 : n1 ≤ k := by have h1 := htwo.1.len; have h2 := sel_length (keepP l starts) (l.take k) 0; simp at h2; omega
            have hl3 : n3 ≤ k := by have h1 := htwo.2.1.len; have h2 := sel_length (fun i => !keepP l starts i) (l.take k) 0; simp at h2; omega
            have hlk : ∀ o : Obj, (Instr.lookup 193 (.map (some w.heap.size)) (.int .i64 (k : Int)) false).run Try.prog (y.to.alloc o) = .ok (.bool (mlook es (k : Int)).isSome) (y.to.alloc o) := fun o => by
              rw [run_lookup kt_int und_mapIB zero_bool ((HS.out.1.keep (y.ok.block _ hmlt)).alloc o) (k : Int) false]
              simp only [Bool.false_eq_true, if_false, look_bool HS.out.2.1]
            have hkk : keepP l starts k = ((mlook es (k : Int)).isSome && !goneL l es starts) := by rw [keepP, noneB, HR.out, ← HS.out.2.2 HR.out]; simp
            cases hin : (mlook es (k : Int)).isSome
            · have HK := Lib.hid (show keepP l starts k = false by rw [hkk, hin]; rfl)
              rw [hin] at hlk
              clear hkk hin
              go_wp2_with fail
              refine (own_any _ _ _ _ B1 m1 d1 _ (Lib.hid ((HP.out.below IntR.stable y.ok).alloc IntR.stable _)) hm).mono ?_
              rintro e w' ⟨B2, d2, rfl, hc2, hr3, hb⟩
              obtain ⟨z, rfl⟩ := Later.ex hb
              clear hb
              have hzs := z.ok.size
              simp only [World.size_alloc] at hr3 hzs
              have htwo2 := (htwo.keep ((Below.refl _ _).alloc (Nat.le_refl _) _)).keep z.ok
              have hfr := fun b (hb : y.to.heap.size + 1 ≤ b) => htwo.swap.1.rest (b := b) ⟨show W.heap.size ≤ b by omega, fun e => by have := (htwo.swap.2.1.lt b e.symm).2; omega⟩ (by omega)
              have hzb : Below W.heap.size W z.to := (by repeat (first | (with_reducible exact Below.refl _ _) | (with_reducible assumption) | (with_reducible refine Below.drew ?_) | (with_reducible refine Below.setCell ?_ ?_ _) | (with_reducible refine Below.alloc ?_ ?_ _) | (with_reducible refine Below.later ?_ ?_ _) | (first | (with_reducible exact Nat.le_refl _) | omega | (simp only [World.size_alloc, World.size_setCell, World.size_drew] <;> omega))))
              have hlen := htwo.swap.1.len
              clear htwo
              go_wp2_with (at_builtin; refine wpList_push1 VerR.stable VerR.one sl_ver rfl rfl (by exact rfl) (by exact rfl) htwo2.swap.1 (y := v) rfl ⟨B2, m1, d2, rfl, hc2, hr3.weaken IntR.stable hfr⟩ (by unfold maxLen; omega) (by omega) (by omega) ?_; intro A5 c5 u hc5 hown3 hus hub hat)
              refine ⟨⟨k + 1, _, _, _, _, _, _, by omega, by go_num, rfl, rfl, hzb.trans hub, ?_⟩, by simp [intOf]; omega⟩
              rw [sel_take _ HX.out, sel_take _ HX.out, HK.out]
              simp only [Bool.not_true, Bool.not_false, if_true, if_false, Bool.false_eq_true, List.append_nil]
              exact (htwo2.swap.pushed (by omega) u.ok hat hown3).swap
            · cases hg : goneL l es starts
              · have HK := Lib.hid (show keepP l starts k = true by rw [hkk, hin, hg]; rfl)
                rw [hin] at hlk
                clear hkk hin hg
                go_wp2_with fail
                refine (own_any _ _ _ _ B1 m1 d1 _ (Lib.hid ((HP.out.below IntR.stable y.ok).alloc IntR.stable _)) hm).mono ?_
                rintro e w' ⟨B2, d2, rfl, hc2, hr3, hb⟩
                obtain ⟨z, rfl⟩ := Later.ex hb
                clear hb
                have hzs := z.ok.size
                simp only [World.size_alloc] at hr3 hzs
                have htwo2 := (htwo.keep ((Below.refl _ _).alloc (Nat.le_refl _) _)).keep z.ok
                have hfr := fun b (hb : y.to.heap.size + 1 ≤ b) => htwo.1.rest (b := b) ⟨show W.heap.size ≤ b by omega, fun e => by have := (htwo.2.1.lt b e.symm).2; omega⟩ (by omega)
                have hzb : Below W.heap.size W z.to := (by repeat (first | (with_reducible exact Below.refl _ _) | (with_reducible assumption) | (with_reducible refine Below.drew ?_) | (with_reducible refine Below.setCell ?_ ?_ _) | (with_reducible refine Below.alloc ?_ ?_ _) | (with_reducible refine Below.later ?_ ?_ _) | (first | (with_reducible exact Nat.le_refl _) | omega | (simp only [World.size_alloc, World.size_setCell, World.size_drew] <;> omega))))
                have hlen := htwo.1.len
                clear htwo
                go_wp2_with (at_builtin; refine wpList_push1 VerR.stable VerR.one sl_ver rfl rfl (by exact rfl) (by exact rfl) htwo2.1 (y := v) rfl ⟨B2, m1, d2, rfl, hc2, hr3.weaken IntR.stable hfr⟩ (by unfold maxLen; omega) (by omega) (by omega) ?_; intro A5 c5 u hc5 hown3 hus hub hat)
                refine ⟨⟨k + 1, _, _, _, _, _, _, by omega, by go_num, rfl, rfl, hzb.trans hub, ?_⟩, by simp [intOf]; omega⟩
                rw [sel_take _ HX.out, sel_take _ HX.out, HK.out]
                simp only [Bool.not_true, Bool.not_false, if_true, if_false, Bool.false_eq_true, List.append_nil]
                exact htwo2.pushed (by omega) u.ok hat hown3
              · have HK := Lib.hid (show keepP l starts k = false by rw [hkk, hg]; simp)
                rw [hin] at hlk
                clear hkk hin hg
                go_wp2_with fail
                refine (own_any _ _ _ _ B1 m1 d1 _ (Lib.hid ((HP.out.below IntR.stable y.ok).alloc IntR.stable _)) hm).mono ?_
                rintro e w' ⟨B2, d2, rfl, hc2, hr3, hb⟩
                obtain ⟨z, rfl⟩ := Later.ex hb
                clear hb
                have hzs := z.ok.size
                simp only [World.size_alloc] at hr3 hzs
                have htwo2 := (htwo.keep ((Below.refl _ _).alloc (Nat.le_refl _) _)).keep z.ok
                have hfr := fun b (hb : y.to.heap.size + 1 ≤ b) => htwo.swap.1.rest (b := b) ⟨show W.heap.size ≤ b by omega, fun e => by have := (htwo.swap.2.1.lt b e.symm).2; omega⟩ (by omega)
                have hzb : Below W.heap.size W z.to := (by repeat (first | (with_reducible exact Below.refl _ _) | (with_reducible assumption) | (with_reducible refine Below.drew ?_) | (with_reducible refine Below.setCell ?_ ?_ _) | (with_reducible refine Below.alloc ?_ ?_ _) | (with_reducible refine Below.later ?_ ?_ _) | (first | (with_reducible exact Nat.le_refl _) | omega | (simp only [World.size_alloc, World.size_setCell, World.size_drew] <;> omega))))
                have hlen := htwo.swap.1.len
                clear htwo
                go_wp2_with (at_builtin; refine wpList_push1 VerR.stable VerR.one sl_ver rfl rfl (by exact rfl) (by exact rfl) htwo2.swap.1 (y := v) rfl ⟨B2, m1, d2, rfl, hc2, hr3.weaken IntR.stable hfr⟩ (by unfold maxLen; omega) (by omega) (by omega) ?_; intro A5 c5 u hc5 hown3 hus hub hat)
                refine ⟨⟨k + 1, _, _, _, _, _, _, by omega, by go_num, rfl, rfl, hzb.trans hub, ?_⟩, by simp [intOf]; omega⟩
                rw [sel_take _ HX.out, sel_take _ HX.out, HK.out]
                simp only [Bool.not_true, Bool.not_false, if_true, if_false, Bool.false_eq_true, List.append_nil]
                exact (htwo2.swap.pushed (by omega) u.ok hat hown3).swap
          · have hkn : l.take k = l := List.take_of_length_le (by rw [HL.out]; omega)
            rw [hkn] at htwo
            go_wp2_with fail
            go_ret2
            obtain ⟨r1, r2⟩ := htwo.rd hWs
            obtain ⟨r3, r4⟩ := htwo.swap.rd hWs
            exact ⟨A1, n1, c1, A3, n3, c3, rfl, r1, r2, r3, r4, hbel.trans (hb.mono hWs)⟩
end Go.Proofs.Ytpibaahiboajhaa
