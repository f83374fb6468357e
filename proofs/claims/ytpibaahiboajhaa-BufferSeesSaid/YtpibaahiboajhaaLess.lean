/-
  less: whether a key stands ahead of another one, letter by letter; it is the order of the bytes.
-/
import Derived.Test.YtpibaahiboajhaaBuf4
import Derived.Laws.IdiomStrings
import Derived.Lib.DecodeN
set_option linter.unusedSimpArgs false
set_option linter.unusedVariables false
namespace Go.Proofs.Ytpibaahiboajhaa
open Go.RowKit Go.Cib
attribute [local go_sem] cell_set Later.cell Later.frozen Grw.cell Grw.frozen

/-! ### The letters of a text -/
def rfrom (s : ByteArray) : Nat → Nat → List Nat
  | 0, _ => []
  | f + 1, i => if i < s.size then (Utf8.decode s i).1 :: rfrom s f (i + (Utf8.decode s i).2) else []
def runesN (s : ByteArray) : List Nat := rfrom s s.size 0
theorem conv_rfrom (s : ByteArray) : ∀ (f i : Nat) (acc : Array Value), (Conv.runesFrom s f i acc).toList = acc.toList ++ (rfrom s f i).map (fun r : Nat => Value.int .i32 (r : Int))
  | 0, _, acc => by simp [Conv.runesFrom, rfrom]
  | f + 1, i, acc => by
    unfold Conv.runesFrom rfrom
    split
    · show (Conv.runesFrom s f _ _).toList = _
      rw [conv_rfrom s f]
      simp only [Array.toList_push, List.append_assoc, List.map_cons, List.cons_append, List.nil_append]
      rfl
    · simp
theorem byte_at {s : ByteArray} {i : Nat} (h : i < s.size) : ∃ b : UInt8, s.toList[i]? = some b ∧ s.get! i = b := by
  refine ⟨s.get! i, ?_, rfl⟩
  rw [ByteArray.toList_eq]
  have : i < s.data.toList.length := h
  rw [List.getElem?_eq_getElem this]
  have h2 : i < s.data.size := h
  simp only [Option.some.injEq, Array.getElem_toList]
  show s.data[i] = s.data[i]!
  exact (getElem!_pos s.data i h2).symm
theorem decode_one {s : ByteArray} {i : Nat} (h : (s.get! i).toNat < 128) : Utf8.decode s i = ((s.get! i).toNat, 1) := by
  rw [Go.Lib.decode_at]
  unfold Go.Lib.decodeN
  rw [if_pos h]
theorem decode_many {s : ByteArray} {i : Nat} (h : ¬ (s.get! i).toNat < 128) : 128 ≤ (Utf8.decode s i).1 := by
  rw [Go.Lib.decode_at]
  unfold Go.Lib.decodeN
  rw [if_neg h]
  repeat' split
  all_goals first | (show 128 ≤ 65533; omega) | (rename_i h2; first | exact h2.1.trans' (by omega) | (have := h2.1; show 128 ≤ _; omega) | (show 128 ≤ _; omega))
structure LessAt (a b : ByteArray) (i : Nat) : Prop where
  ia : i ≤ a.size
  ib : i ≤ b.size
  da : (runesN a).drop i = rfrom a (a.size - i) i
  db : (runesN b).drop i = rfrom b (b.size - i) i
  hl : Op.bytesLess a.toList b.toList = Op.bytesLess (a.toList.drop i) (b.toList.drop i)
theorem LessAt.zero (a b : ByteArray) : LessAt a b 0 := ⟨Nat.zero_le _, Nat.zero_le _, rfl, rfl, rfl⟩
theorem rfrom_cons {s : ByteArray} {i : Nat} (h : i < s.size) : ∃ f, s.size - i = f + 1 ∧ rfrom s (s.size - i) i = (Utf8.decode s i).1 :: rfrom s f (i + (Utf8.decode s i).2) := by
  obtain ⟨f, hf⟩ : ∃ f, s.size - i = f + 1 := ⟨s.size - i - 1, by omega⟩
  exact ⟨f, hf, by rw [hf, rfrom, if_pos h]⟩
theorem drop_lt {l : List Nat} {s : ByteArray} {i : Nat} (hi : i ≤ s.size) (h : l.drop i = rfrom s (s.size - i) i) : i < l.length ↔ i < s.size := by
  constructor
  · intro hl
    by_cases hs : i < s.size
    · exact hs
    · have : s.size - i = 0 := by omega
      rw [this] at h
      have := congrArg List.length h
      rw [List.length_drop] at this
      simp [rfrom] at this
      omega
  · intro hs
    obtain ⟨f, _, e⟩ := rfrom_cons hs
    rw [e] at h
    have := congrArg List.length h
    rw [List.length_drop] at this
    simp only [List.length_cons] at this
    omega
theorem drop_get {l : List Nat} {s : ByteArray} {i : Nat} (hs : i < s.size) (h : l.drop i = rfrom s (s.size - i) i) : l[i]? = some (Utf8.decode s i).1 := by
  obtain ⟨f, _, e⟩ := rfrom_cons hs
  rw [e] at h
  have h2 : (l.drop i)[0]? = some (Utf8.decode s i).1 := by rw [h]; rfl
  simpa using h2
theorem drop_next {l : List Nat} {s : ByteArray} {i : Nat} (hs : i < s.size) (h : l.drop i = rfrom s (s.size - i) i) (hb : (s.get! i).toNat < 128) : l.drop (i + 1) = rfrom s (s.size - (i + 1)) (i + 1) := by
  obtain ⟨f, hf, e⟩ := rfrom_cons hs
  rw [e, decode_one hb] at h
  have : l.drop (i + 1) = (l.drop i).drop 1 := by rw [List.drop_drop, Nat.add_comm]
  rw [this, h]
  have : s.size - (i + 1) = f := by omega
  rw [this]
  rfl
theorem list_drop {s : ByteArray} {i : Nat} (hs : i < s.size) : s.toList.drop i = s.get! i :: s.toList.drop (i + 1) := by
  obtain ⟨b, h1, h2⟩ := byte_at hs
  have hl : i < s.toList.length := by rw [str_len]; exact hs
  rw [List.drop_eq_getElem_cons hl]
  rw [List.getElem?_eq_getElem hl] at h1
  injection h1 with h1
  rw [h1, h2]
theorem bl_cons (x y : UInt8) (l l' : List UInt8) : Op.bytesLess (x :: l) (y :: l') = (x < y || (x == y && Op.bytesLess l l')) := rfl
section
variable {a b : ByteArray} {i : Nat}
theorem LessAt.short (h : LessAt a b i) (hb : ¬ i < b.size) : Op.bytesLess a.toList b.toList = false := by
  rw [h.hl, List.drop_eq_nil_of_le (by rw [str_len]; omega : b.toList.length ≤ i)]
  cases a.toList.drop i <;> rfl
theorem LessAt.done (h : LessAt a b i) (ha : ¬ i < a.size) : Op.bytesLess a.toList b.toList = decide (i < b.size) := by
  rw [h.hl, List.drop_eq_nil_of_le (by rw [str_len]; omega : a.toList.length ≤ i)]
  by_cases hb : i < b.size
  · rw [list_drop hb, decide_eq_true hb]; rfl
  · rw [List.drop_eq_nil_of_le (by rw [str_len]; omega : b.toList.length ≤ i), decide_eq_false hb]; rfl
theorem LessAt.apart (h : LessAt a b i) (ha : i < a.size) (hb : i < b.size) (h1 : (Utf8.decode a i).1 < 128) (h2 : (Utf8.decode b i).1 < 128) (hne : (Utf8.decode a i).1 ≠ (Utf8.decode b i).1) : Op.bytesLess a.toList b.toList = decide ((Utf8.decode a i).1 < (Utf8.decode b i).1) := by
  have a1 : (a.get! i).toNat < 128 := by
    by_cases hh : (a.get! i).toNat < 128
    · exact hh
    · have := decode_many hh; omega
  have b1 : (b.get! i).toNat < 128 := by
    by_cases hh : (b.get! i).toNat < 128
    · exact hh
    · have := decode_many hh; omega
  rw [decode_one a1, decode_one b1] at hne ⊢
  rw [h.hl, list_drop ha, list_drop hb, bl_cons]
  have : (a.get! i == b.get! i) = false := beq_eq_false_iff_ne.2 fun e => hne (by rw [e])
  rw [this]
  simp [UInt8.lt_iff_toNat_lt]
theorem LessAt.next (h : LessAt a b i) (ha : i < a.size) (hb : i < b.size) (h1 : (Utf8.decode a i).1 < 128) (he : (Utf8.decode a i).1 = (Utf8.decode b i).1) : LessAt a b (i + 1) := by
  have a1 : (a.get! i).toNat < 128 := by
    by_cases hh : (a.get! i).toNat < 128
    · exact hh
    · have := decode_many hh; omega
  have b1 : (b.get! i).toNat < 128 := by
    by_cases hh : (b.get! i).toNat < 128
    · exact hh
    · have := decode_many hh; omega
  rw [decode_one a1, decode_one b1] at he
  have hab : a.get! i = b.get! i := UInt8.toNat_inj.1 he
  refine ⟨ha, hb, drop_next ha h.da a1, drop_next hb h.db b1, ?_⟩
  rw [h.hl, list_drop ha, list_drop hb, bl_cons, hab]
  simp
end
theorem runes_len (s : ByteArray) : (runesN s).length ≤ s.size := by
  have : ∀ (f i : Nat), (rfrom s f i).length ≤ f := by
    intro f
    induction f with
    | zero => intro i; simp [rfrom]
    | succ f ih =>
      intro i
      unfold rfrom
      split
      · simp; exact ih _
      · simp
  exact this _ _

def I32R (_ : Nat → Prop) (_ : World) (cs : List Value) (x : Nat) : Prop := cs = [.int .i32 (x : Int)]
theorem I32R.stable : Stable I32R := fun _ _ _ _ _ _ h _ => h
set_option maxRecDepth 100000 in
theorem conv_runes (s : ByteArray) (hs : s.size ≤ 1000) (w : World) : ∃ b c w1, (convert 9 202 (.string s)).run Try.prog w = .ok (.slice (some ⟨b, 0, none⟩) (runesN s).length c) w1 ∧ RdL I32R 1 (fun _ => True) w1 (some ⟨b, 0, none⟩) (runesN s).length (runesN s) ∧ Below w.heap.size w w1 := by
  have htl := conv_rfrom s s.size 0 #[]
  rw [Array.toList_empty, List.nil_append] at htl
  have hsz : (Conv.runesFrom s s.size 0 #[]).size = (runesN s).length := by
    rw [← Array.length_toList, htl, List.length_map]; rfl
  have hle := runes_len s
  have hrun := run_runes_of_string (P := Try.prog) w 9 202 21 s (by kernel_rfl) (by kernel_rfl) (by kernel_rfl) (by rw [hsz]; omega)
  rw [hsz] at hrun
  refine ⟨_, _, _, hrun, ⟨rfl, fun hn => ⟨w.heap.size, 0, rfl, trivial, by simp, fun k x hk => ⟨[.int .i32 (x : Int)], rfl, rfl, fun j v hj => ?_⟩⟩⟩, ((Below.refl _ _).drew).alloc (by simp) _⟩
  have hj0 : j = 0 := by have := (List.getElem?_eq_some_iff.1 hj).1; simp at this; omega
  subst hj0
  injection hj with hj
  subst hj
  have X := BoxAt.new w.drew (Conv.runesFrom s s.size 0 #[] ++ Array.replicate (grownCap w (runesN s).length 0 21 - (runesN s).length) (.int .i32 0)) 21
  have hc := X.cell (0 + k * 1 + 0)
  have e0 : w.drew.heap.size = w.heap.size := rfl
  rw [e0] at hc
  rw [hc, Array.getElem?_append_left (by rw [hsz]; have := (List.getElem?_eq_some_iff.1 hk).1; omega)]
  rw [← Array.getElem?_toList, htl]
  simp only [Nat.mul_one, Nat.zero_add, Nat.add_zero, List.getElem?_map]
  show Option.map _ ((runesN s)[k]?) = _
  rw [hk]; rfl
theorem i32_at {S : Nat → Prop} {w : World} {b o : Nat} {m : Nat} {xs : List Nat} (h : RdL I32R 1 S w (some ⟨b, o, none⟩) m xs) {i x : Nat} (hx : xs[i]? = some x) : w.cell? ⟨b, o + i, none⟩ = some (.int .i32 (x : Int)) := by
  have hi : i < m := by rw [← h.1]; exact (List.getElem?_eq_some_iff.1 hx).1
  obtain ⟨hl, cs, h1, h2, h3⟩ := h.at hi
  have := h3 0 (.int .i32 (xs[i] : Int)) (by rw [h2]; rfl)
  rw [List.getElem?_eq_getElem hl] at hx
  injection hx with hx
  rw [hx] at this
  simpa using this
set_option maxRecDepth 100000 in
set_option maxHeartbeats 4000000 in
theorem less_any (a b : ByteArray) (ha : a.size ≤ 1000) (hb : b.size ≤ 1000) (w : World) :
    Calls Try.prog 97 #[.string a, .string b] w fun e w' => e = .returned (.bool (Op.bytesLess a.toList b.toList)) ∧ Below w.heap.size w w' := by
  obtain ⟨p1, c1, w1, hc1, r1, t1⟩ := conv_runes a ha w
  obtain ⟨p2, c2, w2, hc2, r2, t2⟩ := conv_runes b hb w1
  have R1 := Lib.hid (r1.below I32R.stable t2)
  have R2 := Lib.hid r2
  have T2 := Lib.hid (below_then t2 t1)
  have hla := runes_len a
  have hlb := runes_len b
  obtain ⟨X, hX⟩ : ∃ X, (runesN a).length = X := ⟨_, rfl⟩
  obtain ⟨Y, hY⟩ : ∃ Y, (runesN b).length = Y := ⟨_, rfl⟩
  rw [hX] at hc1 hla
  rw [hY] at hc2 hlb
  obtain ⟨B, hB⟩ : ∃ B, Op.bytesLess a.toList b.toList = B := ⟨_, rfl⟩
  rw [hB]
  have HB := Lib.hid hB
  have HX := Lib.hid hX
  have HY := Lib.hid hY
  clear r1 r2 t1 t2 hX hY hB
  go_enter Try.func97, Try.ntmps97
  go_wp2_with fail
  go_loopw [15] (fun vi wr => ∃ i : Nat, vi = .int .i64 i ∧ i ≤ X ∧ Hid (LessAt a b i) ∧ wr = w2) (fun vi _ => X - (intOf vi).toNat)
  case atStart => exact ⟨0, rfl, Nat.zero_le _, Lib.hid (LessAt.zero a b), rfl⟩
  case round =>
    obtain ⟨i, rfl, hiX0, HL, hw⟩ := hrel
    replace hw := hw.symm
    subst hw
    have hxa : i < X ↔ i < a.size := by rw [← HX.out]; exact drop_lt HL.out.ia HL.out.da
    have hyb : i < Y ↔ i < b.size := by rw [← HY.out]; exact drop_lt HL.out.ib HL.out.db
    by_cases hlt : i < X
    · have q1 : (i : Int) < (X : Int) := by omega
      have q2 : (0 : Int) ≤ (i : Int) := Int.natCast_nonneg _
      have hia := hxa.1 hlt
      obtain ⟨c, hc⟩ : ∃ c, (Utf8.decode a i).1 = c := ⟨_, rfl⟩
      have pc := i32_at R1.out (drop_get hia HL.out.da)
      rw [hc, Nat.zero_add] at pc
      have HC := Lib.hid hc
      clear hc hxa
      by_cases hy : i < Y
      · have q3 : (i : Int) < (Y : Int) := by omega
        have q3' : ¬ (Y : Int) ≤ (i : Int) := by omega
        have hib := hyb.1 hy
        obtain ⟨d, hd⟩ : ∃ d, (Utf8.decode b i).1 = d := ⟨_, rfl⟩
        have pd := i32_at R2.out (drop_get hib HL.out.db)
        rw [hd, Nat.zero_add] at pd
        have HD := Lib.hid hd
        clear hd hyb
        by_cases hc : c < 128
        · have e1 : (c : Int) < 128 := by omega
          have e1' : ¬ (128 : Int) ≤ (c : Int) := by omega
          by_cases hd : d < 128
          · have e2 : (d : Int) < 128 := by omega
            have e2' : ¬ (128 : Int) ≤ (d : Int) := by omega
            by_cases hcd : c = d
            · subst hcd
              have HN := Lib.hid (HL.out.next hia hib (by rw [HC.out]; exact hc) (by rw [HC.out, HD.out]))
              go_wp2_with fail
              exact ⟨⟨i + 1, by go_num, by omega, HN, trivial⟩, by simp [intOf]; omega⟩
            · have e3 : ((c : Int) != (d : Int)) = true := by simp; omega
              have e4 : ¬ (c : Int) = (d : Int) := by omega
              have hr := HL.out.apart hia hib (by rw [HC.out]; exact hc) (by rw [HD.out]; exact hd) (by rw [HC.out, HD.out]; exact hcd)
              rw [HC.out, HD.out] at hr
              have hcast : decide ((c : Int) < (d : Int)) = decide (c < d) := by simp
              have HR := Lib.hid (hr.symm.trans HB.out)
              clear hr hcast
              go_wp2_with fail
              go_ret
              exact ⟨by rw [← HR.out]; rfl, T2.out⟩
          · have e2 : ¬ (d : Int) < 128 := by omega
            have e2' : (128 : Int) ≤ (d : Int) := by omega
            have e3 : ((c : Int) != (d : Int)) = true := by simp; omega
            have e4 : ¬ (c : Int) = (d : Int) := by omega
            go_wp2_with fail
            go_ret
            exact ⟨by rw [← HB.out]; rfl, T2.out⟩
        · have e1 : ¬ (c : Int) < 128 := by omega
          have e1' : (128 : Int) ≤ (c : Int) := by omega
          by_cases hcd : c = d
          · subst hcd
            go_wp2_with fail
            go_ret
            exact ⟨by rw [← HB.out]; rfl, T2.out⟩
          · have e3 : ((c : Int) != (d : Int)) = true := by simp; omega
            have e4 : ¬ (c : Int) = (d : Int) := by omega
            go_wp2_with fail
            go_ret
            exact ⟨by rw [← HB.out]; rfl, T2.out⟩
      · have q3' : (Y : Int) ≤ (i : Int) := by omega
        have HR := Lib.hid ((HL.out.short (fun e => hy (hyb.2 e))).symm.trans HB.out)
        go_wp2_with fail
        go_ret
        exact ⟨by rw [← HR.out]; rfl, T2.out⟩
    · have q1 : ¬ (i : Int) < (X : Int) := by omega
      obtain rfl : i = X := by omega
      have hdec : decide (i < b.size) = decide ((i : Int) < (Y : Int)) := by
        rw [Bool.eq_iff_iff, decide_eq_true_eq, decide_eq_true_eq, ← hyb]; omega
      have HR := Lib.hid ((HL.out.done (fun e => hlt (hxa.2 e))).symm.trans HB.out)
      clear hdec
      go_wp2_with fail
      go_ret
      exact ⟨by rw [← HR.out]; rfl, T2.out⟩
end Go.Proofs.Ytpibaahiboajhaa
