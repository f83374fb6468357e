/-
  BufferLimits, walked.
-/
import Derived.Test.YtpibaahiboajhaaBuf17
set_option linter.unusedSimpArgs false
set_option linter.unusedVariables false
namespace Go.Proofs.Ytpibaahiboajhaa
open Go.RowKit Go.Cib
attribute [local go_sem] cell_set Later.cell Later.frozen Grw.cell Grw.frozen
attribute [local go_sem ↓] run_min_b run_max_b

instance decWr : DecidableEq Wr := fun a b => decidable_of_iff (a.key = b.key ∧ a.dead = b.dead ∧ a.val = b.val) (by cases a; cases b; simp)
def kB (i : Nat) : ByteArray := ⟨#[107, UInt8.ofNat i]⟩
def wB (i : Nat) : Wr := ⟨kB i, false, [(i : Int)]⟩
/-- What i puts left. -/
def lB (n : Nat) : List Wr := (List.range (min n 16)).map wB
theorem lb_e : ∀ i : Fin 40, wrE (lB i) (wB i) = if (i : Nat) < 16 then 0 else 260 := by decide +kernel
theorem lb_w : ∀ i : Fin 40, wrW (lB i) (wB i) = lB (i + 1) := by decide +kernel
theorem lb_f : ∀ n : Fin 41, ∀ j : Fin 40, (findW (lB n) (kB j)).isSome = decide ((j : Nat) < min (n : Nat) 16) := by decide +kernel
theorem lb_len (n : Nat) : (lB n).length = min n 16 := by simp [lB]
theorem kb_str (i : Nat) : strOfNums [107, (i : Int)] = kB i := by
  unfold strOfNums kB
  simp
theorem kb_size (i : Nat) : (kB i).size = 2 := rfl
theorem lim_e {n j : Nat} (hn : n ≤ 40) (hj : j < 40) (v : List Int) : wrE (lB n) ⟨kB j, false, v⟩ = if 400 < v.length then 260 else if j < min n 16 ∨ n < 16 then 0 else 260 := by
  have hf := lb_f ⟨n, by omega⟩ ⟨j, hj⟩
  have hl := lb_len n
  unfold wrE
  rw [if_neg (fun e => e ⟨by rw [kb_size]; omega, by rw [kb_size]; omega⟩)]
  dsimp only at hf ⊢
  by_cases h4 : 400 < v.length
  · have c1 : 400 < v.length ∨ (findW (lB n) (kB j) = none ∧ 16 ≤ (lB n).length) := .inl h4
    rw [if_pos c1, if_pos h4]
  · by_cases hh : j < min n 16
    · rw [decide_eq_true hh] at hf
      have c1 : ¬ (400 < v.length ∨ (findW (lB n) (kB j) = none ∧ 16 ≤ (lB n).length)) := fun e => e.elim h4 (fun e => by rw [e.1] at hf; cases hf)
      have c2 : j < min n 16 ∨ n < 16 := .inl hh
      rw [if_neg c1, if_neg h4, if_pos c2]
    · rw [decide_eq_false hh] at hf
      have hn0 : findW (lB n) (kB j) = none := by cases h : findW (lB n) (kB j) with | none => rfl | some z => rw [h] at hf; cases hf
      by_cases h16 : n < 16
      · have c1 : ¬ (400 < v.length ∨ (findW (lB n) (kB j) = none ∧ 16 ≤ (lB n).length)) := fun e => e.elim h4 (fun e => by have := e.2; rw [hl] at this; omega)
        have c2 : j < min n 16 ∨ n < 16 := .inr h16
        rw [if_neg c1, if_neg h4, if_pos c2]
      · have c1 : 400 < v.length ∨ (findW (lB n) (kB j) = none ∧ 16 ≤ (lB n).length) := .inr ⟨hn0, by rw [hl]; omega⟩
        have c2 : ¬ (j < min n 16 ∨ n < 16) := fun e => e.elim hh h16
        rw [if_pos c1, if_neg h4, if_neg c2]
theorem madeCells_rep' (v : Value) (s n : Nat) (hs : 0 < s) : madeCells (Array.replicate s v) n = Array.replicate n v := by
  apply Array.ext
  · simp [madeCells]
  · intro i h1 h2
    simp [madeCells, Nat.mod_lt _ hs]
theorem makeU8b (k : Nat) (hk : k ≤ 1000) (w : World) : (Instr.makeSlice 80 (.int .i64 (k : Int)) (.int .i64 (k : Int))).run Try.prog w = .ok (.slice (some ⟨w.heap.size, 0, none⟩) k k) (w.alloc (.cells ((List.replicate k (0 : Int)).map (Value.int .u8)).toArray 5)) := by
  obtain ⟨i, hi, hz, hs, hb⟩ := info_parts (show (Try.prog.info? 5).map (fun i => (i.zero, i.size, i.bytes)) = some (some (.int .u8 0), 1, 1) by kernel_rfl)
  have h := run_make (P := Try.prog) w 80 5 i (.int .u8 0) (by kernel_rfl) hi hz .i64 .i64 k k (by omega) (by omega) (by rw [hb]; omega) (by omega)
  simp only [Int.toNat_natCast, hs, Nat.mul_one] at h
  rw [h, show (Value.int .u8 0).cells = Array.replicate 1 (.int .u8 0) from rfl, madeCells_rep' _ _ _ (by omega)]
  simp [List.map_replicate]
theorem wrW_bad {L : List Wr} {x : Wr} (h : wrE L x ≠ 0) : wrW L x = L := by unfold wrW; rw [if_neg h]

set_option maxRecDepth 100000 in
set_option maxHeartbeats 8000000 in
theorem limits_good {w : World} (n : Nat) (again : Int) (long : Nat) (hn : n ≤ 40) (hl : long ≤ 1000) :
    Calls Try.prog 12 #[.int .i64 n, .int .i64 again, .int .i64 long] w fun e w' => e = .returned (.bool true) ∧ Below w.heap.size w w' := by
  have n0 : (0 : Int) ≤ (n : Int) := Int.natCast_nonneg _
  have n1 : ¬ (40 : Int) < (n : Int) := by omega
  have l0 : (0 : Int) ≤ (long : Int) := Int.natCast_nonneg _
  have l1 : ¬ (1000 : Int) < (long : Int) := by omega
  go_enter Try.func12, Try.ntmps12
  go_wp2_with fail
  refine (bnew_any w).mono ?_
  rintro e w2 ⟨b, bb, rfl, hbw, hbbw, hbl, hbbl, h2, t2⟩
  have H2 : Hid (BufB w2 b bb (lB 0)) := Lib.hid h2
  have T2 := Lib.hid t2
  clear h2 t2 hbl hbbl
  go_wp2_with fail
  go_loopw [8] (fun vi wr => ∃ i : Nat, i ≤ n ∧ vi = .int .i64 i ∧ Hid (BufB wr b bb (lB i)) ∧ Hid (Below w.heap.size w wr)) (fun vi _ => n - (intOf vi).toNat)
  case atStart => exact ⟨0, Nat.zero_le _, rfl, H2, T2⟩
  case round =>
    clear H2 T2
    obtain ⟨wq, rfl⟩ : ∃ wq, wq = wr := ⟨_, rfl⟩
    obtain ⟨i, hi, rfl, HW, HT⟩ := hrel
    by_cases hlt : i < n
    · have q1 : (i : Int) < (n : Int) := by omega
      have q8 : IntKind.u8.wrap (i : Int) = (i : Int) := by rw [IntKind.wrap_u8]; omega
      have q8b : (i : Int) % 256 = (i : Int) := by omega
      have X3 := BoxAt.new wq #[.int .u8 107, .int .u8 i] 5
      have b3 : Below wq.heap.size wq (wq.alloc (.cells #[.int .u8 107, .int .u8 i] 5)) := (Below.refl _ _).alloc (Nat.le_refl _) _
      have cv := bytes_str (c := 2) (show RdL U8R 1 (fun _ => True) _ (some ⟨wq.heap.size, 0, none⟩) 2 [107, (i : Int)] from BoxAt.bytes (S := fun _ => True) (xs := [107, (i : Int)]) X3 trivial)
      rw [kb_str] at cv
      obtain ⟨w3, hw3⟩ : ∃ w3, wq.alloc (.cells #[.int .u8 107, .int .u8 i] 5) = w3 := ⟨_, rfl⟩
      rw [hw3] at b3 cv
      have X4 := BoxAt.new w3 #[.int .u8 i] 5
      have b4 : Below w3.heap.size w3 (w3.alloc (.cells #[.int .u8 i] 5)) := (Below.refl _ _).alloc (Nat.le_refl _) _
      have hp := put_ok (k := kB i) (c := 1) (Lib.hid (HW.out.below (below_then b4 b3))) (Lib.hid (show RdL U8R 1 (fun _ => True) _ (some ⟨w3.heap.size, 0, none⟩) 1 [(i : Int)] from BoxAt.bytes (S := fun _ => True) (xs := [(i : Int)]) X4 trivial)) (by omega)
      have he := lb_e ⟨i, by omega⟩
      have hw := lb_w ⟨i, by omega⟩
      unfold wB at he hw
      dsimp only at he hw
      rw [he, hw] at hp
      have B4 := Lib.hid (below_then (below_then b4 b3) HT.out)
      clear X3 X4 b3 b4 he hw
      obtain ⟨e0, he0⟩ : ∃ e0 : Int, (if i < 16 then (0 : Int) else 260) = e0 := ⟨_, rfl⟩
      rw [he0] at hp
      go_wp2_with fail
      clear hw3
      refine hp.mono ?_
      rintro e w5 ⟨rfl, h5, k5⟩
      have H5 := Lib.hid h5
      have T5 : Hid (Below w.heap.size w w5) := Lib.hid (((Keep.of_later B4.out).trans (G := (· = bb)) k5 (fun q h _ => by rw [h]; exact hbbw)).below (Nat.le_refl _) (fun q h => h))
      clear h5 k5 hp cv q8 q8b
      by_cases h16 : i < 16
      · rw [if_pos h16] at he0
        subst he0
        have q16 : (i : Int) < 16 := by omega
        go_wp2_with fail
        exact ⟨⟨i + 1, by omega, by go_num, H5, T5⟩, by simp [intOf]; omega⟩
      · rw [if_neg h16] at he0
        subst he0
        have q16 : ¬ (i : Int) < 16 := by omega
        go_wp2_with fail
        exact ⟨⟨i + 1, by omega, by go_num, H5, T5⟩, by simp [intOf]; omega⟩
    · obtain rfl : i = n := by omega
      have q1 : ¬ (i : Int) < (i : Int) := by omega
      have w1 : wrap64 ((i : Int) - 1) = (i : Int) - 1 := by unfold wrap64; omega
      have w1b : IntKind.i64.wrap ((i : Int) - 1) = (i : Int) - 1 := by rw [IntKind.wrap_i64]; omega
      obtain ⟨j, hj, hj40, hjn⟩ : ∃ j : Nat, max 0 (min again ((i : Int) - 1)) = (j : Int) ∧ j < 40 ∧ (j < i ∨ i = 0) := ⟨(max 0 (min again ((i : Int) - 1))).toNat, by omega, by omega, by omega⟩
      have q8 : IntKind.u8.wrap (j : Int) = (j : Int) := by rw [IntKind.wrap_u8]; omega
      have q8b : (j : Int) % 256 = (j : Int) := by omega
      have X3 := BoxAt.new wq #[.int .u8 107, .int .u8 j] 5
      have b3 : Below wq.heap.size wq (wq.alloc (.cells #[.int .u8 107, .int .u8 j] 5)) := (Below.refl _ _).alloc (Nat.le_refl _) _
      have cv := bytes_str (c := 2) (show RdL U8R 1 (fun _ => True) _ (some ⟨wq.heap.size, 0, none⟩) 2 [107, (j : Int)] from BoxAt.bytes (S := fun _ => True) (xs := [107, (j : Int)]) X3 trivial)
      rw [kb_str] at cv
      obtain ⟨w3, hw3⟩ : ∃ w3, wq.alloc (.cells #[.int .u8 107, .int .u8 j] 5) = w3 := ⟨_, rfl⟩
      rw [hw3] at b3 cv
      have hfi := find_ok (kB j) (Lib.hid (HW.out.below b3))
      have B3 := Lib.hid b3
      have hsome := lb_f ⟨i, by omega⟩ ⟨j, hj40⟩
      dsimp only at hsome
      obtain ⟨B, hB⟩ : ∃ B, decide (j < min i 16) = B := ⟨_, rfl⟩
      have hBB : (B || decide (i < 16)) = decide (j < min i 16 ∨ i < 16) := by rw [← hB, Bool.decide_or]
      rw [hB] at hsome
      clear X3 b3 hB
      go_wp2_with fail
      clear hw3
      refine hfi.mono ?_
      rintro e w5 ⟨A5, m5, c5, rfl, _, t5⟩
      obtain ⟨zk, hzk⟩ : ∃ k, ((findW (lB i) (kB j)).getD w0).key = k := ⟨_, rfl⟩
      obtain ⟨zd, hzd⟩ : ∃ k, ((findW (lB i) (kB j)).getD w0).dead = k := ⟨_, rfl⟩
      rw [hzk, hzd, hsome]
      have wF : Below w5.heap.size w5 (w5.alloc (.cells #[.string zk, .bool zd, .slice A5 m5 c5] 102)) := (Below.refl _ _).alloc (Nat.le_refl _) _
      obtain ⟨w6, hw6⟩ : ∃ w6, w5.alloc (.cells #[.string zk, .bool zd, .slice A5 m5 c5] 102) = w6 := ⟨_, rfl⟩
      rw [hw6] at wF
      have b6 := below_then (below_then wF t5) B3.out
      have hmk := makeU8b long hl w6
      have X7 := BoxAt.new w6 ((List.replicate long (0 : Int)).map (Value.int .u8)).toArray 5
      have b7 : Below w6.heap.size w6 (w6.alloc (.cells ((List.replicate long (0 : Int)).map (Value.int .u8)).toArray 5)) := (Below.refl _ _).alloc (Nat.le_refl _) _
      have R7 := BoxAt.bytes (S := fun _ => True) X7 trivial
      rw [List.length_replicate] at R7
      obtain ⟨w7, hw7⟩ : ∃ w7, w6.alloc (.cells ((List.replicate long (0 : Int)).map (Value.int .u8)).toArray 5) = w7 := ⟨_, rfl⟩
      rw [hw7] at b7 R7 hmk
      have B7 := Lib.hid (below_then (below_then b7 b6) HT.out)
      have hp := put_ok (k := kB j) (c := long) (Lib.hid (HW.out.below (below_then b7 b6))) (Lib.hid R7) (by omega)
      have he := lim_e (n := i) (j := j) hn hj40 (List.replicate long (0 : Int))
      rw [List.length_replicate] at he
      rw [he] at hp
      obtain ⟨L9, hL9⟩ : ∃ L9, wrW (lB i) ⟨kB j, false, List.replicate long (0 : Int)⟩ = L9 := ⟨_, rfl⟩
      rw [hL9] at hp
      obtain ⟨e0, he0⟩ : ∃ e0 : Int, (if 400 < long then (260 : Int) else if j < min i 16 ∨ i < 16 then 0 else 260) = e0 := ⟨_, rfl⟩
      rw [he0] at hp
      clear hzk hzd wF b6 t5 hfi cv hsome X7 b7 R7 he hL9 q8 q8b
      go_wp2_with fail
      clear hw6 hw7 hmk
      refine hp.mono ?_
      rintro e w8 ⟨rfl, h8, k8⟩
      have H8 := Lib.hid h8
      have T8 : Hid (Below w.heap.size w w8) := Lib.hid (((Keep.of_later B7.out).trans (G := (· = bb)) k8 (fun q h _ => by rw [h]; exact hbbw)).below (Nat.le_refl _) (fun q h => h))
      have hp2 := put_ok (k := ⟨#[]⟩) (c := 0) H8 (Lib.hid (RdL.nil (R := U8R) (s := 1) (S := fun _ => True) (w := w8) (A := none))) (by omega)
      have hx1 : wrE L9 ⟨⟨#[]⟩, false, []⟩ = 200 := by unfold wrE; rw [if_pos (by decide)]
      rw [hx1, wrW_bad (by rw [hx1]; decide)] at hp2
      clear h8 k8 hp hx1 w1 w1b hj
      have HFIN : Hid (∀ w9, BufB w9 b bb L9 → Keep (· = bb) w8 w9 → Calls Try.prog 62 #[.pointer (some ⟨b, 0, none⟩), .string ⟨#[97, 97, 97, 97, 97, 97, 97, 97, 97, 97, 97, 97, 97, 97, 97, 97, 97]⟩] w9 fun e w' => e = .returned (.int .i64 200) ∧ BufB w' b bb L9 ∧ Keep (· = bb) w9 w') := Lib.hid (fun w9 h9 _ => by
        have hd := del_ok (k := ⟨#[97, 97, 97, 97, 97, 97, 97, 97, 97, 97, 97, 97, 97, 97, 97, 97, 97]⟩) (Lib.hid h9)
        have hx1 : wrE L9 ⟨⟨#[97, 97, 97, 97, 97, 97, 97, 97, 97, 97, 97, 97, 97, 97, 97, 97, 97]⟩, true, []⟩ = 200 := by unfold wrE; rw [if_pos (by decide)]
        rw [hx1, wrW_bad (by rw [hx1]; decide)] at hd
        exact hd)
      by_cases h4 : 400 < long
      · have q4 : (400 : Int) < (long : Int) := by omega
        rw [if_pos h4] at he0
        subst he0
        clear hBB
        go_wp2_with fail
        refine hp2.mono ?_
        rintro e w9 ⟨rfl, h9, k9⟩
        have H9 := Lib.hid h9
        have K9 := Lib.hid k9
        have hd := HFIN.out w9 h9 k9
        clear h9 k9 hp2
        go_wp2_with fail
        refine hd.mono ?_
        rintro e w10 ⟨rfl, h10, k10⟩
        have H10 := Lib.hid h10
        have T10 : Hid (Below w.heap.size w w10) := Lib.hid ((((Keep.of_later T8.out).trans (G := (· = bb)) K9.out (fun q h _ => by rw [h]; exact hbbw)).trans (G := (· = bb)) k10 (fun q h _ => by rw [h]; exact hbbw)).below (Nat.le_refl _) (fun q h => h))
        have hle := blen_ok H10
        have hl9 := H10.out.ok.len
        have q9 : (L9.length : Int) ≤ 16 := by omega
        clear h10 k10 hd
        go_wp2_with fail
        refine hle.mono ?_
        rintro e w11 ⟨rfl, h11⟩
        replace h11 := h11.symm
        subst h11
        go_wp2_with fail
        refine (overlays_any w10).mono ?_
        rintro e w' ⟨rfl, hb⟩
        go_wp2_with fail
        go_ret
        exact ⟨rfl, below_then hb T10.out⟩
      · have q4 : ¬ (400 : Int) < (long : Int) := by omega
        rw [if_neg h4] at he0
        by_cases hh : j < min i 16 ∨ i < 16
        · rw [if_pos hh] at he0
          rw [decide_eq_true hh] at hBB
          subst he0
          clear hh
          cases B with
          | true =>
            clear hBB
            go_wp2_with fail
            refine hp2.mono ?_
            rintro e w9 ⟨rfl, h9, k9⟩
            have H9 := Lib.hid h9
            have K9 := Lib.hid k9
            have hd := HFIN.out w9 h9 k9
            clear h9 k9 hp2
            go_wp2_with fail
            refine hd.mono ?_
            rintro e w10 ⟨rfl, h10, k10⟩
            have H10 := Lib.hid h10
            have T10 : Hid (Below w.heap.size w w10) := Lib.hid ((((Keep.of_later T8.out).trans (G := (· = bb)) K9.out (fun q h _ => by rw [h]; exact hbbw)).trans (G := (· = bb)) k10 (fun q h _ => by rw [h]; exact hbbw)).below (Nat.le_refl _) (fun q h => h))
            have hle := blen_ok H10
            have hl9 := H10.out.ok.len
            have q9 : (L9.length : Int) ≤ 16 := by omega
            clear h10 k10 hd
            go_wp2_with fail
            refine hle.mono ?_
            rintro e w11 ⟨rfl, h11⟩
            replace h11 := h11.symm
            subst h11
            go_wp2_with fail
            refine (overlays_any w10).mono ?_
            rintro e w' ⟨rfl, hb⟩
            go_wp2_with fail
            go_ret
            exact ⟨rfl, below_then hb T10.out⟩
          | false =>
            have q16 : (i : Int) < 16 := by have := of_decide_eq_true (by simpa using hBB : decide (i < 16) = true); omega
            clear hBB
            go_wp2_with fail
            refine hp2.mono ?_
            rintro e w9 ⟨rfl, h9, k9⟩
            have H9 := Lib.hid h9
            have K9 := Lib.hid k9
            have hd := HFIN.out w9 h9 k9
            clear h9 k9 hp2
            go_wp2_with fail
            refine hd.mono ?_
            rintro e w10 ⟨rfl, h10, k10⟩
            have H10 := Lib.hid h10
            have T10 : Hid (Below w.heap.size w w10) := Lib.hid ((((Keep.of_later T8.out).trans (G := (· = bb)) K9.out (fun q h _ => by rw [h]; exact hbbw)).trans (G := (· = bb)) k10 (fun q h _ => by rw [h]; exact hbbw)).below (Nat.le_refl _) (fun q h => h))
            have hle := blen_ok H10
            have hl9 := H10.out.ok.len
            have q9 : (L9.length : Int) ≤ 16 := by omega
            clear h10 k10 hd
            go_wp2_with fail
            refine hle.mono ?_
            rintro e w11 ⟨rfl, h11⟩
            replace h11 := h11.symm
            subst h11
            go_wp2_with fail
            refine (overlays_any w10).mono ?_
            rintro e w' ⟨rfl, hb⟩
            go_wp2_with fail
            go_ret
            exact ⟨rfl, below_then hb T10.out⟩
        · rw [if_neg hh] at he0
          have q16 : ¬ (i : Int) < 16 := by omega
          rw [decide_eq_false hh] at hBB
          subst he0
          clear hh
          cases B with
          | true => cases hBB
          | false =>
            clear hBB
            go_wp2_with fail
            refine hp2.mono ?_
            rintro e w9 ⟨rfl, h9, k9⟩
            have H9 := Lib.hid h9
            have K9 := Lib.hid k9
            have hd := HFIN.out w9 h9 k9
            clear h9 k9 hp2
            go_wp2_with fail
            refine hd.mono ?_
            rintro e w10 ⟨rfl, h10, k10⟩
            have H10 := Lib.hid h10
            have T10 : Hid (Below w.heap.size w w10) := Lib.hid ((((Keep.of_later T8.out).trans (G := (· = bb)) K9.out (fun q h _ => by rw [h]; exact hbbw)).trans (G := (· = bb)) k10 (fun q h _ => by rw [h]; exact hbbw)).below (Nat.le_refl _) (fun q h => h))
            have hle := blen_ok H10
            have hl9 := H10.out.ok.len
            have q9 : (L9.length : Int) ≤ 16 := by omega
            clear h10 k10 hd
            go_wp2_with fail
            refine hle.mono ?_
            rintro e w11 ⟨rfl, h11⟩
            replace h11 := h11.symm
            subst h11
            go_wp2_with fail
            refine (overlays_any w10).mono ?_
            rintro e w' ⟨rfl, hb⟩
            go_wp2_with fail
            go_ret
            exact ⟨rfl, below_then hb T10.out⟩
theorem limits26_any {w : World} (n again long : Int) :
    Calls Try.prog 12 #[.int .i64 n, .int .i64 again, .int .i64 long] w fun e w' => e = .returned (.bool true) ∧ Below w.heap.size w w' := by
  by_cases h1 : n < 0
  · go_enter Try.func12, Try.ntmps12
    go_wp2_with fail
    refine (overlays_any w).mono ?_
    rintro e w' ⟨rfl, hb⟩
    go_wp2_with fail
    go_ret
    exact ⟨rfl, hb⟩
  by_cases h2 : 40 < n
  · have h1' : ¬ n < 0 := h1
    go_enter Try.func12, Try.ntmps12
    go_wp2_with fail
    refine (overlays_any w).mono ?_
    rintro e w' ⟨rfl, hb⟩
    go_wp2_with fail
    go_ret
    exact ⟨rfl, hb⟩
  by_cases h3 : long < 0
  · go_enter Try.func12, Try.ntmps12
    go_wp2_with fail
    refine (overlays_any w).mono ?_
    rintro e w' ⟨rfl, hb⟩
    go_wp2_with fail
    go_ret
    exact ⟨rfl, hb⟩
  by_cases h4 : 1000 < long
  · go_enter Try.func12, Try.ntmps12
    go_wp2_with fail
    refine (overlays_any w).mono ?_
    rintro e w' ⟨rfl, hb⟩
    go_wp2_with fail
    go_ret
    exact ⟨rfl, hb⟩
  obtain ⟨N, rfl⟩ : ∃ N : Nat, n = N := ⟨n.toNat, by omega⟩
  obtain ⟨K, rfl⟩ : ∃ K : Nat, long = K := ⟨long.toNat, by omega⟩
  exact limits_good N again K (by omega) (by omega)
end Go.Proofs.Ytpibaahiboajhaa
