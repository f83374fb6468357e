/-
  What is left of a code's rows gives all of them back: plain.
  The rows of a text: plain.
  CRC-32C: plain: it goes over sums, and a change of four bytes behind each other is seen.
  Drives and coders together.
  CRC-32C as it is computed.
  Numbers put as bytes.
  Numbers put as bytes, behind others.
  Numbers read out of bytes.
  A shard in memory; its numbers as they lie.
  A shard put as a sector.
  A sector read as a shard: its numbers, one behind the other.
  Shards as wholes: built, stored.
  A sector read as a shard, or why it is none.
  Whether a shard is one of a stripe; what is put is read.
-/
import Derived.Test.YtihnlhfngmbglaaGreatAl7
import Derived.Test.YtihnlhfngmbglaaGreatAl1
import Derived.Test.YtihnlhfngmbglaaGreatAl3
set_option linter.unusedSimpArgs false
set_option linter.unusedVariables false
namespace Go.Proofs.YtihnlhfngmbglaaGreat
open Go.RowKit Go.Cib
attribute [local go_sem] cell_set Later.cell Later.frozen Grw.cell Grw.frozen
section

theorem left_many (N : Nat) : ∀ gone : List Int, N ≤ ((List.range N).filter fun j : Nat => decide ((j : Int) ∉ gone)).length + gone.length := by
  intro gone
  induction gone with
  | nil => simp [List.filter_eq_self.2]
  | cons x gs ih =>
    rw [List.length_cons]
    by_cases h : 0 ≤ x ∧ x < (N : Int) ∧ x ∉ gs
    · obtain ⟨a, rfl⟩ : ∃ a : Nat, x = (a : Int) := ⟨x.toNat, by omega⟩
      rw [cnt_put (fun j : Nat => decide ((j : Int) ∉ (a : Int) :: gs)) (fun j : Nat => decide ((j : Int) ∉ gs)) a N (by omega) (fun j hj => by
        have : ¬ (j : Int) = (a : Int) := by omega
        simp [this]) (by simp) (by simp [h.2.2])] at ih
      omega
    · have e : (List.range N).filter (fun j : Nat => decide ((j : Int) ∉ x :: gs)) = (List.range N).filter (fun j : Nat => decide ((j : Int) ∉ gs)) := List.filter_congr fun j hj => by
        have hjN := List.mem_range.1 hj
        by_cases hx : (j : Int) = x
        · by_cases hg : x ∈ gs
          · simp [hx, hg]
          · exact absurd ⟨by omega, by omega, hg⟩ h
        · simp [hx]
      rw [e]; omega
/-- All rows of a code. -/
def allR (k n : Nat) (D : Rws) (N : Nat) : Rws := (List.range N).map (codeRow k n D)
theorem allR_len (k n : Nat) (D : Rws) (N : Nat) : (allR k n D N).length = N := by unfold allR; simp
theorem allR_ra {k n : Nat} {D : Rws} {N j : Nat} (hj : j < N) : ra (allR k n D N) j = codeRow k n D j := ra_some (by unfold allR; rw [List.getElem?_map, List.getElem?_range hj]; rfl)
theorem missF_ra {gone : List Int} {ss : Rws} {N j : Nat} (hj : j < N) : ra (missF gone ss N) j = if (j : Int) ∈ gone then [] else ra ss j := ra_some (by unfold missF; rw [List.getElem?_map, List.getElem?_range hj]; rfl)
section
variable {k m n : Nat} {D : Rws} {gone : List Int}
theorem allR_data (hD : Shp k n D) : allR k n D k = D := ra_ext (by rw [allR_len, hD.1]) fun i hi => by
  rw [allR_len] at hi
  rw [allR_ra hi, codeRow_data hD hi]
theorem allR_enc (hD : Shp k n D) : D ++ encU k D n m = allR k n D (k + m) := by
  unfold allR
  rw [List.range_add, List.map_append, List.map_map]
  congr 1
  exact (allR_data hD).symm
theorem left_lenF (hD : Shp k n D) (hn : 0 < n) {N j : Nat} (hj : j < N) : lenF (missF gone (allR k n D N) N) j = if (j : Int) ∈ gone then 0 else n := by
  unfold lenF
  rw [missF_ra hj, allR_ra hj]
  split
  · rfl
  · exact (codeRow_ok hD j).1
theorem left_thU (hD : Shp k n D) (hn : 0 < n) (N : Nat) : thU (missF gone (allR k n D N) N) N = (List.range N).filter fun j : Nat => decide ((j : Int) ∉ gone) := by
  unfold thU
  refine List.filter_congr fun j hj => ?_
  rw [left_lenF hD hn (List.mem_range.1 hj)]
  by_cases h : (j : Int) ∈ gone
  · simp [h]
  · simp [h, hn]
theorem left_bad (hD : Shp k n D) (hn : 0 < n) : thBad k m (k + m) (missF gone (allR k n D (k + m)) (k + m)) = false := by
  unfold thBad
  rw [Bool.or_eq_false_iff]
  refine ⟨by simp, List.any_eq_false.2 fun u hu => ?_⟩
  have hg := gt_mem (l := thU (missF gone (allR k n D (k + m)) (k + m)) (k + m)) (i := 0) (List.length_pos_of_mem hu)
  have e : ∀ j, j ∈ thU (missF gone (allR k n D (k + m)) (k + m)) (k + m) → lenF (missF gone (allR k n D (k + m)) (k + m)) j = n := fun j hj => by
    have h1 := thU_mem hj
    have h2 := left_lenF (gone := gone) hD hn h1.1
    rw [h2]
    split
    · rename_i hin; rw [if_pos hin] at h2; omega
    · rfl
  unfold oddB
  rw [e u hu, e _ hg]
  simp
theorem left_enough (hD : Shp k n D) (hn : 0 < n) (hg : gone.length ≤ m) : ¬ (thU (missF gone (allR k n D (k + m)) (k + m)) (k + m)).length < k := by
  rw [left_thU hD hn]
  have := left_many (k + m) gone
  omega
/-- All of it comes back. -/
theorem left_out (hD : Shp k n D) (hn : 0 < n) (hk : 1 ≤ k) (hkm : k + m ≤ 255) (hg : gone.length ≤ m) {nr : Nat} (hnr : nr ≤ k + m) :
    outF k (k + m) nr (missF gone (allR k n D (k + m)) (k + m)) = allR k n D nr := by
  have hb := left_bad (m := m) (gone := gone) hD hn
  have hf := left_enough hD hn hg
  obtain ⟨_, hul, huse⟩ := use_ok hb hf hk
  have hI := inj_useT hb hf hk hkm
  have hin : ∀ u ∈ useT k (k + m) (missF gone (allR k n D (k + m)) (k + m)), u < k + m ∧ lenF (missF gone (allR k n D (k + m)) (k + m)) u = n ∧ ra (missF gone (allR k n D (k + m)) (k + m)) u = codeRow k n D u := fun u hu => by
    have h1 := thU_mem (List.mem_of_mem_take hu)
    have h2 := left_lenF (gone := gone) hD hn h1.1
    have h3 := missF_ra (gone := gone) (ss := allR k n D (k + m)) h1.1
    by_cases hc : (u : Int) ∈ gone
    · rw [if_pos hc] at h2; omega
    · rw [if_neg hc] at h2 h3
      exact ⟨h1.1, h2, by rw [h3, allR_ra h1.1]⟩
  have hn0 : lenF (missF gone (allR k n D (k + m)) (k + m)) (gt (useT k (k + m) (missF gone (allR k n D (k + m)) (k + m))) 0) = n := (hin _ (gt_mem (by omega))).2.1
  rw [show allR k n D nr = (List.range nr).map (codeRow k n D) from rfl]
  unfold outF
  rw [hn0]
  refine List.map_congr_left fun i hi => ?_
  have hiN := List.mem_range.1 hi
  unfold fillOne
  split
  · rename_i hpos
    rw [missF_ra (show i < k + m by omega), allR_ra (show i < k + m by omega)]
    rw [left_lenF hD hn (show i < k + m by omega)] at hpos
    by_cases hc : (i : Int) ∈ gone
    · rw [if_pos hc] at hpos; omega
    · rw [if_neg hc]
  · exact made_back hD hul hI (fun u hu => (hin u hu).2.2) i
end
end
section

theorem fillL_len {width : Nat} {xs : List Nat} (h : xs.length ≤ width) : (fillL width xs).length = width := by
  unfold fillL; rw [List.length_append, List.length_replicate]; omega
theorem splF_end (width : Nat) (xs : List Nat) (k : Nat) : splF width xs k k = (List.range k).map fun j => fillL width ((xs.drop (j * width)).take width) := by
  unfold splF; simp
theorem splF_shp {width : Nat} {xs : List Nat} (hx : Byt xs) (k : Nat) : Shp k width (splF width xs k k) := by
  rw [splF_end]
  refine ⟨by simp, fun r hr => ?_⟩
  obtain ⟨j, _, rfl⟩ := List.mem_map.1 hr
  refine ⟨fillL_len (by rw [List.length_take]; omega), fun x hx2 => ?_⟩
  unfold fillL at hx2
  rcases List.mem_append.1 hx2 with h | h
  · exact hx x (List.mem_of_mem_drop (List.mem_of_mem_take h))
  · rw [(List.mem_replicate.1 h).2]; omega
theorem spl_pre {width : Nat} {xs : List Nat} : ∀ k, xs.length ≤ k * width → ((splF width xs k k).flatten).take xs.length = xs := by
  intro k hk
  have h : ∀ i, ((((List.range i).map fun j => fillL width ((xs.drop (j * width)).take width)).flatten)).take xs.length = xs.take (i * width) := by
    intro i
    induction i with
    | zero => simp
    | succ i ih =>
      have hl : (((List.range i).map fun j => fillL width ((xs.drop (j * width)).take width)).flatten).length = i * width := by
        rw [rows_flat (n := width) _ (fun r hr => by
          obtain ⟨j, _, rfl⟩ := List.mem_map.1 hr
          exact fillL_len (by rw [List.length_take]; omega))]
        simp
      rw [List.range_succ, List.map_append, List.flatten_append, List.take_append, ih, hl, Nat.succ_mul]
      simp only [List.map_cons, List.map_nil, List.flatten_cons, List.flatten_nil, List.append_nil]
      rw [List.take_add]
      congr 1
      unfold fillL
      rw [List.take_append]
      rw [List.take_of_length_le (show ((xs.drop (i * width)).take width).length ≤ xs.length - i * width by rw [List.length_take, List.length_drop]; omega)]
      rw [show ∀ l : List Nat, l = [] → (xs.drop (i * width)).take width ++ l = (xs.drop (i * width)).take width from fun l hl => by rw [hl, List.append_nil]]
      refine List.length_eq_zero_iff.1 ?_
      rw [List.length_take, List.length_replicate, List.length_take, List.length_drop]
      omega
  rw [splF_end, h k, List.take_of_length_le hk]
end
section

def cpoly : Nat := 2197175160
/-- What one bit makes of a register. -/
def cst (c : Nat) : Nat := if c % 2 = 1 then c / 2 ^^^ cpoly else c / 2
def cstn : Nat → Nat → Nat
  | 0, c => c
  | n + 1, c => cstn n (cst c)
/-- What a byte makes of it. -/
def ceat (c b : Nat) : Nat := cstn 8 (c ^^^ b)
def cthr : Nat → List Nat → Nat
  | c, [] => c
  | c, b :: bs => cthr (ceat c b) bs
theorem xor_par (a b : Nat) : (a ^^^ b) % 2 = (a % 2 + b % 2) % 2 := by
  have := @Nat.xor_mod_two_eq_one a b
  have h1 : (a ^^^ b) % 2 < 2 := Nat.mod_lt _ (by omega)
  by_cases h : (a ^^^ b) % 2 = 1
  · have h2 := this.1 h
    omega
  · have h2 : ¬ ¬ (a % 2 = 1 ↔ b % 2 = 1) := fun h3 => h (this.2 h3)
    omega
theorem xor_half (a b : Nat) : (a ^^^ b) / 2 = a / 2 ^^^ b / 2 := by
  exact Nat.xor_div_two
theorem xor_nought {a b : Nat} (h : a ^^^ b = 0) : a = b := by
  have h2 : (a ^^^ b) ^^^ b = 0 ^^^ b := by rw [h]
  rw [Nat.xor_assoc, Nat.xor_self, Nat.xor_zero, Nat.zero_xor] at h2
  exact h2
theorem cst_xor (a b : Nat) : cst (a ^^^ b) = cst a ^^^ cst b := by
  have hp := xor_par a b
  unfold cst
  rw [xor_half]
  by_cases h1 : a % 2 = 1
  · by_cases h2 : b % 2 = 1
    · rw [if_neg (by omega), if_pos h1, if_pos h2]
      rw [Nat.xor_assoc, Nat.xor_comm cpoly, Nat.xor_assoc, Nat.xor_self, Nat.xor_zero]
    · rw [if_pos (by omega), if_pos h1, if_neg h2]
      rw [Nat.xor_assoc, Nat.xor_assoc, Nat.xor_comm cpoly]
  · by_cases h2 : b % 2 = 1
    · rw [if_pos (by omega), if_neg h1, if_pos h2, Nat.xor_assoc]
    · rw [if_neg (by omega), if_neg h1, if_neg h2]
theorem cstn_xor : ∀ n a b, cstn n (a ^^^ b) = cstn n a ^^^ cstn n b
  | 0, _, _ => rfl
  | n + 1, a, b => by
    show cstn n (cst (a ^^^ b)) = _
    rw [cst_xor, cstn_xor n]; rfl
theorem cst_zero : cst 0 = 0 := rfl
theorem cstn_zero : ∀ n, cstn n 0 = 0
  | 0 => rfl
  | n + 1 => by show cstn n (cst 0) = 0; rw [cst_zero, cstn_zero n]
theorem cst_lt {c : Nat} (h : c < 4294967296) : cst c < 4294967296 := by
  unfold cst
  split
  · exact Nat.xor_lt_two_pow (n := 32) (by omega) (by unfold cpoly; omega)
  · omega
theorem cstn_lt {c : Nat} (h : c < 4294967296) : ∀ n, cstn n c < 4294967296 := by
  intro n
  induction n generalizing c with
  | zero => exact h
  | succ n ih => exact ih (cst_lt h)
theorem cst_inj {c : Nat} (h : c < 4294967296) (h0 : cst c = 0) : c = 0 := by
  unfold cst at h0
  split at h0
  · have := xor_nought h0
    unfold cpoly at this
    omega
  · omega
theorem cstn_inj : ∀ n {c : Nat}, c < 4294967296 → cstn n c = 0 → c = 0
  | 0, _, _, h => h
  | n + 1, _, h, h0 => cst_inj h (cstn_inj n (cst_lt h) h0)
theorem cst_even (a : Nat) : cst (2 * a) = a := by unfold cst; rw [if_neg (by omega)]; omega
theorem cstn_shift : ∀ n a, cstn n (2 ^ n * a) = a
  | 0, a => by rw [Nat.pow_zero, Nat.one_mul]; rfl
  | n + 1, a => by
    show cstn n (cst (2 ^ (n + 1) * a)) = a
    rw [show 2 ^ (n + 1) * a = 2 * (2 ^ n * a) by rw [Nat.pow_succ]; rw [Nat.mul_comm (2 ^ n) 2, Nat.mul_assoc], cst_even, cstn_shift n]
theorem cstn_add : ∀ m n c, cstn (n + m) c = cstn m (cstn n c)
  | m, 0, c => by rw [Nat.zero_add]; rfl
  | m, n + 1, c => by rw [Nat.succ_add]; exact cstn_add m n (cst c)
theorem ceat_xor (a b c d : Nat) : ceat (a ^^^ b) (c ^^^ d) = ceat a c ^^^ ceat b d := by
  unfold ceat
  rw [← cstn_xor]
  congr 1
  rw [Nat.xor_assoc, Nat.xor_assoc]
  congr 1
  rw [← Nat.xor_assoc, Nat.xor_comm b c, Nat.xor_assoc]
theorem ceat_lt {c b : Nat} (h : c < 4294967296) (hb : b < 256) : ceat c b < 4294967296 := cstn_lt (Nat.xor_lt_two_pow (n := 32) h (by omega)) 8
theorem cthr_lt : ∀ (l : List Nat) {c : Nat}, c < 4294967296 → (∀ x ∈ l, x < 256) → cthr c l < 4294967296
  | [], _, h, _ => h
  | b :: bs, _, h, hl => cthr_lt bs (ceat_lt h (hl b (List.mem_cons_self ..))) fun x hx => hl x (List.mem_cons_of_mem _ hx)
theorem cthr_append : ∀ (l m : List Nat) (c : Nat), cthr c (l ++ m) = cthr (cthr c l) m
  | [], _, _ => rfl
  | b :: bs, m, c => cthr_append bs m (ceat c b)
/-- Two texts of one length, summed byte by byte. -/
def xorL : List Nat → List Nat → List Nat
  | a :: al, b :: bs => (a ^^^ b) :: xorL al bs
  | _, _ => []
theorem cthr_xor : ∀ (l m : List Nat) (c d : Nat), l.length = m.length → cthr (c ^^^ d) (xorL l m) = cthr c l ^^^ cthr d m
  | [], [], _, _, _ => rfl
  | [], _ :: _, _, _, h => by simp at h
  | _ :: _, [], _, _, h => by simp at h
  | a :: al, b :: bs, c, d, h => by
    show cthr (ceat (c ^^^ d) (a ^^^ b)) (xorL al bs) = _
    rw [ceat_xor, cthr_xor al bs _ _ (by simpa using h)]; rfl
theorem cthr_zeros : ∀ (n c : Nat), cthr c (List.replicate n 0) = cstn (8 * n) c
  | 0, _ => rfl
  | n + 1, c => by
    rw [List.replicate_succ, show 8 * (n + 1) = 8 + 8 * n by omega, cstn_add (8 * n) 8 c, ← cthr_zeros n]
    show cthr (ceat c 0) _ = _
    unfold ceat
    rw [Nat.xor_zero]
/-- Four bytes. -/
def le4 (n : Nat) : List Nat := [n % 256, n / 256 % 256, n / 65536 % 256, n / 16777216 % 256]
def un4 : List Nat → Nat
  | [a, b, c, d] => a + 256 * (b + 256 * (c + 256 * d))
  | _ => 0
theorem un4_eq (a b c d : Nat) : un4 [a, b, c, d] = a + 256 * (b + 256 * (c + 256 * d)) := rfl
theorem un_le4 {n : Nat} (h : n < 4294967296) : un4 (le4 n) = n := by unfold le4; rw [un4_eq]; omega
theorem le_un4 {a b c d : Nat} (h1 : a < 256) (h2 : b < 256) (h3 : c < 256) (h4 : d < 256) : le4 (un4 [a, b, c, d]) = [a, b, c, d] := by
  unfold le4
  rw [un4_eq]
  simp only [List.cons.injEq, and_true]
  omega
theorem xor_high {a : Nat} (h : a < 256) (b : Nat) : a ^^^ 256 * b = a + 256 * b := by
  have h1 : (a ^^^ 256 * b) / 2 ^ 8 = b := by
    rw [Nat.xor_div_two_pow, show a / 2 ^ 8 = 0 by omega, show 256 * b / 2 ^ 8 = b by omega, Nat.zero_xor]
  have h2 : (a ^^^ 256 * b) % 2 ^ 8 = a := by
    rw [Nat.xor_mod_two_pow, show a % 2 ^ 8 = a by omega, show 256 * b % 2 ^ 8 = 0 by omega, Nat.xor_zero]
  omega
theorem ceat_word (c b w : Nat) : ceat c b ^^^ w = cstn 8 (c ^^^ (b ^^^ 256 * w)) := by
  unfold ceat
  have h := cstn_shift 8 w
  have e : c ^^^ (b ^^^ 256 * w) = (c ^^^ b) ^^^ 2 ^ 8 * w := (Nat.xor_assoc ..).symm
  rw [e, cstn_xor 8 (c ^^^ b), h]
theorem thr4 {a b c d : Nat} (h1 : a < 256) (h2 : b < 256) (h3 : c < 256) (h4 : d < 256) (r : Nat) : cthr r [a, b, c, d] = cstn 32 (r ^^^ un4 [a, b, c, d]) := by
  show cstn 8 (ceat (ceat (ceat r a) b) c ^^^ d) = _
  rw [ceat_word, ceat_word, ceat_word, xor_high h3, xor_high h2, xor_high h1]
  rw [← cstn_add 8 8, ← cstn_add 16 8, ← cstn_add 24 8]
  rfl
/-- The sum of a text. -/
def csum (l : List Nat) : Nat := cthr 4294967295 l ^^^ 4294967295
theorem csum_lt {l : List Nat} (h : ∀ x ∈ l, x < 256) : csum l < 4294967296 := Nat.xor_lt_two_pow (n := 32) (cthr_lt l (by omega) h) (by omega)
/-- Sixty bytes, and their sum. -/
def okSum (l : List Nat) : Prop := le4 (csum (l.take 60)) = l.drop 60
instance (l : List Nat) : Decidable (okSum l) := inferInstanceAs (Decidable (_ = _))
theorem okSum_iff {l : List Nat} (hl : l.length = 64) (hb : ∀ x ∈ l, x < 256) : okSum l ↔ cthr 4294967295 l = cstn 32 4294967295 := by
  have hd : (l.drop 60).length = 4 := by rw [List.length_drop, hl]
  have hbd : ∀ x ∈ l.drop 60, x < 256 := fun x hx => hb x (List.mem_of_mem_drop hx)
  have hbt : ∀ x ∈ l.take 60, x < 256 := fun x hx => hb x (List.mem_of_mem_take hx)
  have e : cthr 4294967295 l = cthr (cthr 4294967295 (l.take 60)) (l.drop 60) := by rw [← cthr_append, List.take_append_drop]
  obtain ⟨a, b, c, d, hs⟩ : ∃ a b c d, l.drop 60 = [a, b, c, d] := by
    match h : l.drop 60, hd with
    | [a, b, c, d], _ => exact ⟨a, b, c, d, rfl⟩
  rw [hs] at hbd
  have h1 := hbd a (by simp)
  have h2 := hbd b (by simp)
  have h3 := hbd c (by simp)
  have h4 := hbd d (by simp)
  have hw : un4 [a, b, c, d] < 4294967296 := by rw [un4_eq]; omega
  have hr := cthr_lt (l.take 60) (c := 4294967295) (by omega) hbt
  rw [e, hs, thr4 h1 h2 h3 h4]
  unfold okSum
  rw [hs]
  constructor
  · intro h
    have h9 := un_le4 (csum_lt hbt)
    rw [h] at h9
    rw [h9]
    unfold csum
    rw [← Nat.xor_assoc, Nat.xor_self, Nat.zero_xor]
  · intro h
    have h8 : cstn 32 (cthr 4294967295 (l.take 60) ^^^ un4 [a, b, c, d] ^^^ 4294967295) = 0 := by rw [cstn_xor, h, Nat.xor_self]
    have h9 := xor_nought (cstn_inj 32 (Nat.xor_lt_two_pow (n := 32) (Nat.xor_lt_two_pow (n := 32) hr hw) (by omega)) h8)
    have h10 : csum (l.take 60) = un4 [a, b, c, d] := by
      unfold csum
      have h11 : cthr 4294967295 (l.take 60) ^^^ (cthr 4294967295 (l.take 60) ^^^ un4 [a, b, c, d]) = un4 [a, b, c, d] := by rw [← Nat.xor_assoc, Nat.xor_self, Nat.zero_xor]
      rw [h9] at h11
      exact h11
    rw [h10, le_un4 h1 h2 h3 h4]
/-- A change of four bytes. -/
def rotD (off mask : Nat) : List Nat := List.replicate off 0 ++ (le4 mask ++ List.replicate (60 - off) 0)
theorem xorL_len : ∀ (l m : List Nat), l.length = m.length → (xorL l m).length = l.length
  | [], [], _ => rfl
  | [], _ :: _, h => by simp at h
  | _ :: _, [], h => by simp at h
  | a :: al, b :: bs, h => by show (xorL al bs).length + 1 = _; rw [xorL_len al bs (by simpa using h)]; rfl
theorem xorL_byt : ∀ (l m : List Nat), (∀ x ∈ l, x < 256) → (∀ x ∈ m, x < 256) → ∀ x ∈ xorL l m, x < 256
  | [], _, _, _, x, h => by simp [xorL] at h
  | _ :: _, [], _, _, x, h => by simp [xorL] at h
  | a :: al, b :: bs, h1, h2, x, h => by
    rcases List.mem_cons.1 h with rfl | h
    · exact Nat.xor_lt_two_pow (n := 8) (h1 a (List.mem_cons_self ..)) (h2 b (List.mem_cons_self ..))
    · exact xorL_byt al bs (fun y hy => h1 y (List.mem_cons_of_mem _ hy)) (fun y hy => h2 y (List.mem_cons_of_mem _ hy)) x h
theorem rotD_len {off mask : Nat} (h : off ≤ 60) : (rotD off mask).length = 64 := by unfold rotD le4; simp; omega
theorem rotD_byt (off mask : Nat) : ∀ x ∈ rotD off mask, x < 256 := by
  intro x hx
  unfold rotD le4 at hx
  simp only [List.mem_append, List.mem_replicate, List.mem_cons, List.not_mem_nil, or_false] at hx
  omega
/-- It is seen. -/
theorem rot_seen {l : List Nat} {off mask : Nat} (hl : l.length = 64) (hb : ∀ x ∈ l, x < 256) (ho : off ≤ 60) (hm0 : mask ≠ 0) (hm : mask < 4294967296) (h : okSum l) : ¬ okSum (xorL l (rotD off mask)) := by
  have hdl := rotD_len (mask := mask) ho
  rw [okSum_iff (by rw [xorL_len _ _ (by rw [hl, hdl]), hl]) (xorL_byt _ _ hb (rotD_byt off mask))]
  rw [okSum_iff hl hb] at h
  have e : cthr 4294967295 (xorL l (rotD off mask)) = cthr 4294967295 l ^^^ cthr 0 (rotD off mask) := by
    have := cthr_xor l (rotD off mask) 4294967295 0 (by rw [hl, hdl])
    exact this
  have e3 : cthr 0 (le4 mask) = cstn 32 mask := by
    have h5 := thr4 (a := mask % 256) (b := mask / 256 % 256) (c := mask / 65536 % 256) (d := mask / 16777216 % 256) (Nat.mod_lt _ (by omega)) (Nat.mod_lt _ (by omega)) (Nat.mod_lt _ (by omega)) (Nat.mod_lt _ (by omega)) 0
    have h6 : un4 [mask % 256, mask / 256 % 256, mask / 65536 % 256, mask / 16777216 % 256] = mask := un_le4 hm
    rw [h6, Nat.zero_xor] at h5
    exact h5
  have e2 : cthr 0 (rotD off mask) = cstn (8 * (60 - off)) (cstn 32 mask) := by
    unfold rotD
    rw [cthr_append, cthr_append, cthr_zeros (60 - off), cthr_zeros off, cstn_zero, e3]
  rw [e, e2, h]
  have hm1 := cstn_lt hm 32
  have hm2 := fun h0 => hm0 (cstn_inj 32 hm h0)
  generalize cstn 32 4294967295 = K
  generalize cstn 32 mask = L at hm1 hm2 ⊢
  intro h2
  have h3 : cstn (8 * (60 - off)) L = 0 := by
    have : K ^^^ (K ^^^ cstn (8 * (60 - off)) L) = K ^^^ K := by rw [h2]
    rwa [← Nat.xor_assoc, Nat.xor_self, Nat.zero_xor] at this
  exact hm2 (cstn_inj _ hm1 h3)
end
section
end
section
theorem xor_bits32 {a c : Nat} (ha : a < 4294967296) (hc : c < 4294967296) : bits .xor .u32 (a : Int) (c : Int) = ((a ^^^ c : Nat) : Int) := by
  unfold bits
  have h := Nat.xor_lt_two_pow (n := 32) ha hc
  have e : (BitVec.ofInt 32 (a : Int) ^^^ BitVec.ofInt 32 (c : Int)).toNat = a ^^^ c := by
    rw [BitVec.toNat_xor, BitVec.ofInt_natCast, BitVec.ofInt_natCast, BitVec.toNat_ofNat, BitVec.toNat_ofNat, show a % 2 ^ 32 = a by omega, show c % 2 ^ 32 = c by omega]
  show IntKind.u32.wrap ((BitVec.ofInt 32 (a : Int) ^^^ BitVec.ofInt 32 (c : Int)).toNat : Int) = _
  rw [e, IntKind.wrap_u32]
  omega
theorem and_bits32 {a c : Nat} (ha : a < 4294967296) (hc : c < 4294967296) : bits .and .u32 (a : Int) (c : Int) = ((a &&& c : Nat) : Int) := by
  unfold bits
  have h := Nat.and_lt_two_pow (n := 32) a hc
  have e : (BitVec.ofInt 32 (a : Int) &&& BitVec.ofInt 32 (c : Int)).toNat = a &&& c := by
    rw [BitVec.toNat_and, BitVec.ofInt_natCast, BitVec.ofInt_natCast, BitVec.toNat_ofNat, BitVec.toNat_ofNat, show a % 2 ^ 32 = a by omega, show c % 2 ^ 32 = c by omega]
  show IntKind.u32.wrap ((BitVec.ofInt 32 (a : Int) &&& BitVec.ofInt 32 (c : Int)).toNat : Int) = _
  rw [e, IntKind.wrap_u32]
  omega
theorem step_bits {c : Nat} (hc : c < 4294967296) : bits .xor .u32 ((c : Int) / 2) (bits .and .u32 2197175160 (-bits .and .u32 (c : Int) 1 % 4294967296)) = (cst c : Int) := by
  have h1 := and_bits32 (c := 1) hc (by omega)
  rw [Nat.and_one_is_mod] at h1
  have h2 : bits .and .u32 (c : Int) 1 = ((c % 2 : Nat) : Int) := h1
  rw [h2]
  unfold cst
  by_cases h : c % 2 = 1
  · rw [if_pos h, h]
    have h3 : bits .and .u32 2197175160 (-((1 : Nat) : Int) % 4294967296) = ((cpoly : Nat) : Int) := by decide +kernel
    rw [h3, show (c : Int) / 2 = ((c / 2 : Nat) : Int) by omega, xor_bits32 (by omega) (by unfold cpoly; omega)]
  · rw [if_neg h, show c % 2 = 0 by omega]
    have h3 : bits .and .u32 2197175160 (-((0 : Nat) : Int) % 4294967296) = ((0 : Nat) : Int) := by decide +kernel
    rw [h3, show (c : Int) / 2 = ((c / 2 : Nat) : Int) by omega, xor_bits32 (by omega) (by omega), Nat.xor_zero]
set_option maxRecDepth 100000 in
set_option maxHeartbeats 4000000 in
theorem step_any {w : World} {c : Nat} (hc : c < 4294967296) :
    Calls Tryz.prog 266 #[.int .u32 (c : Int)] w fun e w' => e = .returned (.int .u32 (cst c : Int)) ∧ w' = w := by
  have h1 := step_bits hc
  have q0 : (0 : Int) ≤ (c : Int) := Int.natCast_nonneg _
  have q1 : (c : Int) < 4294967296 := by omega
  go_enter Tryz.func266, Tryz.ntmps266
  go_wp2_with fail
  go_ret
  exact ⟨rfl, rfl⟩
theorem cstn_next : ∀ (i c : Nat), cstn (i + 1) c = cst (cstn i c) := fun i c => cstn_add 1 i c
set_option maxRecDepth 100000 in
set_option maxHeartbeats 4000000 in
theorem eat_any {w : World} {c b : Nat} (hc : c < 4294967296) (hb : b < 256) :
    Calls Tryz.prog 259 #[.int .u32 (c : Int), .int .u8 (b : Int)] w fun e w' => e = .returned (.int .u32 (ceat c b : Int)) ∧ w' = w := by
  have h1 := xor_bits32 hc (show b < 4294967296 by omega)
  have q0 : (0 : Int) ≤ (c : Int) := Int.natCast_nonneg _
  have q1 : (c : Int) < 4294967296 := by omega
  have q2 : (0 : Int) ≤ (b : Int) := Int.natCast_nonneg _
  have q3 : (b : Int) < 256 := by omega
  have hx := Nat.xor_lt_two_pow (n := 32) hc (show b < 2 ^ 32 by omega)
  obtain ⟨x, hxe⟩ : ∃ x, c ^^^ b = x := ⟨_, rfl⟩
  have HE := Lib.hid (show ceat c b = cstn 8 x by unfold ceat; rw [hxe])
  rw [hxe] at h1 hx
  clear hxe
  go_enter Tryz.func259, Tryz.ntmps259
  go_wp2_with fail
  go_loopw [0, 9] (fun vc vi wr => ∃ i : Nat, i ≤ 8 ∧ vi = .int .i64 i ∧ vc = .int .u32 (cstn i x) ∧ wr = w) (fun _ vi _ => 8 - (intOf vi).toNat)
  case atStart => exact ⟨0, by omega, rfl, rfl, rfl⟩
  case round =>
    obtain ⟨i, hi, rfl, rfl, hwr⟩ := hrel
    rw [hwr]
    clear hwr
    have p0 : (0 : Int) ≤ (i : Int) := Int.natCast_nonneg _
    by_cases hlt : i < 8
    · have p1 : (i : Int) < 8 := by omega
      have hs := step_any (w := w) (c := cstn i x) (cstn_lt hx i)
      have HN := Lib.hid (cstn_next i x)
      go_wp2_with fail
      refine hs.mono ?_
      rintro e w5 ⟨rfl, hw5⟩
      rw [hw5]
      clear hw5 hs
      go_wp2_with fail
      exact ⟨⟨i + 1, by omega, by go_num, by rw [HN.out], trivial⟩, by simp [intOf]; omega⟩
    · obtain rfl : i = 8 := by omega
      go_wp2_with fail
      go_ret
      exact ⟨by rw [HE.out]; rfl, rfl⟩
theorem cthr_take {l : List Nat} {i : Nat} (h : i < l.length) (c : Nat) : cthr c (l.take (i + 1)) = ceat (cthr c (l.take i)) (gt l i) := by
  rw [take_gt h, cthr_append]; rfl
set_option maxRecDepth 100000 in
set_option maxHeartbeats 4000000 in
theorem through_any {w : World} {c n cp : Nat} {A : Option Addr} {S : Nat → Prop} {xs : List Nat} (hc : c < 4294967296) (R : RdL ByR 1 S w A n xs) (hn : n ≤ 1000000) :
    Calls Tryz.prog 247 #[.int .u32 (c : Int), .slice A n cp] w fun e w' => e = .returned (.int .u32 (cthr c xs : Int)) ∧ w' = w := by
  have HR := Lib.hid R
  have hl := R.1
  have HB := Lib.hid (by_byt R)
  have q0 : (n : Int) ≤ 1000000 := by omega
  clear R
  go_enter Tryz.func247, Tryz.ntmps247
  go_wp2_with fail
  go_loopw [0, 9] (fun vc vi wr => ∃ i : Nat, i ≤ n ∧ vi = .int .i64 i ∧ vc = .int .u32 (cthr c (xs.take i)) ∧ wr = w) (fun _ vi _ => n - (intOf vi).toNat)
  case atStart => exact ⟨0, Nat.zero_le _, rfl, rfl, rfl⟩
  case round =>
    obtain ⟨i, hi, rfl, rfl, hwr⟩ := hrel
    rw [hwr]
    clear hwr
    have p0 : (0 : Int) ≤ (i : Int) := Int.natCast_nonneg _
    by_cases hlt : i < n
    · have p1 : (i : Int) < (n : Int) := by omega
      obtain ⟨ba, oa, rfl, _, hba⟩ := HR.out.addr hlt
      obtain ⟨v1, x1⟩ := by_at HR.out hlt
      have hq := cthr_lt (xs.take i) hc (fun x hx => HB.out x (List.mem_of_mem_take hx))
      have hs := eat_any (w := w) hq x1
      have HN := Lib.hid (cthr_take (c := c) (l := xs) (i := i) (by omega))
      go_wp2_with fail
      refine hs.mono ?_
      rintro e w5 ⟨rfl, hw5⟩
      rw [hw5]
      clear hw5 hs
      go_wp2_with fail
      exact ⟨⟨i + 1, by omega, by go_num, by rw [HN.out], trivial⟩, by simp [intOf]; omega⟩
    · have p1 : ¬ (i : Int) < (n : Int) := by omega
      obtain rfl : i = n := by omega
      have HT := Lib.hid (List.take_of_length_le (l := xs) (i := i) (by omega))
      go_wp2_with fail
      go_ret
      exact ⟨congrArg (fun l => Ending.returned (.int .u32 (cthr c l : Int))) HT.out, rfl⟩
theorem bits_not0 : bits .xor .u32 4294967295 0 = 4294967295 := by decide +kernel
theorem not_top : (if IntKind.u32.signed = true then -1 else IntKind.u32.max) = (4294967295 : Int) := by decide +kernel
set_option maxRecDepth 100000 in
set_option maxHeartbeats 4000000 in
theorem more_any {w : World} {n cp M : Nat} {A : Option Addr} {S : Nat → Prop} {xs : List Nat} (hM : M < 4294967296) (hMi : (M : Int) = 4294967295) (R : RdL ByR 1 S w A n xs) (hn : n ≤ 1000000) :
    Calls Tryz.prog 233 #[.int .u32 0, .slice A n cp] w fun e w' => e = .returned (.int .u32 ((cthr M xs ^^^ M : Nat) : Int)) ∧ w' = w := by
  have ht := through_any (cp := cp) hM R hn
  have hq := cthr_lt xs hM (by_byt R)
  have hx := xor_bits32 hM hq
  rw [hMi] at ht hx
  have h0 := bits_not0
  have h1 := not_top
  obtain ⟨y, hy⟩ : ∃ y, cthr M xs = y := ⟨_, rfl⟩
  rw [hy] at ht hx hq
  have HY := Lib.hid hy
  have q0 : (0 : Int) ≤ (y : Int) := Int.natCast_nonneg _
  have q1 : (y : Int) < 4294967296 := by omega
  clear hM hMi R hy hq
  go_enter Tryz.func233, Tryz.ntmps233
  go_wp2_with fail
  refine ht.mono ?_
  rintro e w5 ⟨rfl, hw5⟩
  rw [hw5]
  clear hw5 ht
  go_wp2_with fail
  go_ret
  exact ⟨by rw [HY.out, Nat.xor_comm]; rfl, rfl⟩
set_option maxRecDepth 100000 in
set_option maxHeartbeats 4000000 in
theorem csum_any {w : World} {n cp : Nat} {A : Option Addr} {S : Nat → Prop} {xs : List Nat} (R : RdL ByR 1 S w A n xs) (hn : n ≤ 1000000) :
    Calls Tryz.prog 202 #[.slice A n cp] w fun e w' => e = .returned (.int .u32 (csum xs : Int)) ∧ w' = w := by
  have ht := more_any (cp := cp) (M := 4294967295) (by omega) rfl R hn
  change Calls Tryz.prog 233 #[.int .u32 0, .slice A n cp] w (fun e w' => e = .returned (.int .u32 (csum xs : Int)) ∧ w' = w) at ht
  obtain ⟨y, hy⟩ : ∃ y, csum xs = y := ⟨_, rfl⟩
  rw [hy] at ht ⊢
  go_enter Tryz.func202, Tryz.ntmps202
  go_wp2_with fail
  refine ht.mono ?_
  rintro e w5 ⟨rfl, hw5⟩
  rw [hw5]
  clear hw5 ht
  go_wp2_with fail
  go_ret
  exact ⟨rfl, rfl⟩
end
section
theorem flat1 {α β : Type} (f : α → β) : ∀ xs : List α, (xs.map fun x => [f x]).flatten = xs.map f
  | [] => rfl
  | x :: xs => by rw [List.map_cons, List.flatten_cons, flat1 f xs]; rfl
theorem OwnL.byNew {w : World} {xs : List Nat} {n cap : Nat} (hl : xs.length = n) (hb : Byt xs) (hc : n ≤ cap) (hm : cap ≤ maxLen) {cur : Array Value} (hsz : cur.size = cap) (hcur : cur.toList.take n = xs.map fun x : Nat => Value.int .u8 (x : Int)) :
    OwnL ByR 5 1 w.heap.size (fun _ => True) (w.alloc (.cells cur 5)) (.slice (some ⟨w.heap.size, 0, none⟩) n cap) n xs := by
  refine ⟨xs.map fun x : Nat => [Value.int .u8 (x : Int)], ⟨?_, .inr ⟨_, cap, cur, rfl, Nat.le_refl _, heap_alloc_new w _, hc, hm, by omega, ?_⟩⟩, hl, by rw [List.length_map, hl], fun cs hcs => ?_, fun i cs x hcs hx => ?_⟩
  · rw [flat1, List.length_map, hl, Nat.mul_one]
  · rw [Nat.mul_one, hcur, flat1]
  · obtain ⟨x, _, rfl⟩ := List.mem_map.1 hcs
    rfl
  · rw [List.getElem?_map, hx] at hcs
    injection hcs with hcs
    subst hcs
    exact ⟨hb x (List.mem_of_getElem? hx), rfl⟩
theorem OwnL.bySet {w : World} {E : TypeId} {base g n cap : Nat} {xs : List Nat} (h : OwnL ByR E 1 base (fun _ => True) w (.slice (some ⟨g, 0, none⟩) n cap) n xs) {i x : Nat} (hx : x < 256) :
    OwnL ByR E 1 base (fun _ => True) (w.setCell ⟨g, i, none⟩ (.int .u8 (x : Int))) (.slice (some ⟨g, 0, none⟩) n cap) n (xs.set i x) := by
  obtain ⟨css, h1, h2, h3, h4, h5⟩ := h
  have hcs : css = xs.map fun x : Nat => [Value.int .u8 (x : Int)] := by
    refine List.ext_getElem (by rw [List.length_map]; omega) fun j h6 h7 => ?_
    rw [List.getElem_map]
    exact (h5 j css[j] xs[j] (List.getElem?_eq_getElem _) (List.getElem?_eq_getElem _)).2
  have hb : Byt xs := fun y hy => by
    obtain ⟨j, hj, rfl⟩ := List.mem_iff_getElem.1 hy
    exact (h5 j css[j] xs[j] (List.getElem?_eq_getElem _) (List.getElem?_eq_getElem _)).1
  rw [hcs, flat1] at h1
  refine ⟨(xs.set i x).map fun x : Nat => [Value.int .u8 (x : Int)], ?_, by rw [List.length_set, h2], by rw [List.length_map, List.length_set, h2], fun cs hcs => ?_, fun j cs y hcs hy => ?_⟩
  · rw [flat1, List.map_set]
    exact (h1.stored i _).1
  · obtain ⟨x, _, rfl⟩ := List.mem_map.1 hcs
    rfl
  · rw [List.getElem?_map, hy] at hcs
    injection hcs with hcs
    subst hcs
    refine ⟨?_, rfl⟩
    rcases List.mem_or_eq_of_mem_set (List.mem_of_getElem? hy) with h8 | h8
    · exact hb y h8
    · rw [h8]; exact hx
theorem OwnL.byCell {w : World} {E : TypeId} {base g n cap : Nat} {xs : List Nat} (h : OwnL ByR E 1 base (fun _ => True) w (.slice (some ⟨g, 0, none⟩) n cap) n xs) {i : Nat} (hi : i < n) :
    (∃ v, w.cell? ⟨g, i, none⟩ = some v) ∧ w.frozen? ⟨g, i, none⟩ = false := by
  obtain ⟨css, h1, h2, h3, h4, h5⟩ := h
  have ht := ownsRow_there h1 (o := i) (k := 1) (by omega) 0 (by omega)
  rw [Nat.add_zero] at ht
  obtain ⟨ha, hb⟩ := ht
  refine ⟨Option.isSome_iff_exists.1 ha, ?_⟩
  simpa using hb
def zfF (xs : List Nat) (n i : Nat) : List Nat := xs.take i ++ List.replicate (n - i) 0
theorem zfF_next {xs : List Nat} {n i : Nat} (hl : xs.length = n) (hi : i < n) : (zfF xs n i).set i (gt xs i) = zfF xs n (i + 1) := by
  unfold zfF
  rw [List.set_append_right _ _ (by rw [List.length_take]; omega), take_gt (by omega), List.append_assoc]
  congr 1
  rw [List.length_take, show i - min i xs.length = 0 by omega]
  obtain ⟨d, hd⟩ : ∃ d, n - i = d + 1 := ⟨n - i - 1, by omega⟩
  rw [hd, show n - (i + 1) = d by omega, List.replicate_succ]
  rfl
theorem makeCap (n c : Nat) (h : n ≤ c) (hc : c ≤ 1000000) (w : World) : (Instr.makeSlice 68 (.int .i64 (n : Int)) (.int .i64 ((n : Int) + ((c - n : Nat) : Int)))).run Tryz.prog w = .ok (.slice (some ⟨w.heap.size, 0, none⟩) n c) (w.alloc (.cells (Array.replicate c (.int .u8 0)) 5)) := by
  obtain ⟨i, hi, hz, hs, hb⟩ := info_parts byInfo
  rw [show (n : Int) + ((c - n : Nat) : Int) = (c : Int) by omega]
  have h := run_make (P := Tryz.prog) w 68 5 i (.int .u8 0) (by kernel_rfl) hi hz .i64 .i64 n c (by omega) (by omega) (by rw [hb]; omega) (by omega)
  simp only [Int.toNat_natCast, hs, Nat.mul_one] at h
  rw [h, show (Value.int .u8 0).cells = #[.int .u8 0] from rfl, madeCells_r]
set_option maxRecDepth 100000 in
set_option maxHeartbeats 4000000 in
theorem grown_any {w : World} {n c room : Nat} {A : Option Addr} {S : Nat → Prop} {xs : List Nat} (R : RdL ByR 1 S w A n xs) (hn : n ≤ 10000) (hr : room ≤ 10000) :
    Calls Tryz.prog 240 #[.slice A n c, .int .i64 (room : Int)] w fun e w' => ∃ g, e = .returned (.slice (some ⟨g, 0, none⟩) n (n + room)) ∧ OwnL ByR 5 1 w.heap.size (fun _ => True) w' (.slice (some ⟨g, 0, none⟩) n (n + room)) n xs ∧ Below w.heap.size w w' := by
  have HR := Lib.hid R
  have HX := Lib.hid R.1
  have HBY := Lib.hid (by_byt R)
  clear R
  have q0 : (n : Int) ≤ 10000 := by omega
  have q1 : (room : Int) ≤ 10000 := by omega
  have q2 : (0 : Int) ≤ (room : Int) := Int.natCast_nonneg _
  have hmk := makeCap n (n + room) (by omega) (by omega) w
  rw [show n + room - n = room by omega] at hmk
  have ho := OwnL.byNew (w := w) (xs := zfF xs n 0) (n := n) (cap := n + room) (cur := Array.replicate (n + room) (.int .u8 0)) (by unfold zfF; simp) (by unfold zfF; rw [List.take_zero, List.nil_append]; exact byt_zeros _) (by omega) (by unfold maxLen; omega) (by simp) (by unfold zfF; simp [List.take_replicate])
  have hbz : Below w.heap.size w (w.alloc (.cells (Array.replicate (n + room) (.int .u8 0)) 5)) := (Below.refl _ _).alloc (Nat.le_refl _) _
  obtain ⟨wA, hwA⟩ : ∃ wA, w.alloc (.cells (Array.replicate (n + room) (.int .u8 0)) 5) = wA := ⟨_, rfl⟩
  rw [hwA] at hmk ho hbz
  have HO := Lib.hid ho
  have HBZ := Lib.hid hbz
  obtain ⟨g, hg⟩ : ∃ g, w.heap.size = g := ⟨_, rfl⟩
  rw [hg] at hmk HO
  have HG := Lib.hid (show w.heap.size ≤ g by omega)
  have HGE := Lib.hid hg
  clear ho hbz hwA hg
  go_enter Tryz.func240, Tryz.ntmps240
  go_wp2_with fail
  clear hmk
  go_loopw [17] (fun vi wr => ∃ i : Nat, i ≤ n ∧ vi = .int .i64 i ∧ Hid (OwnL ByR 5 1 g (fun _ => True) wr (.slice (some ⟨g, 0, none⟩) n (n + room)) n (zfF xs n i)) ∧ Hid (Below w.heap.size w wr)) (fun vi _ => n - (intOf vi).toNat)
  case atStart => exact ⟨0, Nat.zero_le _, rfl, HO, HBZ⟩
  case round =>
    clear HO HBZ
    obtain ⟨i, hi, rfl, HO, HB⟩ := hrel
    have p0 : (0 : Int) ≤ (i : Int) := Int.natCast_nonneg _
    by_cases hlt : i < n
    · have p1 : (i : Int) < (n : Int) := by omega
      obtain ⟨ba, oa, rfl, _, hba⟩ := HR.out.addr hlt
      obtain ⟨v1, x1⟩ := by_at HR.out hlt
      replace v1 := (HB.out.cell (p := ⟨ba, oa + i, none⟩) hba).trans v1
      obtain ⟨⟨u, hu⟩, f1⟩ := OwnL.byCell HO.out hlt
      have hs := OwnL.bySet (i := i) HO.out x1
      rw [zfF_next HX.out hlt] at hs
      have HS := Lib.hid hs
      have HB2 := Lib.hid (HB.out.setCell (p := ⟨g, i, none⟩) HG.out (.int .u8 (gt xs i : Int)))
      clear hs hlt
      go_wp2_with fail
      exact ⟨⟨i + 1, by omega, by go_num, HS, HB2⟩, by simp [intOf]; omega⟩
    · have p1 : ¬ (i : Int) < (n : Int) := by omega
      obtain rfl : i = n := by omega
      go_wp2_with fail
      go_ret
      have e : zfF xs i i = xs := by unfold zfF; rw [Nat.sub_self, List.take_of_length_le (by rw [HX.out]; exact Nat.le_refl _)]; simp
      refine ⟨g, rfl, ?_, HB.out⟩
      have h9 := HO.out
      rw [e] at h9
      rw [HGE.out]
      exact h9
end
section
def leN (k v : Nat) : List Nat := (List.range k).map fun i => v / 2 ^ (8 * i) % 256
theorem leN_next (k v : Nat) : leN (k + 1) v = leN k v ++ [v / 2 ^ (8 * k) % 256] := by
  unfold leN
  rw [List.range_succ, List.map_append]; rfl
theorem leN_len (k v : Nat) : (leN k v).length = k := by unfold leN; simp
theorem leN_byt (k v : Nat) : Byt (leN k v) := fun x hx => by
  obtain ⟨i, _, rfl⟩ := List.mem_map.1 hx
  exact Nat.mod_lt _ (by omega)
set_option maxRecDepth 100000 in
set_option maxHeartbeats 4000000 in
theorem nput_any {w : World} {n c k v : Nat} {A : Option Addr} {S : Nat → Prop} {xs : List Nat} (R : RdL ByR 1 S w A n xs) (hn : n ≤ 4000) (k1 : 1 ≤ k) (k8 : k ≤ 8) (hv : v < 18446744073709551616) :
    Calls Tryz.prog 214 #[.slice A n c, .int .i64 (k : Int), .int .u64 (v : Int)] w fun e w' => ∃ A' c', e = .returned (.slice A' (n + k) c') ∧ OwnL ByR 5 1 w.heap.size (fun _ => True) w' (.slice A' (n + k) c') (n + k) (xs ++ leN k v) ∧ Below w.heap.size w w' := by
  have hgr := grown_any (c := c) (room := 8) R (by omega) (by omega)
  have q0 : (k : Int) ≤ 8 := by omega
  have q1 : ¬ (k : Int) < 1 := by omega
  have q2 : ¬ (k : Int) > 8 := by omega
  have HV := Lib.hid hv
  clear R hv
  push_cast at hgr
  go_enter Tryz.func214, Tryz.ntmps214
  go_wp2_with fail
  refine hgr.mono ?_
  rintro e w1 ⟨g, rfl, ho, hb1⟩
  have HO := Lib.hid ho
  have HB := Lib.hid hb1
  clear hgr ho hb1
  go_wp2_with fail
  go_loopw [7, 19] (fun vs vi wr => ∃ (i : Nat) (A : Option Addr) (c' : Nat), i ≤ k ∧ vi = .int .i64 i ∧ vs = .slice A (n + i) c' ∧ Hid (OwnL ByR 5 1 w.heap.size (fun _ => True) wr (.slice A (n + i) c') (n + i) (xs ++ leN i v)) ∧ Hid (Below w.heap.size w wr)) (fun _ vi _ => k - (intOf vi).toNat)
  case atStart => exact ⟨0, _, _, Nat.zero_le _, rfl, rfl, by rw [show leN 0 v = [] from rfl, List.append_nil]; exact HO, HB⟩
  case round =>
    clear HO HB
    obtain ⟨i, AO, cO, hi, rfl, rfl, HO, HB⟩ := hrel
    have p0 : (0 : Int) ≤ (i : Int) := Int.natCast_nonneg _
    by_cases hlt : i < k
    · have p1 : (i : Int) < (k : Int) := by omega
      have HN := Lib.hid (show xs ++ leN (i + 1) v = xs ++ leN i v ++ [v / 2 ^ (8 * i) % 256] by rw [leN_next, List.append_assoc])
      have hszr := HB.out.size
      have hy : (v : Int) / 2 ^ (8 * i) % 256 = ((v / 2 ^ (8 * i) % 256 : Nat) : Int) := by push_cast; rfl
      have hyl : v / 2 ^ (8 * i) % 256 < 256 := Nat.mod_lt _ (by omega)
      obtain ⟨y, hye⟩ : ∃ y, v / 2 ^ (8 * i) % 256 = y := ⟨_, rfl⟩
      rw [hye] at hy hyl HN
      clear hye
      go_wp2_with (at_builtin; go_must (refine wpList_push1 ByR.stable ByR.one sl_by (by rfl) (by rfl) (base := w.heap.size) (S := fun _ => True) (cs := #[.int .u8 (y : Int)]) (y := y) (by rfl) (by rfl) HO.out (by rfl) ⟨hyl, rfl⟩ (by unfold maxLen; omega) (by omega) hszr ?_); intro A8 c8 ug hc8 own9 hlt8 hb8 hat8; rw [← HN.out] at own9; have HO9 := Lib.hid own9; have HB9 := Lib.hid (HB.out.trans hb8); clear own9 hb8 hlt8 hat8)
      exact ⟨⟨i + 1, A8, c8, by omega, by go_num, rfl, HO9, HB9⟩, by simp [intOf]; omega⟩
    · have p1 : ¬ (i : Int) < (k : Int) := by omega
      obtain rfl : i = k := by omega
      go_wp2_with fail
      go_ret
      exact ⟨AO, cO, rfl, HO.out, HB.out⟩
end
section
def unN : List Nat → Nat
  | [] => 0
  | b :: bs => b + 256 * unN bs
theorem unN_lt : ∀ {l : List Nat}, Byt l → unN l < 2 ^ (8 * l.length)
  | [], _ => by show 0 < _; simp
  | b :: bs, h => by
    have h1 := unN_lt (l := bs) fun x hx => h x (List.mem_cons_of_mem _ hx)
    have h2 := h b (List.mem_cons_self ..)
    show b + 256 * unN bs < 2 ^ (8 * (bs.length + 1))
    rw [show 8 * (bs.length + 1) = 8 * bs.length + 8 by omega, Nat.pow_add]
    omega
theorem unN_snoc : ∀ (l : List Nat) (b : Nat), unN (l ++ [b]) = unN l + 2 ^ (8 * l.length) * b
  | [], b => by simp [unN]
  | a :: l, b => by
    show a + 256 * unN (l ++ [b]) = a + 256 * unN l + 2 ^ (8 * (l.length + 1)) * b
    rw [unN_snoc l b, show 8 * (l.length + 1) = 8 * l.length + 8 by omega, Nat.pow_add, Nat.mul_add]
    have : 256 * (2 ^ (8 * l.length) * b) = 2 ^ (8 * l.length) * 2 ^ 8 * b := by rw [Nat.mul_comm (2 ^ (8 * l.length)) (2 ^ 8), Nat.mul_assoc]
    omega
theorem or_bits64 {a c : Nat} (ha : a < 2 ^ 64) (hc : c < 2 ^ 64) : bits .or .u64 (a : Int) (c : Int) = ((a ||| c : Nat) : Int) := by
  unfold bits
  have h := Nat.or_lt_two_pow ha hc
  have e : (BitVec.ofInt 64 (a : Int) ||| BitVec.ofInt 64 (c : Int)).toNat = a ||| c := by
    rw [BitVec.toNat_or, BitVec.ofInt_natCast, BitVec.ofInt_natCast, BitVec.toNat_ofNat, BitVec.toNat_ofNat, Nat.mod_eq_of_lt ha, Nat.mod_eq_of_lt hc]
  show IntKind.u64.wrap ((BitVec.ofInt 64 (a : Int) ||| BitVec.ofInt 64 (c : Int)).toNat : Int) = _
  rw [e, IntKind.wrap_u64]
  omega
theorem get_step {ys : List Nat} {i : Nat} (hb : Byt ys) (hi : i < ys.length) (h8 : i < 8) : bits .or .u64 (unN (ys.take i) : Int) (IntKind.u64.wrap ((gt ys i : Int) * 2 ^ (8 * i))) = (unN (ys.take (i + 1)) : Int) := by
  have h1 := unN_lt (l := ys.take i) fun x hx => hb x (List.mem_of_mem_take hx)
  have hl : (ys.take i).length = i := by rw [List.length_take]; omega
  rw [hl] at h1
  have h2 := gt_lt hb i
  have h3 : 2 ^ (8 * i) * gt ys i < 2 ^ 64 := by
    have h4 : 2 ^ (8 * i) * gt ys i < 2 ^ (8 * i) * 2 ^ 8 := Nat.mul_lt_mul_of_pos_left h2 (Nat.two_pow_pos _)
    rw [← Nat.pow_add] at h4
    exact Nat.lt_of_lt_of_le h4 (Nat.pow_le_pow_right (by omega) (by omega))
  have h5 : 2 ^ (8 * i) ≤ 2 ^ 64 := Nat.pow_le_pow_right (by omega) (by omega)
  have e1 : ((gt ys i : Int) * 2 ^ (8 * i)) = ((2 ^ (8 * i) * gt ys i : Nat) : Int) := by push_cast; rw [Int.mul_comm]
  rw [e1, IntKind.wrap_u64, show (((2 ^ (8 * i) * gt ys i : Nat) : Int)) % 18446744073709551616 = ((2 ^ (8 * i) * gt ys i : Nat) : Int) by omega]
  rw [or_bits64 (by omega) h3, Nat.or_comm, ← Nat.two_pow_add_eq_or_of_lt h1, take_gt hi, unN_snoc, hl, Nat.add_comm]
set_option maxRecDepth 100000 in
set_option maxHeartbeats 4000000 in
theorem nget_any {w : World} {n c k a : Nat} {A : Option Addr} {S : Nat → Prop} {xs : List Nat} (R : RdL ByR 1 S w A n xs) (hnc : n ≤ c) (hn : n ≤ 4000) (k1 : 1 ≤ k) (k8 : k ≤ 8) (ha : a + k ≤ n) :
    Calls Tryz.prog 201 #[.slice A n c, .int .i64 (a : Int), .int .i64 (k : Int)] w fun e w' => e = .returned (.tuple #[.int .u64 (unN ((xs.drop a).take k) : Int), .int .i64 0]) ∧ w' = w := by
  obtain ⟨b, o, rfl, _, hb⟩ := R.addr (k := 0) (by omega)
  have HR := Lib.hid R
  have HX := Lib.hid R.1
  have HBY := Lib.hid (by_byt R)
  clear R
  have q0 : (k : Int) ≤ 8 := by omega
  have q1 : ¬ (k : Int) < 1 := by omega
  have q2 : ¬ (k : Int) > 8 := by omega
  have q3 : ¬ (a : Int) < 0 := by omega
  have q4 : ¬ (a : Int) > (n : Int) := by omega
  have q5 : ¬ (k : Int) > (n : Int) - (a : Int) := by omega
  have q6 : (n : Int) ≤ 4000 := by omega
  have q7 : (a : Int) ≤ 4000 := by omega
  go_enter Tryz.func201, Tryz.ntmps201
  go_wp2_with fail
  obtain ⟨ys, hys⟩ : ∃ ys, (xs.drop a).take k = ys := ⟨_, rfl⟩
  have hyl : ys.length = k := by rw [← hys, List.length_take, List.length_drop, HX.out]; omega
  have hyb : Byt ys := fun x hx => HBY.out x (by rw [← hys] at hx; exact List.mem_of_mem_drop (List.mem_of_mem_take hx))
  have hyg : ∀ i, i < k → gt ys i = gt xs (a + i) := fun i hi => by
    rw [← hys]
    unfold gt
    rw [List.getD_eq_getElem?_getD, List.getD_eq_getElem?_getD, List.getElem?_take, if_pos hi, List.getElem?_drop]
  have HYL := Lib.hid hyl
  have HYB := Lib.hid hyb
  have HYG := Lib.hid hyg
  have HYS := Lib.hid hys
  clear hys hyl hyb hyg
  go_loopw [8, 40] (fun vn vi wr => ∃ i : Nat, i ≤ k ∧ vi = .int .i64 i ∧ vn = .int .u64 (unN (ys.take i) : Nat) ∧ wr = w) (fun _ vi _ => k - (intOf vi).toNat)
  case atStart => exact ⟨0, Nat.zero_le _, rfl, rfl, rfl⟩
  case round =>
    obtain ⟨i, hi, rfl, rfl, hwr⟩ := hrel
    rw [hwr]
    clear hwr
    have p0 : (0 : Int) ≤ (i : Int) := Int.natCast_nonneg _
    by_cases hlt : i < k
    · have p1 : (i : Int) < (k : Int) := by omega
      have p2 : (i : Int) < 8 := by omega
      obtain ⟨v1, x1⟩ := by_at HR.out (k := a + i) (by omega)
      rw [← Nat.add_assoc, ← HYG.out i hlt] at v1
      rw [← HYG.out i hlt] at x1
      have HG := Lib.hid (get_step HYB.out (i := i) (by rw [HYL.out]; exact hlt) (by omega))
      go_wp2_with fail
      exact ⟨⟨i + 1, by omega, by go_num, by rw [HG.out], trivial⟩, by simp [intOf]; omega⟩
    · have p1 : ¬ (i : Int) < (k : Int) := by omega
      obtain rfl : k = i := by omega
      have HT := Lib.hid (show ys.take k = ys from List.take_of_length_le (by rw [HYL.out]; exact Nat.le_refl _))
      rw [HT.out]
      go_wp2_with fail
      go_ret2
      exact ⟨by rw [HYS.out]; rfl, rfl⟩
end
section
structure Shd where
  kind : Nat
  index : Nat
  place : Nat
  gen : Nat
  size : Nat
  body : List Nat
structure Shd.ok (x : Shd) : Prop where
  k : x.kind < 256
  i : x.index < 256
  p : x.place < 65536
  g : x.gen < 2 ^ 64
  s : x.size < 65536
  l : x.body.length = 44
  b : Byt x.body
def shV (x : Shd) : List Value := [.int .u8 (x.kind : Int), .int .u8 (x.index : Int), .int .u16 (x.place : Int), .int .u64 (x.gen : Int), .int .u16 (x.size : Int)] ++ x.body.map fun b : Nat => Value.int .u8 (b : Int)
def shC (x : Shd) : Array Value := (shV x).toArray
theorem shC_size {x : Shd} (h : x.body.length = 44) : (shC x).size = 49 := by unfold shC shV; simp [h]
theorem shC_0 (x : Shd) : (shC x)[0]? = some (.int .u8 (x.kind : Int)) := rfl
theorem shC_1 (x : Shd) : (shC x)[1]? = some (.int .u8 (x.index : Int)) := rfl
theorem shC_2 (x : Shd) : (shC x)[2]? = some (.int .u16 (x.place : Int)) := rfl
theorem shC_3 (x : Shd) : (shC x)[3]? = some (.int .u64 (x.gen : Int)) := rfl
theorem shC_4 (x : Shd) : (shC x)[4]? = some (.int .u16 (x.size : Int)) := rfl
theorem shC_b {x : Shd} {i : Nat} (h : i < x.body.length) : (shC x)[5 + i]? = some (.int .u8 (gt x.body i : Int)) := by
  unfold shC shV
  rw [List.getElem?_toArray, List.getElem?_append_right (by simp), show 5 + i - ([Value.int .u8 (x.kind : Int), .int .u8 (x.index : Int), .int .u16 (x.place : Int), .int .u64 (x.gen : Int), .int .u16 (x.size : Int)] : List Value).length = i by simp]
  rw [List.getElem?_map, gt_of_lt h]; rfl
def kindB (k : Nat) : Bool := decide (1 ≤ k ∧ k ≤ 4)
set_option maxRecDepth 100000 in
set_option maxHeartbeats 4000000 in
theorem kind_any {w : World} {k : Nat} : Calls Tryz.prog 204 #[.int .u8 (k : Int)] w fun e w' => e = .returned (.bool (kindB k)) ∧ w' = w := by
  go_enter Tryz.func204, Tryz.ntmps204
  by_cases h1 : (k : Int) ≥ 1
  · by_cases h2 : (k : Int) ≤ 4
    · have HK := Lib.hid (show kindB k = true from decide_eq_true (by omega))
      go_wp2_with fail
      go_ret
      exact ⟨congrArg (fun b => Ending.returned (.bool b)) HK.out.symm, rfl⟩
    · have HK := Lib.hid (show kindB k = false from decide_eq_false (by omega))
      go_wp2_with fail
      go_ret
      exact ⟨congrArg (fun b => Ending.returned (.bool b)) HK.out.symm, rfl⟩
  · have HK := Lib.hid (show kindB k = false from decide_eq_false (by omega))
    go_wp2_with fail
    go_ret
    exact ⟨congrArg (fun b => Ending.returned (.bool b)) HK.out.symm, rfl⟩
set_option maxRecDepth 100000 in
set_option maxHeartbeats 4000000 in
theorem head_any {w : World} {x : Shd} (hx : x.ok) : Calls Tryz.prog 213 #[.agg (shC x)] w fun e w' => ∃ h, e = .returned (.slice (some ⟨h, 0, none⟩) 6 6) ∧ w.heap.size ≤ h ∧
    BoxAt w' h #[.int .i64 1, .int .u64 (x.kind : Int), .int .i64 1, .int .u64 (x.index : Int), .int .i64 2, .int .u64 (x.place : Int), .int .i64 8, .int .u64 (x.gen : Int), .int .i64 2, .int .u64 (x.size : Int), .int .i64 2, .int .u64 0] ∧ Below w.heap.size w w' := by
  have c0 := shC_0 x
  have c1 := shC_1 x
  have c2 := shC_2 x
  have c3 := shC_3 x
  have c4 := shC_4 x
  have l0 := hx.k
  have l1 := hx.i
  have l2 := hx.p
  have l4 := hx.s
  have q0 : (0 : Int) ≤ (x.kind : Int) := Int.natCast_nonneg _
  have q1 : (0 : Int) ≤ (x.index : Int) := Int.natCast_nonneg _
  have q2 : (0 : Int) ≤ (x.place : Int) := Int.natCast_nonneg _
  have q4 : (0 : Int) ≤ (x.size : Int) := Int.natCast_nonneg _
  go_enter Tryz.func213, Tryz.ntmps213
  go_wp2_with fail
  go_ret
  refine ⟨_, rfl, by simp, ?_, ((Below.refl _ _).alloc (Nat.le_refl _) _).alloc (by rw [World.size_alloc]; omega) _⟩
  have hb := BoxAt.new (w.alloc (.cells (shC x) 193)) #[.int .i64 1, .int .u64 (x.kind : Int), .int .i64 1, .int .u64 (x.index : Int), .int .i64 2, .int .u64 (x.place : Int), .int .i64 8, .int .u64 (x.gen : Int), .int .i64 2, .int .u64 (x.size : Int), .int .i64 2, .int .u64 0] 294
  rw [World.size_alloc] at hb
  exact hb
end
section
theorem shut_loadS (a : Addr) : loadVar 193 a = shutLoad 193 a := rfl
theorem shSize : (Tryz.prog.info? 193).map (·.size) = some 49 := by kernel_rfl
theorem run_loadS {w : World} {p : Nat} {x : Shd} (hb : BoxAt w p (shC x)) (hl : x.body.length = 44) : (shutLoad 193 ⟨p, 0, none⟩).run Tryz.prog w = .ok (.agg (shC x)) w :=
  run_loadVar_mid (P := Tryz.prog) w p 0 193 (shV x) _ (fun j v hj => by rw [Nat.zero_add, hb.cell]; unfold shC; rw [List.getElem?_toArray]; exact hj) Tryz.underlying193 rfl (by rw [shSize]; simp [shV, hl])
attribute [local go_sem ↓] shut_loadS
theorem OwnL.low {w : World} {E : TypeId} {base base' n : Nat} {v : Value} {xs : List Nat} (h : OwnL ByR E 1 base (fun _ => True) w v n xs) (hb : base' ≤ base) : OwnL ByR E 1 base' (fun _ => True) w v n xs := by
  obtain ⟨css, h1, h2⟩ := h
  refine ⟨css, ⟨h1.1, ?_⟩, h2⟩
  rcases h1.2 with h3 | ⟨g, cap, cur, e, h4, h5⟩
  · exact .inl h3
  · exact .inr ⟨g, cap, cur, e, Nat.le_trans hb h4, h5⟩
def hdF (x : Shd) : List (Nat × Nat) := [(1, x.kind), (1, x.index), (2, x.place), (8, x.gen), (2, x.size), (2, 0)]
def sncU (x : Shd) (i : Nat) : List Nat := ((hdF x).take i).flatMap fun p => leN p.1 p.2
def sncH (x : Shd) : List Nat := sncU x 6
theorem sncU_next {x : Shd} {i k v : Nat} (h : (hdF x)[i]? = some (k, v)) : sncU x (i + 1) = sncU x i ++ leN k v := by
  unfold sncU
  rw [List.take_add_one, h, Option.toList_some, List.flatMap_append]; simp
theorem hd_at {x : Shd} (hx : x.ok) {w : World} {h : Nat} (hb : BoxAt w h #[.int .i64 1, .int .u64 (x.kind : Int), .int .i64 1, .int .u64 (x.index : Int), .int .i64 2, .int .u64 (x.place : Int), .int .i64 8, .int .u64 (x.gen : Int), .int .i64 2, .int .u64 (x.size : Int), .int .i64 2, .int .u64 0]) {i : Nat} (hi : i < 6) :
    ∃ k v, (hdF x)[i]? = some (k, v) ∧ 1 ≤ k ∧ k ≤ 8 ∧ v < 18446744073709551616 ∧ w.cell? ⟨h, i * 2, none⟩ = some (.int .i64 (k : Int)) ∧ w.cell? ⟨h, i * 2 + 1, none⟩ = some (.int .u64 (v : Int)) := by
  have h1 := hx.k
  have h2 := hx.i
  have h3 := hx.p
  have h4 := hx.g
  have h5 := hx.s
  obtain rfl | rfl | rfl | rfl | rfl | rfl : i = 0 ∨ i = 1 ∨ i = 2 ∨ i = 3 ∨ i = 4 ∨ i = 5 := by omega
  · exact ⟨_, _, rfl, by omega, by omega, by omega, hb.cell 0, hb.cell 1⟩
  · exact ⟨_, _, rfl, by omega, by omega, by omega, hb.cell 2, hb.cell 3⟩
  · exact ⟨_, _, rfl, by omega, by omega, by omega, hb.cell 4, hb.cell 5⟩
  · exact ⟨_, _, rfl, by omega, by omega, by omega, hb.cell 6, hb.cell 7⟩
  · exact ⟨_, _, rfl, by omega, by omega, by omega, hb.cell 8, hb.cell 9⟩
  · exact ⟨_, _, rfl, by omega, by omega, by omega, hb.cell 10, hb.cell 11⟩
theorem sncU_len (x : Shd) : ∀ i, i ≤ 6 → (sncU x i).length ≤ 48
  | 0, _ => by simp [sncU]
  | i + 1, h => by
    have : i = 0 ∨ i = 1 ∨ i = 2 ∨ i = 3 ∨ i = 4 ∨ i = 5 := by omega
    rcases this with rfl | rfl | rfl | rfl | rfl | rfl <;> simp [sncU, hdF, leN_len]
theorem sncH_len (x : Shd) : (sncH x).length = 16 := by simp [sncH, sncU, hdF, leN_len]
theorem sncH_byt (x : Shd) : Byt (sncH x) := fun y hy => by
  obtain ⟨p, _, hp⟩ := List.mem_flatMap.1 hy
  exact leN_byt _ _ y hp
/-- Sixty bytes. -/
def snc60 (x : Shd) : List Nat := sncH x ++ x.body
def sncS (x : Shd) : List Nat := snc60 x ++ leN 4 (csum (snc60 x))
theorem body_rd {x : Shd} (hx : x.ok) {w : World} {p : Nat} {t : Array Value} (hb : BoxAt w p t) (ht : t = shC x) {S : Nat → Prop} (hS : S p) : RdL ByR 1 S w (some ⟨p, 5, none⟩) 44 x.body := by
  subst ht
  refine ⟨hx.l, fun _ => ⟨p, 5, rfl, hS, hb.lt, fun i y hy => ?_⟩⟩
  have hi := (List.getElem?_eq_some_iff.1 hy).1
  refine ⟨[.int .u8 (y : Int)], rfl, ⟨hx.b y (List.mem_of_getElem? hy), rfl⟩, fun j v hj => ?_⟩
  rcases j with _ | j
  · simp at hj; subst hj
    rw [show 5 + i * 1 + 0 = 5 + i by omega, hb.cell, shC_b hi, (Option.some.inj ((gt_of_lt hi).symm.trans hy))]
  · simp at hj
set_option maxRecDepth 100000 in
set_option maxHeartbeats 8000000 in
theorem shput_any {w : World} {x : Shd} (hx : x.ok) : Calls Tryz.prog 180 #[.agg (shC x)] w fun e w' => Below w.heap.size w w' ∧
    ((kindB x.kind = false ∧ e = .returned (.tuple #[.slice none 0 0, .int .i64 2])) ∨
     (kindB x.kind = true ∧ ∃ A c, e = .returned (.tuple #[.slice A 64 c, .int .i64 0]) ∧ 64 ≤ c ∧ RdL ByR 1 (fun j => w.heap.size ≤ j) w' A 64 (sncS x))) := by
  have c0 := shC_0 x
  have hkd := fun w => kind_any (w := w) (k := x.kind)
  have b0 := BoxAt.new w (shC x) 193
  have hb0 : Below w.heap.size w (w.alloc (.cells (shC x) 193)) := (Below.refl _ _).alloc (Nat.le_refl _) _
  obtain ⟨B, hB⟩ : ∃ B, kindB x.kind = B := ⟨_, rfl⟩
  rw [hB] at hkd
  have HBB := Lib.hid hB
  clear hB
  go_enter Tryz.func180, Tryz.ntmps180
  go_wp2_with fail
  refine (hkd _).mono ?_
  rintro e w1 ⟨rfl, hw1⟩
  rw [hw1]
  clear hw1 hkd
  obtain ⟨wA, hwA⟩ : ∃ wA, w.alloc (.cells (shC x) 193) = wA := ⟨_, rfl⟩
  rw [hwA] at b0 hb0 ⊢
  clear hwA
  cases B with
  | false =>
    go_wp2_with fail
    go_ret2
    exact ⟨hb0, .inl ⟨HBB.out, rfl⟩⟩
  | true =>
    obtain ⟨p, hp⟩ : ∃ p, w.heap.size = p := ⟨_, rfl⟩
    rw [hp] at b0 ⊢
    have hlp := b0.lt
    have hld := run_loadS b0 hx.l
    have hhd := head_any (w := wA) hx
    go_wp2_with fail
    refine hhd.mono ?_
    rintro e w2 ⟨h, rfl, hh, bh, hb2⟩
    clear hhd hld
    have HX := Lib.hid hx
    have HP := Lib.hid (b0.below hb2)
    have HH := Lib.hid bh
    have HB2 := Lib.hid (hb0.trans (hb2.mono hb0.size))
    have hp2 : p + 1 ≤ w2.heap.size := by have := hb2.size; omega
    clear b0 bh hb2 hx c0
    go_wp2_with fail
    go_loopw [4, 14] (fun vs vi wr => ∃ (i n : Nat) (A : Option Addr) (c' : Nat), i ≤ 6 ∧ vi = .int .i64 i ∧ vs = .slice A n c' ∧ Hid (n = (sncU x i).length) ∧ Hid (OwnL ByR 5 1 (p + 1) (fun _ => True) wr (.slice A n c') n (sncU x i)) ∧ Hid (Below w2.heap.size w2 wr)) (fun _ vi _ => 6 - (intOf vi).toNat)
    case atStart => exact ⟨0, 0, none, 0, Nat.zero_le _, rfl, rfl, Lib.hid rfl, Lib.hid (by exact OwnL.nil_), Lib.hid (Below.refl _ _)⟩
    case round =>
      obtain ⟨i, n, AO, cO, hi, rfl, rfl, HN, HO, HB⟩ := hrel
      have p0 : (0 : Int) ≤ (i : Int) := Int.natCast_nonneg _
      by_cases hlt : i < 6
      · have p1 : (i : Int) < 6 := by omega
        obtain ⟨k, v, hkv, hk1, hk8, hv, v1, v2⟩ := hd_at HX.out (HH.out.below HB.out) hlt
        have hnx := sncU_next hkv
        have hnl := sncU_len x i hi
        obtain ⟨A', c', e, hcc, hr⟩ := HO.out.rd (S' := fun _ => True) (fun _ _ => trivial) (fun cs x hx => hx)
        injection e with e1 _ e2
        subst e1; subst e2
        have hn48 : n ≤ 48 := by rw [HN.out]; exact hnl
        have hnp := fun o => nput_any (w := wr.alloc o) (c := cO) (hr.alloc ByR.stable o) (by omega) hk1 hk8 hv
        have HNX := Lib.hid hnx
        have hszr := HB.out.size
        have hlk : (leN k v).length = k := leN_len k v
        have HLK := Lib.hid hlk
        clear hkv hr hnx hnl hv hlk
        go_wp2_with fail
        refine (hnp _).mono ?_
        clear hnp
        rintro e w5 ⟨A5, c5, rfl, ho5, hb5⟩
        rw [World.size_alloc] at ho5 hb5
        have ho6 := OwnL.low ho5 (base' := p + 1) (by omega)
        rw [← HNX.out] at ho6
        have HO6 := Lib.hid ho6
        have hb6 : Below w2.heap.size w2 w5 := HB.out.trans (((Below.refl wr.heap.size wr).alloc (Nat.le_refl _) (.cells #[.int .i64 (k : Int), .int .u64 (v : Int)] 294)).trans (hb5.mono (by omega)) |>.mono HB.out.size)
        have HB6 := Lib.hid hb6
        clear ho5 ho6 hb5 hb6
        go_wp2_with fail
        exact ⟨⟨i + 1, n + k, A5, c5, by omega, by go_num, rfl, Lib.hid (by rw [HNX.out, List.length_append, HLK.out, ← HN.out]), HO6, HB6⟩, by simp [intOf]; omega⟩
      · obtain rfl : i = 6 := by omega
        have hbp := HP.out.below HB.out
        have hbr := body_rd HX.out hbp rfl (S := fun _ => True) trivial
        have hn16 : n = 16 := by rw [HN.out]; exact sncH_len x
        subst hn16
        have HBR := Lib.hid hbr
        have hszr := HB.out.size
        have HBP := Lib.hid hbp
        clear hbr hbp
        go_wp2_with (at_builtin; go_must (refine wpList_appL ByR.stable ByR.one sl_by (by rfl) (by rfl) (base := p + 1) (S := fun _ => True) (by rfl) HO.out (by rfl) HBR.out (fun _ _ h => h) (by unfold maxLen; omega) (by omega) (by omega) ?_); intro A7 c7 w7 hc7 hown7 hg7 hat7; have hb7 : Below (p + 1) wr w7 := (Below.refl _ _).grown hg7 (by omega) (fun k hk => (HO.out.lt k hk).1); have HO7 := Lib.hid hown7; have HB7 := Lib.hid hb7; clear hown7 hg7 hat7 hb7)
        obtain ⟨A', c', e, hcc, hr⟩ := HO7.out.rd (S' := fun _ => True) (fun _ _ => trivial) (fun cs x hx => hx)
        injection e with e1 _ e2
        subst e1; subst e2
        have hby := by_byt hr
        have hcs := csum_any (cp := c7) hr (by omega)
        have hcl := csum_lt hby
        obtain ⟨y, hy⟩ : ∃ y, csum (sncU x 6 ++ x.body) = y := ⟨_, rfl⟩
        rw [hy] at hcs hcl
        have HY := Lib.hid hy
        have hnp := nput_any (c := c7) (k := 4) (v := y) hr (by omega) (by omega) (by omega) (by omega)
        have q0 : (0 : Int) ≤ (y : Int) := Int.natCast_nonneg _
        have q1 : (y : Int) < 4294967296 := by omega
        have hs7 : wr.heap.size ≤ w7.heap.size := HB7.out.size
        clear hy hr hby hcl
        push_cast at hnp
        go_wp2_with fail
        refine hcs.mono ?_
        clear hcs
        rintro e w9 ⟨rfl, hw9⟩
        rw [hw9]
        clear hw9
        go_wp2_with fail
        refine hnp.mono ?_
        clear hnp
        rintro e w9 ⟨A9, c9, rfl, ho9, hb9⟩
        obtain ⟨A', c', e, hcc, hr⟩ := ho9.rd (S' := fun j => p ≤ j) (fun j hj => by omega) (fun cs x hx => hx)
        injection e with e1 _ e2
        subst e1; subst e2
        have HR9 := Lib.hid hr
        have HC9 := Lib.hid hcc
        have hbw : Below w.heap.size w w9 := HB2.out.trans (((HB.out.mono HB2.out.size).trans (HB7.out.mono (by omega))).trans (hb9.mono (by omega)))
        have HBW := Lib.hid hbw
        clear hr hcc ho9 hb9 hbw
        go_wp2_with fail
        go_ret2
        refine ⟨HBW.out, .inr ⟨HBB.out, A9, c9, rfl, HC9.out, ?_⟩⟩
        have h9 := HR9.out
        rw [← HY.out] at h9
        rw [hp]
        exact h9
end
section
theorem okSum_un {xs : List Nat} (hl : xs.length = 64) (hb : Byt xs) : okSum xs ↔ unN ((xs.drop 60).take 4) = csum (xs.take 60) := by
  have hd : (xs.drop 60).length = 4 := by rw [List.length_drop, hl]
  rw [List.take_of_length_le (by omega)]
  have hbd : ∀ x ∈ xs.drop 60, x < 256 := fun x hx => hb x (List.mem_of_mem_drop hx)
  obtain ⟨a, b, c, d, hs⟩ : ∃ a b c d, xs.drop 60 = [a, b, c, d] := by
    match h : xs.drop 60, hd with
    | [a, b, c, d], _ => exact ⟨a, b, c, d, rfl⟩
  unfold okSum
  rw [hs] at hbd ⊢
  have h1 := hbd a (by simp)
  have h2 := hbd b (by simp)
  have h3 := hbd c (by simp)
  have h4 := hbd d (by simp)
  have e : unN [a, b, c, d] = un4 [a, b, c, d] := by rw [un4_eq]; simp [unN]
  have hc := csum_lt (l := xs.take 60) fun x hx => hb x (List.mem_of_mem_take hx)
  rw [e]
  constructor
  · intro h
    have := un_le4 hc
    rw [h] at this
    exact this
  · intro h
    rw [← h]
    exact le_un4 h1 h2 h3 h4
set_option maxRecDepth 100000 in
set_option maxHeartbeats 4000000 in
theorem take_any {w : World} {B T a k c : Nat} {A : Option Addr} {S : Nat → Prop} {xs : List Nat} (hB : BoxAt w B #[.slice A 64 c]) (hT : BoxAt w T #[.int .i64 (a : Int)]) (R : RdL ByR 1 S w A 64 xs) (hc : 64 ≤ c) (k1 : 1 ≤ k) (k8 : k ≤ 8) (ha : a + k ≤ 64) :
    Calls Tryz.prog 234 #[.int .i64 (k : Int), .pointer (some ⟨B, 0, none⟩), .pointer (some ⟨T, 0, none⟩)] w fun e w' => e = .returned (.int .u64 (unN ((xs.drop a).take k) : Int)) ∧ w' = w.setCell ⟨T, 0, none⟩ (.int .i64 ((a + k : Nat) : Int)) := by
  have hg := nget_any R hc (by omega) k1 k8 ha
  have c0 := hB.cell 0
  have c1 := hT.cell 0
  have f1 := hT.frozen 0
  have q0 : (a : Int) ≤ 64 := by omega
  have q1 : (k : Int) ≤ 8 := by omega
  have q2 : (0 : Int) ≤ (a : Int) := Int.natCast_nonneg _
  have q3 : (0 : Int) ≤ (k : Int) := Int.natCast_nonneg _
  obtain ⟨y, hy⟩ : ∃ y, unN ((xs.drop a).take k) = y := ⟨_, rfl⟩
  rw [hy] at hg ⊢
  clear hy hB hT R
  go_enter Tryz.func234, Tryz.ntmps234
  go_wp2_with fail
  refine hg.mono ?_
  clear hg
  rintro e w9 ⟨rfl, hw9⟩
  rw [hw9]
  clear hw9
  go_wp2_with fail
  go_ret
  exact ⟨rfl, by push_cast; rfl⟩
end
section
def z44 : List Nat := List.replicate 44 0
theorem z44_len : z44.length = 44 := by decide
theorem z44_byt : Byt z44 := fun x hx => by rw [(List.mem_replicate.1 hx).2]; omega
def sh0 : Shd := ⟨0, 0, 0, 0, 0, z44⟩
theorem sh0_ok : sh0.ok := ⟨by decide, by decide, by decide, by decide, by decide, z44_len, z44_byt⟩
theorem shInfo : (Tryz.prog.info? 193).map (fun i => (i.zero, i.size, i.bytes)) = some (some (.agg (shC sh0)), 49, 64) := by kernel_rfl
theorem shut_zeroS : zeroValue 193 = shutZero 193 := rfl
theorem run_zeroS (w : World) : (shutZero 193).run Tryz.prog w = .ok (.agg (shC sh0)) w := by
  obtain ⟨i2, hi2, hz2, hs2, hby2⟩ := info_parts shInfo
  simp [shutZero, zeroValue, typeInfo, hi2, hz2]
theorem built0 : Tryz.prog.built 193 [] = some (shC sh0) := by kernel_rfl
theorem built2 (a b : Nat) : Tryz.prog.built 193 [(0, .int .u8 (a : Int)), (1, .int .u8 (b : Int))] = some (shC ⟨a, b, 0, 0, 0, z44⟩) := by kernel_rfl
theorem built5 (a b c d e : Nat) : Tryz.prog.built 193 [(0, .int .u8 (a : Int)), (1, .int .u8 (b : Int)), (2, .int .u16 (c : Int)), (3, .int .u64 (d : Int)), (4, .int .u16 (e : Int))] = some (shC ⟨a, b, c, d, e, z44⟩) := by kernel_rfl
theorem shut_buildS (parts : Array (Nat × Value)) : Instr.build 193 parts = shutBuild 193 parts := rfl
theorem run_build0 (w : World) : (shutBuild 193 #[]).run Tryz.prog w = .ok (.agg (shC sh0)) w := run_build w _ _ _ built0
theorem run_build2 (a b : Nat) (w : World) : (shutBuild 193 #[(0, .int .u8 (a : Int)), (1, .int .u8 (b : Int))]).run Tryz.prog w = .ok (.agg (shC ⟨a, b, 0, 0, 0, z44⟩)) w := run_build w _ _ _ (built2 a b)
theorem run_build5 (a b c d e : Nat) (w : World) : (shutBuild 193 #[(0, .int .u8 (a : Int)), (1, .int .u8 (b : Int)), (2, .int .u16 (c : Int)), (3, .int .u64 (d : Int)), (4, .int .u16 (e : Int))]).run Tryz.prog w = .ok (.agg (shC ⟨a, b, c, d, e, z44⟩)) w := run_build w _ _ _ (built5 a b c d e)
theorem shut_storeS (a : Addr) (v : Value) : storeVar 193 a v = shutStore 193 a v := rfl
theorem shV_one (x : Shd) : ∀ u ∈ shV x, u.oneCell' = true := by
  intro u hu
  unfold shV at hu
  rcases List.mem_append.1 hu with h | h
  · simp at h
    rcases h with rfl | rfl | rfl | rfl | rfl <;> rfl
  · obtain ⟨b, _, rfl⟩ := List.mem_map.1 h
    rfl
theorem shV_len {x : Shd} (h : x.body.length = 44) : (shV x).length = 49 := by unfold shV; simp [h]
/-- A shard stored over another one. -/
theorem run_storeS {w : World} {p : Nat} {x y : Shd} (hb : BoxAt w p (shC x)) (hx : x.body.length = 44) (hy : y.body.length = 44) : (shutStore 193 ⟨p, 0, none⟩ (.agg (shC y))).run Tryz.prog w = .ok () (w.setCells p 0 (shV y)) := by
  have h := run_storeVar_mid (P := Tryz.prog) w p 0 193 (shC y) (fun j hj => ?_) (by rw [shSize, shC_size hy]) (Array.all_eq_true_iff_forall_mem.2 (fun v hv => shV_one y v (by unfold shC at hv; simpa using hv)))
  · exact h
  · rw [shC_size hy] at hj
    rw [Nat.zero_add]
    refine ⟨?_, by simp [hb.frozen j]⟩
    rw [hb.cell, Array.getElem?_eq_getElem (by rw [shC_size hx]; exact hj)]; rfl
theorem shC_set {w : World} {p : Nat} {x y : Shd} (hb : BoxAt w p (shC x)) (hx : x.body.length = 44) (hy : y.body.length = 44) : BoxAt (w.setCells p 0 (shV y)) p (shC y) := BoxAt.setAll hb (shV y) (by rw [shV_len hy, shC_size hx])
theorem results_cellS {P : Program} {fn : Func} {p u : Tmp} {ty : TypeId} (h : fn.results = #[.cell p ty, .tmp u]) (tmps : Array Value) (w : World) (a : Addr) (v r : Value) (hp : tmps.getD p undef = .pointer (some a)) (hr : tmps.getD u undef = r) (hl : (loadVar ty a).run P w = .ok v w) :
    (results fn tmps).run P w = .ok (.tuple #[v, r]) w := by
  have hp' : tmps[p]?.getD undef = .pointer (some a) := by simpa using hp
  have hr' : tmps[u]?.getD undef = r := by simpa using hr
  simp [results, h, hp', hr', asAddr, hl]
theorem shC_23 (a b c d : Nat) (z : List Nat) : ((shC ⟨a, b, 0, 0, 0, z⟩).setIfInBounds 2 (.int .u16 (c : Int))).setIfInBounds 3 (.int .u64 (d : Int)) = shC ⟨a, b, c, d, 0, z⟩ := by unfold shC shV; simp
theorem shC_44 (a b c d e : Nat) (z : List Nat) : (shC ⟨a, b, c, d, 0, z⟩).setIfInBounds 4 (.int .u16 (e : Int)) = shC ⟨a, b, c, d, e, z⟩ := by unfold shC shV; simp
/-- The bytes of one set anew. -/
theorem shC_body {w : World} {q a b c d e : Nat} {z z' : List Nat} (hb : BoxAt w q (shC ⟨a, b, c, d, e, z⟩)) (hz : z.length = 44) (hz' : z'.length = 44) : BoxAt (w.setCells q 5 (z'.map fun b : Nat => Value.int .u8 (b : Int))) q (shC ⟨a, b, c, d, e, z'⟩) := by
  have gen : ∀ (vs : List Value) (pre cs : List Value) (w : World), vs.length = cs.length → BoxAt w q (pre ++ cs).toArray → BoxAt (w.setCells q pre.length vs) q (pre ++ vs).toArray := by
    intro vs
    induction vs with
    | nil => intro pre cs w h hb; rw [List.length_eq_zero_iff.1 h.symm] at hb; exact hb
    | cons v vs ih =>
      intro pre cs w h hb
      match cs, h with
      | c :: cs, h =>
        have h1 := hb.set pre.length v
        have e : (pre ++ c :: cs).toArray.setIfInBounds pre.length v = ((pre ++ [v]) ++ cs).toArray := by simp
        rw [e] at h1
        have h2 := ih (pre ++ [v]) cs _ (by simpa using h) h1
        simpa [World.setCells] using h2
  exact gen (z'.map fun b : Nat => Value.int .u8 (b : Int)) [.int .u8 (a : Int), .int .u8 (b : Int), .int .u16 (c : Int), .int .u64 (d : Int), .int .u16 (e : Int)] (z.map fun b : Nat => Value.int .u8 (b : Int)) w (by simp [hz, hz']) hb
theorem bodyRow : Tryz.prog.underlying 191 = some (.array 44 5) := by kernel_rfl
theorem bodySize : (Tryz.prog.info? 191).map (·.size) = some 44 := by kernel_rfl
theorem shut_loadB (a : Addr) : loadVar 191 a = shutLoad 191 a := rfl
theorem shut_storeB (a : Addr) (v : Value) : storeVar 191 a v = shutStore 191 a v := rfl
theorem by_range {S : Nat → Prop} {w : World} {b o : Nat} {bs : List Nat} {n : Nat} (h : RdL ByR 1 S w (some ⟨b, o, none⟩) n bs) : w.rangeAt b o (bs.map fun b : Nat => Value.int .u8 (b : Int)) := by
  intro j v hj
  have hjl := (List.getElem?_eq_some_iff.1 hj).1
  rw [List.length_map] at hjl
  have hl := h.1
  have h1 := (by_at h (k := j) (by omega)).1
  rw [h1, ← hj, List.getElem?_map, gt_of_lt hjl]; rfl
theorem run_loadB {S : Nat → Prop} {w : World} {b o : Nat} {bs : List Nat} (h : RdL ByR 1 S w (some ⟨b, o, none⟩) 44 bs) : (shutLoad 191 ⟨b, o, none⟩).run Tryz.prog w = .ok (.agg (bs.map fun b : Nat => Value.int .u8 (b : Int)).toArray) w :=
  run_loadVar_mid (P := Tryz.prog) w b o _ _ _ (by_range h) bodyRow rfl (by rw [bodySize, List.length_map, h.1])
theorem run_storeB {w : World} {q : Nat} {x : Shd} {bs : List Nat} (hb : BoxAt w q (shC x)) (hx : x.body.length = 44) (hl : bs.length = 44) : (shutStore 191 ⟨q, 5, none⟩ (.agg (bs.map fun b : Nat => Value.int .u8 (b : Int)).toArray)).run Tryz.prog w = .ok () (w.setCells q 5 (bs.map fun b : Nat => Value.int .u8 (b : Int))) := by
  have h := run_storeVar_mid (P := Tryz.prog) w q 5 191 (bs.map fun b : Nat => Value.int .u8 (b : Int)).toArray (fun j hj => ?_) (by rw [bodySize]; simp [hl]) (Array.all_eq_true_iff_forall_mem.2 (fun v hv => by
    obtain ⟨b, _, rfl⟩ := List.mem_map.1 (by simpa using hv)
    rfl))
  · exact h
  · have hj2 : j < 44 := by simpa [hl] using hj
    refine ⟨?_, by simp [hb.frozen (5 + j)]⟩
    rw [hb.cell, Array.getElem?_eq_getElem (by rw [shC_size hx]; omega)]; rfl
end
section
theorem setS_below {B : Nat} {w w' : World} (h : Below B w w') {p : Nat} (hp : B ≤ p) (vs : List Value) : Below B w (w'.setCells p 0 vs) := by
  have gen : ∀ (vs : List Value) (o : Nat) (w' : World), Below B w w' → Below B w (w'.setCells p o vs) := by
    intro vs
    induction vs with
    | nil => intro o w' h; exact h
    | cons v vs ih => intro o w' h; exact ih (o + 1) _ (h.setCell (p := ⟨p, o, none⟩) hp v)
  exact gen vs 0 w' h
def decS (xs : List Nat) : Shd := ⟨unN ((xs.drop 0).take 1), unN ((xs.drop 1).take 1), unN ((xs.drop 2).take 2), unN ((xs.drop 4).take 8), unN ((xs.drop 12).take 2), (xs.drop 16).take 44⟩
def frmB (xs : List Nat) : Bool := kindB (unN ((xs.drop 0).take 1)) && decide (unN ((xs.drop 14).take 2) = 0)
attribute [local go_sem ↓] shut_loadS shut_zeroS shut_buildS shut_storeS shut_loadB shut_storeB
attribute [local go_sem] run_zeroS run_build0 run_build2
set_option maxRecDepth 100000 in
set_option maxHeartbeats 4000000 in
theorem taker_any {w : World} {A : Option Addr} {n c : Nat} : Calls Tryz.prog 203 #[.slice A n c] w fun e w' => e = .returned (.func (.func 234) #[] #[.pointer (some ⟨w.heap.size, 0, none⟩), .pointer (some ⟨w.heap.size + 1, 0, none⟩)]) ∧
    w' = (w.alloc (.cells #[.slice A n c] 68)).alloc (.cells #[.int .i64 0] 3) := by
  go_enter Tryz.func203, Tryz.ntmps203
  go_wp2_with fail
  go_ret
  exact ⟨rfl, rfl⟩
set_option maxRecDepth 100000 in
set_option maxHeartbeats 8000000 in
theorem shget_any {w : World} {c : Nat} {A : Option Addr} {S : Nat → Prop} {xs : List Nat} (R : RdL ByR 1 S w A 64 xs) (hc : 64 ≤ c) :
    Calls Tryz.prog 170 #[.slice A 64 c] w fun e w' => Below w.heap.size w w' ∧
    ((¬ okSum xs ∧ e = .returned (.tuple #[.agg (shC sh0), .int .i64 4])) ∨
     (okSum xs ∧ frmB xs = false ∧ e = .returned (.tuple #[.agg (shC sh0), .int .i64 3])) ∨
     (okSum xs ∧ frmB xs = true ∧ e = .returned (.tuple #[.agg (shC (decS xs)), .int .i64 0]))) := by
  have HR := Lib.hid R
  have HX := Lib.hid R.1
  have HBY := Lib.hid (by_byt R)
  clear R
  have q9 : ((64 : Int) != 64) = false := by decide
  go_enter Tryz.func170, Tryz.ntmps170
  go_wp2_with fail
  have b0 := BoxAt.new w (shC sh0) 193
  have hb0 : Below w.heap.size w (w.alloc (.cells (shC sh0) 193)) := (Below.refl _ _).alloc (Nat.le_refl _) _
  obtain ⟨wA, hwA⟩ : ∃ wA, w.alloc (.cells (shC sh0) 193) = wA := ⟨_, rfl⟩
  rw [hwA] at b0 hb0 ⊢
  clear hwA
  obtain ⟨p, hp⟩ : ∃ p, w.heap.size = p := ⟨_, rfl⟩
  rw [hp] at b0 ⊢
  have hlp := b0.lt
  have hrA := HR.out.below ByR.stable hb0
  have hn4 := nget_any (c := c) (a := 60) (k := 4) hrA hc (by omega) (by omega) (by omega) (by omega)
  have hcs := csum_any (cp := c) (RdL.take hrA (k := 60) (by omega)) (by omega)
  have hoi := okSum_un HX.out HBY.out
  have hl4 := unN_lt (l := (xs.drop 60).take 4) fun x hx => HBY.out x (List.mem_of_mem_drop (List.mem_of_mem_take hx))
  rw [show ((xs.drop 60).take 4).length = 4 by rw [List.length_take, List.length_drop, HX.out]; rfl] at hl4
  have hcl := csum_lt (l := xs.take 60) fun x hx => HBY.out x (List.mem_of_mem_take hx)
  obtain ⟨n4, hn4e⟩ : ∃ y, unN ((xs.drop 60).take 4) = y := ⟨_, rfl⟩
  obtain ⟨cs, hcse⟩ : ∃ y, csum (xs.take 60) = y := ⟨_, rfl⟩
  rw [hn4e] at hn4 hoi hl4
  rw [hcse] at hcs hoi hcl
  have q0 : (0 : Int) ≤ (n4 : Int) := Int.natCast_nonneg _
  have q1 : (n4 : Int) < 4294967296 := by omega
  have q2 : (n4 : Int) % 4294967296 = (n4 : Int) := by omega
  push_cast at hn4
  have hsl := fun w => piece_pre sl_by (A := A) (N := 64) (c := c) (k := 60) (by omega) w
  push_cast at hsl
  refine hn4.mono ?_
  clear hn4
  rintro e w1 ⟨rfl, hw1⟩
  rw [hw1]
  clear hw1
  go_wp2_with fail
  refine hcs.mono ?_
  clear hcs
  rintro e w1 ⟨rfl, hw1⟩
  rw [hw1]
  clear hw1
  by_cases hok : n4 = cs
  · have q3 : ((n4 : Int) != (cs : Int)) = false := by rw [hok]; simp
    have HOK := Lib.hid (hoi.2 hok)
    clear hok hoi hn4e hcse hl4 hcl
    go_wp2_with fail
    refine taker_any.mono ?_
    rintro e w1 ⟨rfl, hw1⟩
    have bB := (BoxAt.new wA #[.slice A 64 c] 68).alloc (.cells #[.int .i64 0] 3)
    have bT := BoxAt.new (wA.alloc (.cells #[.slice A 64 c] 68)) #[.int .i64 ((0 : Nat) : Int)] 3
    rw [World.size_alloc] at bT
    have bP := (b0.alloc (.cells #[.slice A 64 c] 68)).alloc (.cells #[.int .i64 0] 3)
    have hb1 := (hb0.alloc (by omega) (.cells #[.slice A 64 c] 68)).alloc (by rw [World.size_alloc]; omega) (.cells #[.int .i64 0] 3)
    change BoxAt ((wA.alloc (.cells #[.slice A 64 c] 68)).alloc (.cells #[.int .i64 0] 3)) _ _ at bT
    rw [← hw1] at bB bT bP hb1
    clear hw1
    obtain ⟨B, hBe⟩ : ∃ B, wA.heap.size = B := ⟨_, rfl⟩
    rw [hBe] at bB bT ⊢
    have hBp : p < B := by omega
    have t1 := take_any (k := 1) (a := 0) bB bT (HR.out.below ByR.stable hb1) hc (by omega) (by omega) (by omega)
    obtain ⟨u1, hu1⟩ : ∃ u, unN ((xs.drop 0).take 1) = u := ⟨_, rfl⟩
    have l1 : u1 < 2 ^ (8 * 1) := by
      have h := unN_lt (l := (xs.drop 0).take 1) fun x hx => HBY.out x (List.mem_of_mem_drop (List.mem_of_mem_take hx))
      rw [show ((xs.drop 0).take 1).length = 1 by rw [List.length_take, List.length_drop, HX.out]; rfl, hu1] at h
      exact h
    have U1 := Lib.hid hu1
    rw [hu1] at t1
    clear hu1
    have m1 : (u1 : Int) % 256 = (u1 : Int) := by omega
    have z1 : (0 : Int) ≤ (u1 : Int) := Int.natCast_nonneg _
    go_wp2_with fail
    refine t1.mono ?_
    clear t1
    rintro e w2 ⟨rfl, hw⟩
    replace bB := bB.set_other (p := ⟨B + 1, 0, none⟩) (by show B ≠ B + 1; omega) (.int .i64 ((0 + 1 : Nat) : Int))
    replace bT := bT.set 0 (.int .i64 ((0 + 1 : Nat) : Int))
    replace bP := bP.set_other (p := ⟨B + 1, 0, none⟩) (by show p ≠ B + 1; omega) (.int .i64 ((0 + 1 : Nat) : Int))
    replace hb1 := hb1.setCell (p := ⟨B + 1, 0, none⟩) (by show w.heap.size ≤ B + 1; omega) (.int .i64 ((0 + 1 : Nat) : Int))
    rw [← hw] at bB bT bP hb1
    change BoxAt _ (B + 1) #[.int .i64 ((0 + 1 : Nat) : Int)] at bT
    clear hw
    have t2 := take_any (k := 1) (a := 1) bB bT (HR.out.below ByR.stable hb1) hc (by omega) (by omega) (by omega)
    obtain ⟨u2, hu2⟩ : ∃ u, unN ((xs.drop 1).take 1) = u := ⟨_, rfl⟩
    have l2 : u2 < 2 ^ (8 * 1) := by
      have h := unN_lt (l := (xs.drop 1).take 1) fun x hx => HBY.out x (List.mem_of_mem_drop (List.mem_of_mem_take hx))
      rw [show ((xs.drop 1).take 1).length = 1 by rw [List.length_take, List.length_drop, HX.out]; rfl, hu2] at h
      exact h
    have U2 := Lib.hid hu2
    rw [hu2] at t2
    clear hu2
    have m2 : (u2 : Int) % 256 = (u2 : Int) := by omega
    have z2 : (0 : Int) ≤ (u2 : Int) := Int.natCast_nonneg _
    go_wp2_with fail
    refine t2.mono ?_
    clear t2
    rintro e w3 ⟨rfl, hw⟩
    replace bB := bB.set_other (p := ⟨B + 1, 0, none⟩) (by show B ≠ B + 1; omega) (.int .i64 ((1 + 1 : Nat) : Int))
    replace bT := bT.set 0 (.int .i64 ((1 + 1 : Nat) : Int))
    replace bP := bP.set_other (p := ⟨B + 1, 0, none⟩) (by show p ≠ B + 1; omega) (.int .i64 ((1 + 1 : Nat) : Int))
    replace hb1 := hb1.setCell (p := ⟨B + 1, 0, none⟩) (by show w.heap.size ≤ B + 1; omega) (.int .i64 ((1 + 1 : Nat) : Int))
    rw [← hw] at bB bT bP hb1
    change BoxAt _ (B + 1) #[.int .i64 ((1 + 1 : Nat) : Int)] at bT
    clear hw
    have hst4 := run_storeS (y := ⟨u1, u2, 0, 0, 0, z44⟩) (BoxAt.new w3 (shC sh0) 193) sh0_ok.l z44_len
    have bQ := shC_set (y := ⟨u1, u2, 0, 0, 0, z44⟩) (BoxAt.new w3 (shC sh0) 193) sh0_ok.l z44_len
    have lB := bB.lt
    have lT := bT.lt
    replace bB := (bB.alloc (.cells (shC sh0) 193)).keep (setCells_other _ w3.heap.size 0 B (shV ⟨u1, u2, 0, 0, 0, z44⟩) (by omega))
    replace bT := (bT.alloc (.cells (shC sh0) 193)).keep (setCells_other _ w3.heap.size 0 (B + 1) (shV ⟨u1, u2, 0, 0, 0, z44⟩) (by omega))
    replace bP := (bP.alloc (.cells (shC sh0) 193)).keep (setCells_other _ w3.heap.size 0 p (shV ⟨u1, u2, 0, 0, 0, z44⟩) (by omega))
    have hsz3 := hb1.size
    replace hb1 := setS_below (hb1.alloc hsz3 (.cells (shC sh0) 193)) (p := w3.heap.size) hsz3 (shV ⟨u1, u2, 0, 0, 0, z44⟩)
    obtain ⟨W4, hW4⟩ : ∃ W, (w3.alloc (.cells (shC sh0) 193)).setCells w3.heap.size 0 (shV ⟨u1, u2, 0, 0, 0, z44⟩) = W := ⟨_, rfl⟩
    rw [hW4] at hst4 bB bT bP bQ hb1
    obtain ⟨q, hq⟩ : ∃ q, w3.heap.size = q := ⟨_, rfl⟩
    have HST := Lib.hid hq
    rw [hq] at bQ hst4
    have hqB : B + 1 < q := by omega
    have t3 := take_any (k := 2) (a := 2) bB bT (HR.out.below ByR.stable hb1) hc (by omega) (by omega) (by omega)
    obtain ⟨u3, hu3⟩ : ∃ u, unN ((xs.drop 2).take 2) = u := ⟨_, rfl⟩
    have l3 : u3 < 2 ^ (8 * 2) := by
      have h := unN_lt (l := (xs.drop 2).take 2) fun x hx => HBY.out x (List.mem_of_mem_drop (List.mem_of_mem_take hx))
      rw [show ((xs.drop 2).take 2).length = 2 by rw [List.length_take, List.length_drop, HX.out]; rfl, hu3] at h
      exact h
    have U3 := Lib.hid hu3
    rw [hu3] at t3
    clear hu3
    have m3 : (u3 : Int) % 65536 = (u3 : Int) := by omega
    have z3 : (0 : Int) ≤ (u3 : Int) := Int.natCast_nonneg _
    go_wp2_with fail
    clear hst4 hW4
    refine t3.mono ?_
    clear t3
    rintro e w4 ⟨rfl, hw⟩
    replace bB := bB.set_other (p := ⟨B + 1, 0, none⟩) (by show B ≠ B + 1; omega) (.int .i64 ((2 + 2 : Nat) : Int))
    replace bT := bT.set 0 (.int .i64 ((2 + 2 : Nat) : Int))
    replace bP := bP.set_other (p := ⟨B + 1, 0, none⟩) (by show p ≠ B + 1; omega) (.int .i64 ((2 + 2 : Nat) : Int))
    replace bQ := bQ.set_other (p := ⟨B + 1, 0, none⟩) (by show q ≠ B + 1; omega) (.int .i64 ((2 + 2 : Nat) : Int))
    replace hb1 := hb1.setCell (p := ⟨B + 1, 0, none⟩) (by show w.heap.size ≤ B + 1; omega) (.int .i64 ((2 + 2 : Nat) : Int))
    rw [← hw] at bB bT bP bQ hb1
    change BoxAt _ (B + 1) #[.int .i64 ((2 + 2 : Nat) : Int)] at bT
    clear hw
    have t4 := take_any (k := 8) (a := 4) bB bT (HR.out.below ByR.stable hb1) hc (by omega) (by omega) (by omega)
    obtain ⟨u4, hu4⟩ : ∃ u, unN ((xs.drop 4).take 8) = u := ⟨_, rfl⟩
    have l4 : u4 < 2 ^ (8 * 8) := by
      have h := unN_lt (l := (xs.drop 4).take 8) fun x hx => HBY.out x (List.mem_of_mem_drop (List.mem_of_mem_take hx))
      rw [show ((xs.drop 4).take 8).length = 8 by rw [List.length_take, List.length_drop, HX.out]; rfl, hu4] at h
      exact h
    have U4 := Lib.hid hu4
    have L4 := Lib.hid l4
    clear l4
    rw [hu4] at t4
    clear hu4
    go_wp2_with fail
    refine t4.mono ?_
    clear t4
    rintro e w5 ⟨rfl, hw⟩
    replace bB := bB.set_other (p := ⟨B + 1, 0, none⟩) (by show B ≠ B + 1; omega) (.int .i64 ((4 + 8 : Nat) : Int))
    replace bT := bT.set 0 (.int .i64 ((4 + 8 : Nat) : Int))
    replace bP := bP.set_other (p := ⟨B + 1, 0, none⟩) (by show p ≠ B + 1; omega) (.int .i64 ((4 + 8 : Nat) : Int))
    replace bQ := bQ.set_other (p := ⟨B + 1, 0, none⟩) (by show q ≠ B + 1; omega) (.int .i64 ((4 + 8 : Nat) : Int))
    replace hb1 := hb1.setCell (p := ⟨B + 1, 0, none⟩) (by show w.heap.size ≤ B + 1; omega) (.int .i64 ((4 + 8 : Nat) : Int))
    rw [← hw] at bB bT bP bQ hb1
    change BoxAt _ (B + 1) #[.int .i64 ((4 + 8 : Nat) : Int)] at bT
    clear hw
    have c2 := (bQ.cell 2).trans (shC_2 _)
    have c3 := (bQ.cell 3).trans (shC_3 _)
    have f2 := bQ.frozen 2
    have f3 := bQ.frozen 3
    replace bB := bB.set_other (p := ⟨q, 2, none⟩) (by show B ≠ q; omega) (.int .u16 (u3 : Int))
    replace bT := bT.set_other (p := ⟨q, 2, none⟩) (by show B + 1 ≠ q; omega) (.int .u16 (u3 : Int))
    replace bP := bP.set_other (p := ⟨q, 2, none⟩) (by show p ≠ q; omega) (.int .u16 (u3 : Int))
    replace bQ := bQ.set 2 (.int .u16 (u3 : Int))
    replace hb1 := hb1.setCell (p := ⟨q, 2, none⟩) (by show w.heap.size ≤ q; omega) (.int .u16 (u3 : Int))
    replace bB := bB.set_other (p := ⟨q, 3, none⟩) (by show B ≠ q; omega) (.int .u64 (u4 : Int))
    replace bT := bT.set_other (p := ⟨q, 3, none⟩) (by show B + 1 ≠ q; omega) (.int .u64 (u4 : Int))
    replace bP := bP.set_other (p := ⟨q, 3, none⟩) (by show p ≠ q; omega) (.int .u64 (u4 : Int))
    replace bQ := bQ.set 3 (.int .u64 (u4 : Int))
    replace hb1 := hb1.setCell (p := ⟨q, 3, none⟩) (by show w.heap.size ≤ q; omega) (.int .u64 (u4 : Int))
    rw [shC_23] at bQ
    obtain ⟨W6, hW6⟩ : ∃ W, (w5.setCell ⟨q, 2, none⟩ (.int .u16 (u3 : Int))).setCell ⟨q, 3, none⟩ (.int .u64 (u4 : Int)) = W := ⟨_, rfl⟩
    rw [hW6] at bB bT bP bQ hb1
    have t5 := take_any (k := 2) (a := 12) bB bT (HR.out.below ByR.stable hb1) hc (by omega) (by omega) (by omega)
    obtain ⟨u5, hu5⟩ : ∃ u, unN ((xs.drop 12).take 2) = u := ⟨_, rfl⟩
    have l5 : u5 < 2 ^ (8 * 2) := by
      have h := unN_lt (l := (xs.drop 12).take 2) fun x hx => HBY.out x (List.mem_of_mem_drop (List.mem_of_mem_take hx))
      rw [show ((xs.drop 12).take 2).length = 2 by rw [List.length_take, List.length_drop, HX.out]; rfl, hu5] at h
      exact h
    have U5 := Lib.hid hu5
    rw [hu5] at t5
    clear hu5
    have m5 : (u5 : Int) % 65536 = (u5 : Int) := by omega
    have z5 : (0 : Int) ≤ (u5 : Int) := Int.natCast_nonneg _
    clear l1 l2 l3 l5
    go_wp2_with fail
    clear hW6 c2 c3 f2 f3
    refine t5.mono ?_
    clear t5
    rintro e w6 ⟨rfl, hw⟩
    replace bB := bB.set_other (p := ⟨B + 1, 0, none⟩) (by show B ≠ B + 1; omega) (.int .i64 ((12 + 2 : Nat) : Int))
    replace bT := bT.set 0 (.int .i64 ((12 + 2 : Nat) : Int))
    replace bP := bP.set_other (p := ⟨B + 1, 0, none⟩) (by show p ≠ B + 1; omega) (.int .i64 ((12 + 2 : Nat) : Int))
    replace bQ := bQ.set_other (p := ⟨B + 1, 0, none⟩) (by show q ≠ B + 1; omega) (.int .i64 ((12 + 2 : Nat) : Int))
    replace hb1 := hb1.setCell (p := ⟨B + 1, 0, none⟩) (by show w.heap.size ≤ B + 1; omega) (.int .i64 ((12 + 2 : Nat) : Int))
    rw [← hw] at bB bT bP bQ hb1
    change BoxAt _ (B + 1) #[.int .i64 ((12 + 2 : Nat) : Int)] at bT
    clear hw
    have c4 := (bQ.cell 4).trans (shC_4 _)
    have f4 := bQ.frozen 4
    replace bB := bB.set_other (p := ⟨q, 4, none⟩) (by show B ≠ q; omega) (.int .u16 (u5 : Int))
    replace bT := bT.set_other (p := ⟨q, 4, none⟩) (by show B + 1 ≠ q; omega) (.int .u16 (u5 : Int))
    replace bP := bP.set_other (p := ⟨q, 4, none⟩) (by show p ≠ q; omega) (.int .u16 (u5 : Int))
    replace bQ := bQ.set 4 (.int .u16 (u5 : Int))
    replace hb1 := hb1.setCell (p := ⟨q, 4, none⟩) (by show w.heap.size ≤ q; omega) (.int .u16 (u5 : Int))
    rw [shC_44] at bQ
    obtain ⟨W7, hW7⟩ : ∃ W, w6.setCell ⟨q, 4, none⟩ (.int .u16 (u5 : Int)) = W := ⟨_, rfl⟩
    rw [hW7] at bB bT bP bQ hb1
    have c0 := (bQ.cell 0).trans (shC_0 _)
    have hkd := kind_any (w := W7) (k := u1)
    go_wp2_with fail
    refine hkd.mono ?_
    rintro e w8 ⟨rfl, hw8⟩
    rw [hw8]
    clear hw8 hkd hW7 c4 f4
    obtain ⟨K, hK⟩ : ∃ K, kindB u1 = K := ⟨_, rfl⟩
    have HK := Lib.hid hK
    rw [hK]
    clear hK
    cases K with
    | false =>
      have HFB := Lib.hid (show frmB xs = false by unfold frmB; rw [U1.out, HK.out]; rfl)
      have hst := run_storeS (y := sh0) bP sh0_ok.l sh0_ok.l
      have hb2 := shC_set (y := sh0) bP sh0_ok.l sh0_ok.l
      go_wp2_with fail
      have hld := run_loadS hb2 sh0_ok.l
      refine bodyPost_ret (v := .tuple #[.agg (shC sh0), .int .i64 3]) (results_cellS Tryz.results170 _ _ _ _ _ rfl rfl hld) rfl ?_
      exact ⟨setS_below hb1 (by omega) _, .inr (.inl ⟨HOK.out, HFB.out, rfl⟩)⟩
    | true =>
      have t6 := take_any (k := 2) (a := 14) bB bT (HR.out.below ByR.stable hb1) hc (by omega) (by omega) (by omega)
      obtain ⟨u6, hu6⟩ : ∃ u, unN ((xs.drop 14).take 2) = u := ⟨_, rfl⟩
      have U6 := Lib.hid hu6
      rw [hu6] at t6
      clear hu6
      go_wp2_with fail
      refine t6.mono ?_
      clear t6
      rintro e w9 ⟨rfl, hw⟩
      replace bB := bB.set_other (p := ⟨B + 1, 0, none⟩) (by show B ≠ B + 1; omega) (.int .i64 ((14 + 2 : Nat) : Int))
      replace bT := bT.set 0 (.int .i64 ((14 + 2 : Nat) : Int))
      replace bP := bP.set_other (p := ⟨B + 1, 0, none⟩) (by show p ≠ B + 1; omega) (.int .i64 ((14 + 2 : Nat) : Int))
      replace bQ := bQ.set_other (p := ⟨B + 1, 0, none⟩) (by show q ≠ B + 1; omega) (.int .i64 ((14 + 2 : Nat) : Int))
      replace hb1 := hb1.setCell (p := ⟨B + 1, 0, none⟩) (by show w.heap.size ≤ B + 1; omega) (.int .i64 ((14 + 2 : Nat) : Int))
      rw [← hw] at bB bT bP bQ hb1
      clear hw
      by_cases h6 : u6 = 0
      · have HFB := Lib.hid (show frmB xs = true by unfold frmB; rw [U1.out, HK.out, U6.out]; simp [h6])
        have q6 : ((u6 : Int) != 0) = false := by rw [h6]; rfl
        clear h6
        obtain ⟨ba, oa, rfl, _, _⟩ := HR.out.addr (k := 0) (by omega)
        have hr9 := HR.out.below ByR.stable hb1
        have hrd := RdL.take (RdL.drop hr9 (k := 16) (by omega)) (k := 44) (by omega)
        rw [Nat.mul_one] at hrd
        obtain ⟨ys, hys⟩ : ∃ ys, (xs.drop 16).take 44 = ys := ⟨_, rfl⟩
        have HYS := Lib.hid hys
        rw [hys] at hrd
        have hyl : ys.length = 44 := hrd.1
        have hlb := run_loadB hrd
        have hsb := run_storeB bQ z44_len hyl
        replace bQ := shC_body bQ z44_len hyl
        replace bP := bP.keep (setCells_other _ q 5 p (ys.map fun b : Nat => Value.int .u8 (b : Int)) (by omega))
        have hb10 : Below w.heap.size w (w9.setCells q 5 (ys.map fun b : Nat => Value.int .u8 (b : Int))) := ((Keep.of_below (F := fun _ => False) hb1).trans (G := (· = q)) (setCells_keep _ _ _ _) (fun k hk hlt => by subst hk; omega)).below (Nat.le_refl _) (fun _ h => h.elim)
        obtain ⟨W10, hW10⟩ : ∃ W, w9.setCells q 5 (ys.map fun b : Nat => Value.int .u8 (b : Int)) = W := ⟨_, rfl⟩
        rw [hW10] at hsb bQ bP hb10
        have hlq := run_loadS bQ hyl
        have hst := run_storeS (y := ⟨u1, u2, u3, u4, u5, ys⟩) bP sh0_ok.l hyl
        have hb2 := shC_set (y := ⟨u1, u2, u3, u4, u5, ys⟩) bP sh0_ok.l hyl
        have hld := run_loadS hb2 hyl
        have haa : ∀ w, (Instr.arrayAt 191 (.slice (some ⟨ba, oa + 16, none⟩) 44 (c - 16))).run Tryz.prog w = .ok (.pointer (some ⟨ba, oa + 16, none⟩)) w := fun w => run_arrayAt w _ _ 44 _ _ _ bodyRow (Nat.le_refl _)
        have hdc : decS xs = ⟨u1, u2, u3, u4, u5, ys⟩ := by unfold decS; rw [U1.out, U2.out, U3.out, U4.out, U5.out, HYS.out]
        have HDC := Lib.hid hdc
        clear hr9 hrd hys hW10 hdc
        go_wp2_with fail
        refine bodyPost_ret (v := .tuple #[.agg (shC ⟨u1, u2, u3, u4, u5, ys⟩), .int .i64 0]) (results_cellS Tryz.results170 _ _ _ _ _ rfl rfl hld) rfl ?_
        refine ⟨setS_below hb10 (by omega) _, .inr (.inr ⟨HOK.out, HFB.out, ?_⟩)⟩
        rw [HDC.out]
      · have HFB := Lib.hid (show frmB xs = false by unfold frmB; rw [U1.out, HK.out, U6.out]; simp [h6])
        have q6 : ((u6 : Int) != 0) = true := by simp; omega
        clear h6
        have hst := run_storeS (y := sh0) bP sh0_ok.l sh0_ok.l
        have hb2 := shC_set (y := sh0) bP sh0_ok.l sh0_ok.l
        go_wp2_with fail
        have hld := run_loadS hb2 sh0_ok.l
        refine bodyPost_ret (v := .tuple #[.agg (shC sh0), .int .i64 3]) (results_cellS Tryz.results170 _ _ _ _ _ rfl rfl hld) rfl ?_
        exact ⟨setS_below hb1 (by omega) _, .inr (.inl ⟨HOK.out, HFB.out, rfl⟩)⟩
  · have q3 : ((n4 : Int) != (cs : Int)) = true := by simp; omega
    have HOK := Lib.hid (fun h => hok (hoi.1 h))
    have hst := run_storeS (y := sh0) b0 sh0_ok.l sh0_ok.l
    have hb2 := shC_set (y := sh0) b0 sh0_ok.l sh0_ok.l
    clear hok hoi hn4e hcse hl4 hcl
    go_wp2_with fail
    have hld := run_loadS hb2 sh0_ok.l
    refine bodyPost_ret (v := .tuple #[.agg (shC sh0), .int .i64 4]) (results_cellS Tryz.results170 _ _ _ _ _ rfl rfl hld) rfl ?_
    exact ⟨setS_below hb0 (by omega) _, .inl ⟨HOK.out, rfl⟩⟩
end
section
structure Ref where
  kind : Nat
  place : Nat
  gen : Nat
def refC (r : Ref) : Array Value := #[.int .u8 (r.kind : Int), .int .i64 (r.place : Int), .int .u64 (r.gen : Int)]
def isB (x : Shd) (r : Ref) (i : Nat) : Bool := decide (x.kind = r.kind) && decide (x.place = r.place) && decide (x.gen = r.gen) && decide (x.index = i)
theorem unN_le (k : Nat) : ∀ v, v < 2 ^ (8 * k) → unN (leN k v) = v := by
  induction k with
  | zero => intro v h; simp at h; subst h; rfl
  | succ k ih =>
    intro v h
    rw [leN_next, unN_snoc, leN_len]
    have e : unN (leN k v) = v % 2 ^ (8 * k) := by
      have h2 := ih (v % 2 ^ (8 * k)) (Nat.mod_lt _ (Nat.two_pow_pos _))
      rw [← h2]
      congr 1
      unfold leN
      refine List.map_congr_left fun i hi => ?_
      have hik := List.mem_range.1 hi
      have e1 : v % 2 ^ (8 * k) / 2 ^ (8 * i) % 2 ^ 8 = v / 2 ^ (8 * i) % 2 ^ 8 := by
        obtain ⟨d, hd⟩ : ∃ d, 8 * k = 8 * i + (8 + d) := ⟨8 * k - 8 * i - 8, by omega⟩
        rw [hd, Nat.pow_add, Nat.mod_mul_right_div_self, Nat.pow_add, Nat.mod_mul_right_mod]
      exact e1.symm
    have h3 : v / 2 ^ (8 * k) < 256 := by
      refine Nat.div_lt_of_lt_mul ?_
      rw [show 8 * (k + 1) = 8 * k + 8 by omega, Nat.pow_add] at h
      exact h
    rw [e, Nat.mod_eq_of_lt h3, Nat.mod_add_div]
theorem sncS_len {x : Shd} (h : x.body.length = 44) : (sncS x).length = 64 := by unfold sncS snc60; rw [List.length_append, List.length_append, sncH_len, h, leN_len]
theorem le4_leN (n : Nat) : le4 n = leN 4 n := by unfold le4 leN; simp [List.range, List.range.loop]
theorem sncS_sum {x : Shd} (h : x.body.length = 44) : okSum (sncS x) := by
  have hl : (snc60 x).length = 60 := by unfold snc60; rw [List.length_append, sncH_len, h]
  unfold okSum sncS
  rw [List.take_left' hl, List.drop_left' hl, le4_leN]
theorem mid_of {L A B C : List Nat} {a b : Nat} (h : L = A ++ (B ++ C)) (ha : A.length = a) (hb : B.length = b) : (L.drop a).take b = B := by
  subst h; subst ha; subst hb
  rw [List.drop_left, List.take_left]
/-- What is put is read. -/
theorem dec_snc {x : Shd} (hx : x.ok) : decS (sncS x) = x ∧ frmB (sncS x) = kindB x.kind := by
  have e : sncS x = leN 1 x.kind ++ (leN 1 x.index ++ (leN 2 x.place ++ (leN 8 x.gen ++ (leN 2 x.size ++ (leN 2 0 ++ (x.body ++ leN 4 (csum (snc60 x)))))))) := by
    unfold sncS snc60 sncH sncU hdF
    simp [List.append_assoc]
  have t1 : unN (((sncS x).drop 0).take 1) = x.kind := by rw [e, List.drop_zero, List.take_left' (leN_len _ _), unN_le 1 _ hx.k]
  have t2 : unN (((sncS x).drop 1).take 1) = x.index := by rw [mid_of (A := leN 1 x.kind) e (leN_len _ _) (leN_len _ _), unN_le 1 _ hx.i]
  have t3 : unN (((sncS x).drop 2).take 2) = x.place := by
    rw [mid_of (A := leN 1 x.kind ++ leN 1 x.index) (B := leN 2 x.place) (C := leN 8 x.gen ++ (leN 2 x.size ++ (leN 2 0 ++ (x.body ++ leN 4 (csum (snc60 x)))))) (by rw [e]; simp only [List.append_assoc]) (by simp [leN_len]) (leN_len _ _), unN_le 2 _ hx.p]
  have t4 : unN (((sncS x).drop 4).take 8) = x.gen := by
    rw [mid_of (A := leN 1 x.kind ++ leN 1 x.index ++ leN 2 x.place) (B := leN 8 x.gen) (C := leN 2 x.size ++ (leN 2 0 ++ (x.body ++ leN 4 (csum (snc60 x))))) (by rw [e]; simp only [List.append_assoc]) (by simp [leN_len]) (leN_len _ _), unN_le 8 _ hx.g]
  have t5 : unN (((sncS x).drop 12).take 2) = x.size := by
    rw [mid_of (A := leN 1 x.kind ++ leN 1 x.index ++ leN 2 x.place ++ leN 8 x.gen) (B := leN 2 x.size) (C := leN 2 0 ++ (x.body ++ leN 4 (csum (snc60 x)))) (by rw [e]; simp only [List.append_assoc]) (by simp [leN_len]) (leN_len _ _), unN_le 2 _ hx.s]
  have t6 : unN (((sncS x).drop 14).take 2) = 0 := by
    rw [mid_of (A := leN 1 x.kind ++ leN 1 x.index ++ leN 2 x.place ++ leN 8 x.gen ++ leN 2 x.size) (B := leN 2 0) (C := x.body ++ leN 4 (csum (snc60 x))) (by rw [e]; simp only [List.append_assoc]) (by simp [leN_len]) (leN_len _ _), unN_le 2 0 (by decide)]
  have t7 : ((sncS x).drop 16).take 44 = x.body :=
    mid_of (A := leN 1 x.kind ++ leN 1 x.index ++ leN 2 x.place ++ leN 8 x.gen ++ leN 2 x.size ++ leN 2 0) (B := x.body) (C := leN 4 (csum (snc60 x))) (by rw [e]; simp only [List.append_assoc]) (by simp [leN_len]) hx.l
  constructor
  · unfold decS
    rw [t1, t2, t3, t4, t5, t7]
  · unfold frmB
    rw [t1, t6]; simp
set_option maxRecDepth 100000 in
set_option maxHeartbeats 4000000 in
theorem shis_any {w : World} {x : Shd} {r : Ref} {i : Nat} (hx : x.ok) : Calls Tryz.prog 171 #[.agg (shC x), .agg (refC r), .int .i64 (i : Int)] w fun e w' => e = .returned (.bool (isB x r i)) ∧ Below w.heap.size w w' := by
  have c0 := shC_0 x
  have c1 := shC_1 x
  have c2 := shC_2 x
  have c3 := shC_3 x
  have l2 := hx.p
  have l1 := hx.i
  have q2 : (x.place : Int) < 65536 := by omega
  have q3 : (0 : Int) ≤ (x.place : Int) := Int.natCast_nonneg _
  have q4 : (x.index : Int) < 256 := by omega
  have q5 : (0 : Int) ≤ (x.index : Int) := Int.natCast_nonneg _
  clear hx
  unfold refC
  go_enter Tryz.func171, Tryz.ntmps171
  by_cases h1 : x.kind = r.kind
  · have e1 : ((x.kind : Int) == (r.kind : Int)) = true := by rw [h1]; simp
    by_cases h2 : x.place = r.place
    · have e2 : ((x.place : Int) == (r.place : Int)) = true := by rw [h2]; simp
      by_cases h3 : x.gen = r.gen
      · have e3 : ((x.gen : Int) == (r.gen : Int)) = true := by rw [h3]; simp
        by_cases h4 : x.index = i
        · have e4 : ((x.index : Int) == (i : Int)) = true := by rw [h4]; simp
          have HR := Lib.hid (show isB x r i = true by unfold isB; simp [h1, h2, h3, h4])
          clear h1 h2 h3 h4
          go_wp2_with fail
          go_ret
          exact ⟨by rw [HR.out]; rfl, ((Below.refl _ _).alloc (Nat.le_refl _) _).alloc (by rw [World.size_alloc]; omega) _⟩
        · have e4 : ((x.index : Int) == (i : Int)) = false := by simp; omega
          have HR := Lib.hid (show isB x r i = false by unfold isB; simp [h4])
          clear h1 h2 h3 h4
          go_wp2_with fail
          go_ret
          exact ⟨by rw [HR.out]; rfl, ((Below.refl _ _).alloc (Nat.le_refl _) _).alloc (by rw [World.size_alloc]; omega) _⟩
      · have e3 : ((x.gen : Int) == (r.gen : Int)) = false := by simp; omega
        have HR := Lib.hid (show isB x r i = false by unfold isB; simp [h3])
        clear h1 h2 h3
        go_wp2_with fail
        go_ret
        exact ⟨by rw [HR.out]; rfl, ((Below.refl _ _).alloc (Nat.le_refl _) _).alloc (by rw [World.size_alloc]; omega) _⟩
    · have e2 : ((x.place : Int) == (r.place : Int)) = false := by simp; omega
      have HR := Lib.hid (show isB x r i = false by unfold isB; simp [h2])
      clear h1 h2
      go_wp2_with fail
      go_ret
      exact ⟨by rw [HR.out]; rfl, ((Below.refl _ _).alloc (Nat.le_refl _) _).alloc (by rw [World.size_alloc]; omega) _⟩
  · have e1 : ((x.kind : Int) == (r.kind : Int)) = false := by simp; omega
    have HR := Lib.hid (show isB x r i = false by unfold isB; simp [h1])
    clear h1
    go_wp2_with fail
    go_ret
    exact ⟨by rw [HR.out]; rfl, ((Below.refl _ _).alloc (Nat.le_refl _) _).alloc (by rw [World.size_alloc]; omega) _⟩
end
end Go.Proofs.YtihnlhfngmbglaaGreat
