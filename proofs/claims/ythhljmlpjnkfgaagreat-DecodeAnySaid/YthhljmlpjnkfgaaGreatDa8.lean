/-
  What is left of a code's rows gives all of them back: plain.
  The rows of a text: plain.
  Of any k rows all of a text comes back.
  Arguments as readings; the last step of a law's proof.
  Bytes, numbers and rows of bytes among the arguments.
-/
import Derived.Test.YthhljmlpjnkfgaaGreatDa7
import Derived.Test.YthhljmlpjnkfgaaGreatDa1
import Derived.ProofKit
import Derived.OpenShut
import Derived.Deep.Slices
import Derived.Deep.Fields
import Derived.Carry
import Derived.ChangeSame
set_option linter.unusedSimpArgs false
set_option linter.unusedVariables false
namespace Go.Proofs.YthhljmlpjnkfgaaGreat
open Go.RowKit Go.Cib
attribute [local go_sem] cell_set Later.cell Later.frozen Grw.cell Grw.frozen

theorem left_many (N : Nat) : ∀ gone : List Int, N ≤ ((List.range N).filter fun j : Nat => decide ((j : Int) ∉ gone)).length + gone.length := by
  intro gone
  induction gone with
  | nil => simp [List.filter_eq_self.2]
  | cons x gs ih =>
    rw [List.length_cons]
    by_cases h : 0 ≤ x ∧ x < (N : Int) ∧ x ∉ gs
    · obtain ⟨a, rfl⟩ : ∃ a : Nat, x = (a : Int) := ⟨x.toNat, by omega⟩
      rw [cnt_put (fun j : Nat => decide ((j : Int) ∉ (a : Int) :: gs)) (fun j : Nat => decide ((j : Int) ∉ gs)) a N (by omega) (fun j hj => by
        have : ¬ (j : Int) = (a : Int) := by omega
        simp [this]) (by simp) (by simp [h.2.2])] at ih
      omega
    · have e : (List.range N).filter (fun j : Nat => decide ((j : Int) ∉ x :: gs)) = (List.range N).filter (fun j : Nat => decide ((j : Int) ∉ gs)) := List.filter_congr fun j hj => by
        have hjN := List.mem_range.1 hj
        by_cases hx : (j : Int) = x
        · by_cases hg : x ∈ gs
          · simp [hx, hg]
          · exact absurd ⟨by omega, by omega, hg⟩ h
        · simp [hx]
      rw [e]; omega
/-- All rows of a code. -/
def allR (k n : Nat) (D : Rws) (N : Nat) : Rws := (List.range N).map (codeRow k n D)
theorem allR_len (k n : Nat) (D : Rws) (N : Nat) : (allR k n D N).length = N := by unfold allR; simp
theorem allR_ra {k n : Nat} {D : Rws} {N j : Nat} (hj : j < N) : ra (allR k n D N) j = codeRow k n D j := ra_some (by unfold allR; rw [List.getElem?_map, List.getElem?_range hj]; rfl)
theorem missF_len (gone : List Int) (ss : Rws) (N : Nat) : (missF gone ss N).length = N := by unfold missF; simp
theorem missF_ra {gone : List Int} {ss : Rws} {N j : Nat} (hj : j < N) : ra (missF gone ss N) j = if (j : Int) ∈ gone then [] else ra ss j := ra_some (by unfold missF; rw [List.getElem?_map, List.getElem?_range hj]; rfl)
section
variable {k m n : Nat} {D : Rws} {gone : List Int}
theorem allR_data (hD : Shp k n D) : allR k n D k = D := ra_ext (by rw [allR_len, hD.1]) fun i hi => by
  rw [allR_len] at hi
  rw [allR_ra hi, codeRow_data hD hi]
theorem allR_enc (hD : Shp k n D) : D ++ encU k D n m = allR k n D (k + m) := by
  unfold allR
  rw [List.range_add, List.map_append, List.map_map]
  congr 1
  exact (allR_data hD).symm
theorem left_lenF (hD : Shp k n D) (hn : 0 < n) {N j : Nat} (hj : j < N) : lenF (missF gone (allR k n D N) N) j = if (j : Int) ∈ gone then 0 else n := by
  unfold lenF
  rw [missF_ra hj, allR_ra hj]
  split
  · rfl
  · exact (codeRow_ok hD j).1
theorem left_thU (hD : Shp k n D) (hn : 0 < n) (N : Nat) : thU (missF gone (allR k n D N) N) N = (List.range N).filter fun j : Nat => decide ((j : Int) ∉ gone) := by
  unfold thU
  refine List.filter_congr fun j hj => ?_
  rw [left_lenF hD hn (List.mem_range.1 hj)]
  by_cases h : (j : Int) ∈ gone
  · simp [h]
  · simp [h, hn]
theorem left_bad (hD : Shp k n D) (hn : 0 < n) : thBad k m (k + m) (missF gone (allR k n D (k + m)) (k + m)) = false := by
  unfold thBad
  rw [Bool.or_eq_false_iff]
  refine ⟨by simp, List.any_eq_false.2 fun u hu => ?_⟩
  have hg := gt_mem (l := thU (missF gone (allR k n D (k + m)) (k + m)) (k + m)) (i := 0) (List.length_pos_of_mem hu)
  have e : ∀ j, j ∈ thU (missF gone (allR k n D (k + m)) (k + m)) (k + m) → lenF (missF gone (allR k n D (k + m)) (k + m)) j = n := fun j hj => by
    have h1 := thU_mem hj
    have h2 := left_lenF (gone := gone) hD hn h1.1
    rw [h2]
    split
    · rename_i hin; rw [if_pos hin] at h2; omega
    · rfl
  unfold oddB
  rw [e u hu, e _ hg]
  simp
theorem left_enough (hD : Shp k n D) (hn : 0 < n) (hg : gone.length ≤ m) : ¬ (thU (missF gone (allR k n D (k + m)) (k + m)) (k + m)).length < k := by
  rw [left_thU hD hn]
  have := left_many (k + m) gone
  omega
/-- All of it comes back. -/
theorem left_out (hD : Shp k n D) (hn : 0 < n) (hk : 1 ≤ k) (hkm : k + m ≤ 255) (hg : gone.length ≤ m) {nr : Nat} (hnr : nr ≤ k + m) :
    outF k (k + m) nr (missF gone (allR k n D (k + m)) (k + m)) = allR k n D nr := by
  have hb := left_bad (m := m) (gone := gone) hD hn
  have hf := left_enough hD hn hg
  obtain ⟨_, hul, huse⟩ := use_ok hb hf hk
  have hI := inj_useT hb hf hk hkm
  have hin : ∀ u ∈ useT k (k + m) (missF gone (allR k n D (k + m)) (k + m)), u < k + m ∧ lenF (missF gone (allR k n D (k + m)) (k + m)) u = n ∧ ra (missF gone (allR k n D (k + m)) (k + m)) u = codeRow k n D u := fun u hu => by
    have h1 := thU_mem (List.mem_of_mem_take hu)
    have h2 := left_lenF (gone := gone) hD hn h1.1
    have h3 := missF_ra (gone := gone) (ss := allR k n D (k + m)) h1.1
    by_cases hc : (u : Int) ∈ gone
    · rw [if_pos hc] at h2; omega
    · rw [if_neg hc] at h2 h3
      exact ⟨h1.1, h2, by rw [h3, allR_ra h1.1]⟩
  have hn0 : lenF (missF gone (allR k n D (k + m)) (k + m)) (gt (useT k (k + m) (missF gone (allR k n D (k + m)) (k + m))) 0) = n := (hin _ (gt_mem (by omega))).2.1
  rw [show allR k n D nr = (List.range nr).map (codeRow k n D) from rfl]
  unfold outF
  rw [hn0]
  refine List.map_congr_left fun i hi => ?_
  have hiN := List.mem_range.1 hi
  unfold fillOne
  split
  · rename_i hpos
    rw [missF_ra (show i < k + m by omega), allR_ra (show i < k + m by omega)]
    rw [left_lenF hD hn (show i < k + m by omega)] at hpos
    by_cases hc : (i : Int) ∈ gone
    · rw [if_pos hc] at hpos; omega
    · rw [if_neg hc]
  · exact made_back hD hul hI (fun u hu => (hin u hu).2.2) i
end
end Go.Proofs.YthhljmlpjnkfgaaGreat

set_option linter.unusedSimpArgs false
set_option linter.unusedVariables false
namespace Go.Proofs.YthhljmlpjnkfgaaGreat
open Go.RowKit Go.Cib
attribute [local go_sem] cell_set Later.cell Later.frozen Grw.cell Grw.frozen

theorem fillL_len {width : Nat} {xs : List Nat} (h : xs.length ≤ width) : (fillL width xs).length = width := by
  unfold fillL; rw [List.length_append, List.length_replicate]; omega
theorem splF_end (width : Nat) (xs : List Nat) (k : Nat) : splF width xs k k = (List.range k).map fun j => fillL width ((xs.drop (j * width)).take width) := by
  unfold splF; simp
theorem splF_shp {width : Nat} {xs : List Nat} (hx : Byt xs) (k : Nat) : Shp k width (splF width xs k k) := by
  rw [splF_end]
  refine ⟨by simp, fun r hr => ?_⟩
  obtain ⟨j, _, rfl⟩ := List.mem_map.1 hr
  refine ⟨fillL_len (by rw [List.length_take]; omega), fun x hx2 => ?_⟩
  unfold fillL at hx2
  rcases List.mem_append.1 hx2 with h | h
  · exact hx x (List.mem_of_mem_drop (List.mem_of_mem_take h))
  · rw [(List.mem_replicate.1 h).2]; omega
theorem spl_pre {width : Nat} {xs : List Nat} : ∀ k, xs.length ≤ k * width → ((splF width xs k k).flatten).take xs.length = xs := by
  intro k hk
  have h : ∀ i, ((((List.range i).map fun j => fillL width ((xs.drop (j * width)).take width)).flatten)).take xs.length = xs.take (i * width) := by
    intro i
    induction i with
    | zero => simp
    | succ i ih =>
      have hl : (((List.range i).map fun j => fillL width ((xs.drop (j * width)).take width)).flatten).length = i * width := by
        rw [rows_flat (n := width) _ (fun r hr => by
          obtain ⟨j, _, rfl⟩ := List.mem_map.1 hr
          exact fillL_len (by rw [List.length_take]; omega))]
        simp
      rw [List.range_succ, List.map_append, List.flatten_append, List.take_append, ih, hl, Nat.succ_mul]
      simp only [List.map_cons, List.map_nil, List.flatten_cons, List.flatten_nil, List.append_nil]
      rw [List.take_add]
      congr 1
      unfold fillL
      rw [List.take_append]
      rw [List.take_of_length_le (show ((xs.drop (i * width)).take width).length ≤ xs.length - i * width by rw [List.length_take, List.length_drop]; omega)]
      rw [show ∀ l : List Nat, l = [] → (xs.drop (i * width)).take width ++ l = (xs.drop (i * width)).take width from fun l hl => by rw [hl, List.append_nil]]
      refine List.length_eq_zero_iff.1 ?_
      rw [List.length_take, List.length_replicate, List.length_take, List.length_drop]
      omega
  rw [splF_end, h k, List.take_of_length_le hk]
end Go.Proofs.YthhljmlpjnkfgaaGreat

set_option linter.unusedSimpArgs false
set_option linter.unusedVariables false
namespace Go.Proofs.YthhljmlpjnkfgaaGreat
open Go.RowKit Go.Cib
attribute [local go_sem] cell_set Later.cell Later.frozen Grw.cell Grw.frozen

set_option maxRecDepth 100000 in
set_option maxHeartbeats 16000000 in
theorem any_any {w : World} {z0 z1 : Int} {A2 A3 : Option Addr} {n2 c2 n3 c3 : Nat} {b : List Nat} {gone : List Int} (R2 : RdL ByR 1 (fun _ => True) w A2 n2 b) (hc2 : n2 ≤ c2) (R3 : RdL IntR 1 (fun _ => True) w A3 n3 gone) :
    Calls Tryz.prog 7 #[.int .i64 z0, .int .i64 z1, .slice A2 n2 c2, .slice A3 n3 c3] w fun e w' => e = .returned (.bool true) ∧ Below w.heap.size w w' := by
  have H2 := Lib.hid R2
  have H3 := Lib.hid R3
  have hrl := R2.1
  have hgl := R3.1
  clear R2 R3
  go_enter Tryz.func7, Tryz.ntmps7
  go_wp2_with fail
  refine fldnew_any.mono ?_
  rintro e w1 ⟨rfl, hF, hb1⟩
  have hs1 := hb1.size
  by_cases hok : 1 ≤ z0 ∧ 1 ≤ z1 ∧ z0 ≤ 255 ∧ z1 ≤ 255 - z0
  · obtain ⟨k, rfl⟩ : ∃ k : Nat, z0 = (k : Int) := ⟨z0.toNat, by omega⟩
    obtain ⟨m, rfl⟩ : ∃ m : Nat, z1 = (m : Int) := ⟨z1.toNat, by omega⟩
    have k1 : 1 ≤ k := by omega
    have m1 : 1 ≤ m := by omega
    have km : k + m ≤ 255 := by omega
    have hnew := new_any (k := k) (m := m) hF k1 m1 km
    clear hok
    go_wp2_with fail
    refine hnew.mono ?_
    rintro e w2 ⟨cb, rfl, hC, hk⟩
    have hb2 : Below w.heap.size w w2 := hb1.trans (Keep.below hk hb1.size (fun k hk => by rw [hk]; exact Nat.le_refl _))
    have HC := Lib.hid hC
    have HB2 := Lib.hid hb2
    clear hF hb1 hnew hC hk hb2
    have q0 : (0 : Int) ≤ (k : Int) := Int.natCast_nonneg _
    have q1 : (0 : Int) ≤ (m : Int) := Int.natCast_nonneg _
    have q2 : (k : Int) + (m : Int) ≤ 255 := by omega
    have hdc := decodes_any (w := w2)
    by_cases hbig : (k : Int) + (m : Int) > 24
    · go_wp2_with fail
      refine hdc.mono ?_
      rintro e w3 ⟨rfl, hb3⟩
      go_wp2_with fail
      go_ret
      exact ⟨rfl, HB2.out.trans (hb3.mono HB2.out.size)⟩
    · by_cases hlong : (n2 : Int) > 2000
      · go_wp2_with fail
        refine hdc.mono ?_
        rintro e w3 ⟨rfl, hb3⟩
        go_wp2_with fail
        go_ret
        exact ⟨rfl, HB2.out.trans (hb3.mono HB2.out.size)⟩
      · by_cases hmany : (n3 : Int) > (m : Int)
        · go_wp2_with fail
          refine hdc.mono ?_
          rintro e w3 ⟨rfl, hb3⟩
          go_wp2_with fail
          go_ret
          exact ⟨rfl, HB2.out.trans (hb3.mono HB2.out.size)⟩
        · clear hdc
          have hN : k + m ≤ 24 := by omega
          have q3 : ((k : Int) == 0) = false := by simp; omega
          obtain ⟨d, hd⟩ : ∃ d, n2 / k = d := ⟨_, rfl⟩
          have hdi : (n2 : Int) / (k : Int) = (d : Int) := by rw [← hd]; push_cast; rfl
          have hd2 : d ≤ 2000 := by rw [← hd]; exact Nat.le_trans (Nat.div_le_self _ _) (by omega)
          have hfit : n2 ≤ k * (d + 1) := by rw [← hd]; exact Nat.le_of_lt (Nat.lt_mul_div_succ n2 k1)
          have q4 : (0 : Int) ≤ (d : Int) := Int.natCast_nonneg _
          have q5 : (d : Int) ≤ 2000 := by omega
          have hsp := split_any (width := d + 1) HC.out (H2.out.below ByR.stable HB2.out) hc2 (by omega) (by omega) hfit
          push_cast at hsp
          clear hd
          go_wp2_with fail
          refine hsp.mono ?_
          rintro e w3 ⟨g3, rfl, hr3, hb3⟩
          clear hsp
          have hD := splF_shp (width := d + 1) (by_byt H2.out) k
          have hne : ∀ i, i < k → (ra (splF (d + 1) b k k) i).length = d + 1 := fun i hi => (hD.row hi).1
          have hl0 : lenF0 (splF (d + 1) b k k) = d + 1 := hne 0 (by omega)
          have hev : evB (splF (d + 1) b k k) = true := by
            unfold evB
            rw [List.all_eq_true]
            intro r hr
            have h1 := (hD.2 r hr).1
            have h2 := hne 0 (by omega)
            simp [h1, h2]
          have hgo : goodB k k (splF (d + 1) b k k) = true := by unfold goodB; rw [decide_eq_true rfl, hev]; rfl
          have hcl := call2_any (cs := k) (HC.out.below hb3) hr3 (by omega) (fun i => by
            by_cases hi : i < k
            · rw [hne i hi]; omega
            · unfold ra
              rw [List.getD_eq_getElem?_getD, List.getElem?_eq_none (by rw [hD.1]; omega)]
              exact Nat.zero_le _)
          go_wp2_with fail
          refine hcl.mono ?_
          rintro e w4 ⟨hb4, ⟨hG, _⟩ | ⟨_, A4, c4, rfl, hc4, hr4⟩⟩
          · exact absurd hG (by rw [hgo]; simp)
          · rw [hl0, allR_enc hD] at hr4
            have hb34 := hb3.trans (hb4.mono hb3.size)
            have HR3 := Lib.hid (hr3.below RowR.stable hb4)
            have HR4 := Lib.hid hr4
            have HB4 := Lib.hid hb34
            have HD := Lib.hid hD
            have hal : ∀ i, lenF (allR k (d + 1) (splF (d + 1) b k k) (k + m)) i ≤ 1000000 := fun i => by
              unfold lenF
              by_cases hi : i < k + m
              · rw [allR_ra hi, (codeRow_ok hD i).1]; omega
              · unfold ra
                rw [List.getD_eq_getElem?_getD, List.getElem?_eq_none (by rw [allR_len]; omega)]
                exact Nat.zero_le _
            have hmi := missing_any (ca := c4) (cb := c3) hr4 (H3.out.below IntR.stable (HB2.out.trans (hb34.mono HB2.out.size))) (by omega) (by omega) hal
            clear hcl hr3 hr4 hb3 hb4 hb34 hev hgo hne hl0 hD hal
            go_wp2_with fail
            refine hmi.mono ?_
            rintro e w5 ⟨A5, c5, rfl, hc5, hr5, hb5⟩
            clear hmi
            have HC5 := Lib.hid (HC.out.below (HB4.out.trans (hb5.mono HB4.out.size)))
            have HB5 := Lib.hid (HB4.out.trans (hb5.mono HB4.out.size))
            have HR35 := Lib.hid (HR3.out.below RowR.stable hb5)
            have HR45 := Lib.hid (HR4.out.below RowR.stable hb5)
            have hln : ∀ i, lenF (missF gone (allR k (d + 1) (splF (d + 1) b k k) (k + m)) (k + m)) i ≤ 1000000 := fun i => by
              by_cases hi : i < k + m
              · rw [left_lenF HD.out (by omega) hi]; split <;> omega
              · unfold lenF ra
                rw [List.getD_eq_getElem?_getD, List.getElem?_eq_none (by rw [missF_len]; omega)]
                exact Nat.zero_le _
            have hgm : gone.length ≤ m := by omega
            have HX := Lib.hid hr5
            have HL := Lib.hid hln
            have HGM := Lib.hid hgm
            have hda := ddata_any (cs := c5) HC5.out hr5 (by omega) hln (Lib.hid fun h1 h2 => inj_useT h1 h2 k1 km)
            clear HR3 HR4 HB4 hb5 hr5 hln hgm
            go_wp2_with fail
            refine hda.mono ?_
            rintro e w6 ⟨hb6, ⟨h, _⟩ | ⟨_, h, _⟩ | ⟨_, _, g6, rfl, hr6⟩⟩
            · exact absurd h (by rw [left_bad HD.out (by omega)]; simp)
            · exact absurd h (left_enough HD.out (by omega) HGM.out)
            · rw [left_out HD.out (by omega) k1 km HGM.out (by omega), allR_data HD.out] at hr6
              clear hda
              have HB6 := Lib.hid (HB5.out.trans (hb6.mono HB5.out.size))
              have HR36 := Lib.hid (HR35.out.below RowR.stable hb6)
              have HR46 := Lib.hid (HR45.out.below RowR.stable hb6)
              have HD6 := Lib.hid hr6
              have hdl := dall_any (cs := c5) (HC5.out.below hb6) (HX.out.below RowR.stable hb6) (by omega) HL.out (Lib.hid fun h1 h2 => inj_useT h1 h2 k1 km)
              have HC6 := Lib.hid (HC5.out.below hb6)
              clear HB5 HR35 HR45 HC5 HX HL hb6 hr6
              go_wp2_with fail
              refine hdl.mono ?_
              rintro e w7 ⟨hb7, ⟨h, _⟩ | ⟨_, h, _⟩ | ⟨_, _, g7, rfl, hr7⟩⟩
              · exact absurd h (by rw [left_bad HD.out (by omega)]; simp)
              · exact absurd h (left_enough HD.out (by omega) HGM.out)
              · rw [left_out HD.out (by omega) k1 km HGM.out (by omega)] at hr7
                clear hdl
                have HB7 := Lib.hid (HB6.out.trans (hb7.mono HB6.out.size))
                have HR37 := Lib.hid (HR36.out.below RowR.stable hb7)
                have HR47 := Lib.hid (HR46.out.below RowR.stable hb7)
                have HD7 := Lib.hid (HD6.out.below RowR.stable hb7)
                have HA7 := Lib.hid hr7
                have hjo := join_any (n := d + 1) (s := n2) (cs := k) (HC6.out.below hb7) (HD6.out.below RowR.stable hb7) (fun i hi => (HD.out.row hi).1) (by omega) (by omega)
                clear HB6 HR36 HR46 HD6 HC6 hb7 hr7
                go_wp2_with fail
                refine hjo.mono ?_
                rintro e w8 ⟨A8, c8, rfl, hc8, hr8, hb8⟩
                rw [← hrl, spl_pre k (by rw [hrl]; omega), hrl] at hr8
                clear hjo
                have HB8 := Lib.hid (HB7.out.trans (hb8.mono HB7.out.size))
                have HA8 := Lib.hid (HA7.out.below RowR.stable hb8)
                have HR48 := Lib.hid (HR47.out.below RowR.stable hb8)
                have HT8 := Lib.hid hr8
                have h2 := H2.out.below ByR.stable (HB2.out.trans (HB8.out.mono HB2.out.size))
                have H28 := Lib.hid h2
                have hsa := same5_any (ca := k) (cb := k) (HD7.out.below RowR.stable hb8) (HR37.out.below RowR.stable hb8) (by omega)
                clear HB7 HR37 HR47 HD7 HA7 hr8 hb8 h2
                go_wp2_with fail
                refine hsa.mono ?_
                rintro e w9 ⟨rfl, hb9⟩
                clear hsa
                have HB9 := Lib.hid (HB8.out.trans (hb9.mono HB8.out.size))
                have HT9 := Lib.hid (HT8.out.below ByR.stable hb9)
                have H29 := Lib.hid (H28.out.below ByR.stable hb9)
                have hsb := same5_any (ca := k + m) (cb := c4) (HA8.out.below RowR.stable hb9) (HR48.out.below RowR.stable hb9) (by omega)
                clear HB8 HA8 HR48 HT8 H28 hb9
                push_cast at hsb
                go_wp2_with fail
                refine hsb.mono ?_
                rintro e w10 ⟨rfl, hb10⟩
                clear hsb
                have HBa := Lib.hid (HB2.out.trans ((HB9.out.trans (hb10.mono HB9.out.size)).mono HB2.out.size))
                have t1 := text_run (c := c8) (HT9.out.below ByR.stable hb10)
                have t2 := text_run (c := c2) (H29.out.below ByR.stable hb10)
                have hbe : (textB b == textB b) = true := by rw [bytes_beq]; simp
                have hdc := decodes_any (w := w10)
                clear HB9 HT9 H29 hb10
                go_wp2_with fail
                refine hdc.mono ?_
                rintro e w11 ⟨rfl, hb11⟩
                go_wp2_with fail
                go_ret
                exact ⟨by simp, HBa.out.trans (hb11.mono HBa.out.size)⟩
  · have hnew := new_bad (w := w1) (f := .pointer (some ⟨w.heap.size, 0, none⟩)) hok
    clear hok
    go_wp2_with fail
    refine hnew.mono ?_
    rintro e w2 ⟨rfl, rfl⟩
    have hdc := decodes_any (w := w2)
    go_wp2_with fail
    refine hdc.mono ?_
    rintro e w3 ⟨rfl, hb3⟩
    go_wp2_with fail
    go_ret
    exact ⟨rfl, hb1.trans (hb3.mono hb1.size)⟩
end Go.Proofs.YthhljmlpjnkfgaaGreat

set_option linter.unusedSimpArgs false
set_option linter.unusedVariables false
namespace Go.Cib
open Go.RowKit Go.ChangeShapes Go.WideShapes Go.Deep

section
variable {P : Program} {X : Type}

/-- What reads as data of type t reads by R. -/
def Opens (P : Program) (t : TypeId) (R : (Nat → Prop) → World → List Value → X → Prop) (s : Nat) : Prop :=
  P.cellsOf t = s ∧ 0 < s ∧ ∀ (H : Type) (enc : TypeId × Value → H) (w : World) (base : Nat) (spare : Nat → Bool) (held : Bool) (fuel : Nat) (cs : List Value) (x : DataW H × List MemPlace),
    cs.length = s → DataW.trod enc P w base spare held fuel t cs = some x → ∃ y : X, R (fun _ => True) w cs y

theorem opens_int {t : TypeId} (h : P.underlying t = some (.int .i64)) (hc : P.cellsOf t = 1) : Opens P t IntR 1 :=
  ⟨hc, by omega, fun H enc w base spare held fuel cs x _ hx => by
    obtain ⟨n, rfl, _, _⟩ := DataW.trod_int h hx
    exact ⟨n, rfl⟩⟩
theorem opens_u64 {t : TypeId} (h : P.underlying t = some (.int .u64)) (hc : P.cellsOf t = 1) : Opens P t U64R 1 :=
  ⟨hc, by omega, fun H enc w base spare held fuel cs x _ hx => by
    obtain ⟨n, rfl, _, _⟩ := DataW.trod_int h hx
    exact ⟨n, rfl⟩⟩

theorem opens_slice {R : (Nat → Prop) → World → List Value → X → Prop} {t e : TypeId} {s : Nat} (ht : P.underlying t = some (.slice e)) (ho : Opens P e R s) {H : Type} {enc : TypeId × Value → H} {w : World} {base : Nat} {spare : Nat → Bool} {held : Bool} {fuel : Nat} {cs : List Value} {x : DataW H × List MemPlace}
    (h : DataW.trod enc P w base spare held fuel t cs = some x) : ∃ A n c xs, cs = [.slice A n c] ∧ n ≤ c ∧ c ≤ maxLen ∧ RdL R s (fun _ => True) w A n xs := by
  obtain ⟨hs, hpos, hR⟩ := ho
  rcases open_slice ht h with ⟨rfl, _⟩ | ⟨a, len, cap, m, n, D, Pl, rfl, hb, hl, hm, hmm, hx, hi⟩
  · exact ⟨none, 0, 0, [], rfl, Nat.le_refl _, by simp [maxLen], RdL.nil⟩
  · have hlm : len ≤ m := by rw [hmm]; split <;> omega
    rw [hs] at hi
    have hel : ∀ i, i < len → ∃ (cs' : List Value) (y : X), cs'.length = s ∧ R (fun _ => True) w cs' y ∧ ∀ j v, cs'[j]? = some v → w.cell? ((a.add (i * s)).add j) = some v := by
      intro i hil
      obtain ⟨cs', h1, h2⟩ := hi i (by omega)
      obtain ⟨_, h3, h4⟩ := World.cells?_some h1
      obtain ⟨y, hy⟩ := hR _ _ _ _ _ _ _ _ _ h3 h2
      exact ⟨cs', y, h3, hy, fun j v hj => by
        have hjl := (List.getElem?_eq_some_iff.1 hj).1
        rw [h4 j (by omega), hj]⟩
    rcases Nat.eq_zero_or_pos len with h0 | h0
    · subst h0
      exact ⟨some a, 0, cap, [], rfl, hl, hm, RdL.nil⟩
    · have hspot : a.spot = none := by
        obtain ⟨cs', y, h1, _, h2⟩ := hel 0 h0
        have h3 := h2 0 (cs'[0]'(by omega)) (List.getElem?_eq_getElem (by omega))
        simp only [Nat.zero_mul, Addr.add, if_true] at h3
        unfold World.cell? at h3
        split at h3
        · split at h3
          · cases h3
          · rename_i hs; simpa using hs
        · cases h3
      obtain ⟨b, o, sp⟩ := a
      simp only at hspot
      subst hspot
      have hxs : ∀ k, k ≤ len → ∃ xs : List X, xs.length = k ∧ ∀ i y, xs[i]? = some y → ∃ cs' : List Value, cs'.length = s ∧ R (fun _ => True) w cs' y ∧ ∀ j v, cs'[j]? = some v → w.cell? ⟨b, o + i * s + j, none⟩ = some v := by
        intro k
        induction k with
        | zero => exact fun _ => ⟨[], rfl, by simp⟩
        | succ k ih =>
          intro hk
          obtain ⟨xs, e1, e2⟩ := ih (by omega)
          obtain ⟨cs', y, h1, h2, h3⟩ := hel k (by omega)
          refine ⟨xs ++ [y], by simp [e1], fun i y' hy' => ?_⟩
          by_cases hik : i < k
          · rw [List.getElem?_append_left (by omega)] at hy'
            exact e2 i y' hy'
          · have hie : i = k := by
              have := (List.getElem?_eq_some_iff.1 hy').1
              simp [e1] at this; omega
            subst hie
            rw [List.getElem?_append_right (by omega)] at hy'
            simp only [e1, Nat.sub_self, List.getElem?_cons_zero, Option.some.injEq] at hy'
            subst hy'
            exact ⟨cs', h1, h2, fun j v hj => by have := h3 j v hj; rw [Addr.add_lit, Addr.add_lit] at this; exact this⟩
      obtain ⟨xs, e1, e2⟩ := hxs len (Nat.le_refl _)
      obtain ⟨cs', y, h1, _, h3⟩ := hel 0 h0
      have hblt : b < w.heap.size := by
        have := h3 0 (cs'[0]'(by omega)) (List.getElem?_eq_getElem (by omega))
        have := World.block_lt_of_cell? w _ this
        simpa [Addr.add_lit] using this
      exact ⟨some ⟨b, o, none⟩, len, cap, xs, rfl, hl, hm, e1, fun _ => ⟨b, o, rfl, trivial, hblt, e2⟩⟩

/-- A slice among the arguments. -/
theorem open_rd {R : (Nat → Prop) → World → List Value → X → Prop} {t e : TypeId} {s : Nat} (ht : P.underlying t = some (.slice e)) (ho : Opens P e R s) {H : Type} {enc : TypeId × Value → H} {w : World} {base b0 : Nat} {spare : Nat → Bool} {held : Bool} {r : Reach} {v : Value} {d : DataW H} {ps : List MemPlace}
    (hval : Value.okWide P w r b0 t v) (h : DataW.Trod enc P w base spare held t v d ps) : ∃ A n c xs, v = .slice A n c ∧ n ≤ c ∧ c ≤ maxLen ∧ RdL R s (fun _ => True) w A n xs := by
  obtain ⟨A, n, c, rfl⟩ := okWide_slice ht hval
  obtain ⟨fuel, hf⟩ := h
  obtain ⟨A', n', c', xs, e1, e2, e3, e4⟩ := opens_slice ht ho hf
  simp only [Value.cells, List.cons.injEq, and_true, Value.slice.injEq] at e1
  obtain ⟨rfl, rfl, rfl⟩ := e1
  exact ⟨A, n, c, xs, rfl, e2, e3, e4⟩
end

section
variable {H : Type} {enc : TypeId × Value → H} {P : Program}

theorem trodAll_stays (hl : laidOutB P = true) {W W' : World} (hb : Below W.heap.size W W') : ∀ (ts : List TypeId) (vs : List Value) (ds : List (DataW H)) (ps : List MemPlace), (∀ t ∈ ts, P.readableRec t = true ∧ t < P.types.size) → (∀ x ∈ ps, x.block < W.heap.size) →
    DataW.TrodAll enc P W 0 (fun _ => true) true ts vs ds ps → DataW.TrodAll enc P W' 0 (fun b => decide (b < W.heap.size)) true ts vs ds ps
  | [], vs, ds, ps, _, _, h => by
    obtain ⟨rfl, rfl, rfl⟩ := trodAll_nil h
    exact trodAll_mk0
  | t :: ts, vs, ds, ps, hr, hlt, h => by
    obtain ⟨v, vs', d, ds', p, q, rfl, rfl, rfl, hd, hrest⟩ := trodAll_cons h
    have h1 := Below.trod hl (hr t (by simp)).1 (hr t (by simp)).2 hd hb (fun x hx => hlt x (by simp [hx]))
    have h2 := trodAll_stays hl hb ts vs' ds' q (fun u hu => hr u (List.mem_cons_of_mem _ hu)) (fun x hx => hlt x (by simp [hx])) hrest
    exact trodAll_cons_mk h1 h2

/-- The end of a law's proof: it answered true, and what was there is as it was. -/
theorem law_post {f : Func} {s : ChangeSpec} {W W' : World} {args : Array Value} {ds gs : List (DataW H)} {before : List MemPlace} {tb : TypeId} (hl : laidOutB P = true) (hr : ∀ t ∈ f.params.toList, P.readableRec t = true ∧ t < P.types.size)
    (hres : f.resultTypes = #[tb]) (htb : P.underlying tb = some .bool) (hvars : s.vars = []) (hfn : (s.fn H (ds ++ gs)).results = [.lit (.bool true)] ∧ (s.fn H (ds ++ gs)).args = ds ∧ (s.fn H (ds ++ gs)).vars = [])
    (hW : DataW.Whole enc P f.params.toList s.vars false W args.toList ds gs before) (hb : Below W.heap.size W W') :
    s.post enc P f false true false false W args (.bool true) W' := by
  have hlt : ∀ p ∈ before, p.block < W.heap.size := fun p hp => hW.lt p hp
  have hW2 := hW
  obtain ⟨p, q, hA, hV, rfl, hz, hn⟩ := hW2
  rw [hvars] at hV
  obtain ⟨rfl, rfl⟩ := trodVars_none hV
  simp only [List.append_nil] at hlt hfn hz hW ⊢
  have hargs := trodAll_stays hl hb _ _ _ _ hr hlt hA
  have hr1 : ∀ (b : Nat) (sp : Nat → Bool) (hd : Bool), DataW.TrodAll enc P W' b sp hd f.resultTypes.toList ((Value.bool true).resultList f.resultTypes.size) (s.fn H ds).results [] := fun b sp hd => by
    rw [hres, hfn.1]
    exact trodAll_mk1 (shut_bool htb true)
  refine ⟨ds, [], p, [], p, [], hW, by rw [List.append_nil]; exact hr1 _ _ _, by rw [List.append_nil, hfn.2.1]; exact hargs, by rw [List.append_nil, hvars, hfn.2.2]; exact rfl, World.keptBut_mono (fun x hx => ⟨hx, .inr (.inl hx)⟩) (hb.frame (· ∈ p)), fun h => by cases h⟩
end
end Go.Cib

set_option linter.unusedSimpArgs false
set_option linter.unusedVariables false
namespace Go.Proofs.YthhljmlpjnkfgaaGreat
open Go.RowKit Go.Cib
attribute [local go_sem] cell_set Later.cell Later.frozen Grw.cell Grw.frozen
open Go.ChangeShapes Go.WideShapes Go.ChangeAt Go.Deep

theorem laidOut_ : laidOutB Tryz.prog = true := by kernel_rfl
theorem ownKnob_ : ownKnob Tryz.prog.godebug = none := by kernel_rfl
theorem opens_by : Opens Tryz.prog 5 ByR 1 :=
  ⟨by kernel_rfl, by omega, fun H enc w base spare held fuel cs x _ hx => by
    obtain ⟨n, rfl, _, hw⟩ := DataW.trod_int Tryz.underlying5 hx
    have h2 : 0 ≤ n ∧ n ≤ 255 := by
      simp [Lit.wf, IntKind.min, IntKind.max, IntKind.signed, IntKind.bits] at hw
      omega
    exact ⟨n.toNat, by omega, by rw [show ((n.toNat : Nat) : Int) = n by omega]⟩⟩
end Go.Proofs.YthhljmlpjnkfgaaGreat
