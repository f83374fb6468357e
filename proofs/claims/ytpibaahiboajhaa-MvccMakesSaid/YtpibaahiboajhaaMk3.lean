/-
  The document's store made of rows.
-/
import Derived.Test.YtpibaahiboajhaaMk2
set_option linter.unusedSimpArgs false
set_option linter.unusedVariables false
namespace Go.Proofs.Ytpibaahiboajhaa
open Go.RowKit Go.Cib
attribute [local go_sem] cell_set Later.cell Later.frozen Grw.cell Grw.frozen

set_option maxRecDepth 100000 in
theorem refkey_any (k : ByteArray) (w : World) :
    Calls Try.prog 84 #[.string k] w fun e w' => e = .returned (.bool (keyOk k)) ∧ w' = w := by
  unfold keyOk
  by_cases h0 : 0 < k.size
  · have e0 : (1 : Int) ≤ (k.size : Int) := by omega
    by_cases h1 : k.size ≤ 16
    · have e1 : (k.size : Int) ≤ 16 := by omega
      go_enter Try.func84, Try.ntmps84
      go_wp2_with fail
      go_ret
      exact ⟨by simp [h0, h1], rfl⟩
    · have e1 : ¬ (k.size : Int) ≤ 16 := by omega
      go_enter Try.func84, Try.ntmps84
      go_wp2_with fail
      go_ret
      exact ⟨by simp [h0, h1], rfl⟩
  · have e0 : ¬ (1 : Int) ≤ (k.size : Int) := by omega
    go_enter Try.func84, Try.ntmps84
    go_wp2_with fail
    go_ret
    exact ⟨by simp [h0], rfl⟩
theorem key_first {k : ByteArray} (h : keyOk k = true) : Op.bytesLess (⟨#[]⟩ : ByteArray).toList k.toList = true := by
  unfold keyOk at h
  have h1 := (of_decide_eq_true h).1
  cases hb : Op.bytesLess (⟨#[]⟩ : ByteArray).toList k.toList with
  | true => rfl
  | false =>
    have hb2 : Op.bytesLess k.toList (⟨#[]⟩ : ByteArray).toList = false := by
      cases h : Op.bytesLess k.toList (⟨#[]⟩ : ByteArray).toList with
      | false => rfl
      | true =>
        rw [bl_eq, decide_eq_true_eq] at h
        have e : (⟨#[]⟩ : ByteArray).toList = [] := (str_nil _).2 rfl
        rw [e] at h
        exact absurd h (List.not_lt_nil _)
    have := bl_tri hb hb2
    rw [← this] at h1
    exact absurd h1 (by decide)
def RefP (w : World) (l : List Ent) (last : Int) (e : Ending) (w' : World) : Prop :=
  Below w.heap.size w w' ∧ (if fromOk last ⟨#[]⟩ l then ∃ q A' c', e = .returned (.pointer (some ⟨q, 0, none⟩)) ∧ BoxAt w' q #[.slice A' l.length c', .int .u64 last] ∧ RdL EntR 2 (fun _ => True) w' A' l.length l else e = .returned (.pointer none))
theorem refP_no {w w' : World} {l : List Ent} {last : Int} (h : fromOk last ⟨#[]⟩ l = false) (hb : Below w.heap.size w w') : RefP w l last (.returned (.pointer none)) w' := ⟨hb, by rw [h]; exact rfl⟩
set_option maxRecDepth 100000 in
set_option maxHeartbeats 16000000 in
theorem reffrom_any {S : Nat → Prop} {w : World} {A : Option Addr} {n c : Nat} {l : List Ent} {last : Int} (R : Hid (RdL EntR 2 S w A n l)) (hn : n ≤ 1000) (hv : Hid (∀ y ∈ l, y.vers.length ≤ 1000 ∧ Small y.vers ∧ ∀ v ∈ y.vers, 0 ≤ v.stamp)) :
    Calls Try.prog 42 #[.slice A n c, .int .u64 last] w (RefP w l last) := by
  have hll : l.length = n := R.out.1
  go_enter Try.func42, Try.ntmps42
  go_wp2_with fail
  go_loopw [5] (fun vi wr => ∃ (k : Nat) (PK : ByteArray), k ≤ n ∧ vi = .int .i64 k ∧ Hid (Below w.heap.size w wr) ∧ Hid (fromOk last ⟨#[]⟩ l = fromOk last PK (l.drop k)) ∧ Hid ((k = 0 → PK = ⟨#[]⟩) ∧ ∀ (j : Nat) (x : Ent), k = j + 1 → l[j]? = some x → PK = x.key)) (fun vi _ => n - (intOf vi).toNat)
  case atStart => exact ⟨0, ⟨#[]⟩, Nat.zero_le _, rfl, Lib.hid (Below.refl _ _), Lib.hid rfl, Lib.hid ⟨fun _ => rfl, fun j x h => by omega⟩⟩
  case round =>
    obtain ⟨wq, rfl⟩ : ∃ wq, wq = wr := ⟨_, rfl⟩
    obtain ⟨k, PK, hk', rfl, HW, HO, HP⟩ := hrel
    have q0' : (0 : Int) ≤ (k : Int) := Int.natCast_nonneg _
    by_cases hlt : k < n
    · have q1' : (k : Int) < (n : Int) := by omega
      obtain ⟨b, o, rfl, _, hb0⟩ := R.out.addr hlt
      obtain ⟨y, VA, vm, vc, hy, hbw, hER, c0, c1⟩ := ent2_at (R.out.below EntR.stable HW.out) hlt
      obtain ⟨x', _, _, _, hx', _, _, p0, _⟩ := ent2_at (R.out.below EntR.stable HW.out) (show k - 1 < n by omega)
      obtain ⟨VA', vm', vc', hcs', hvc, hRV⟩ := hER
      injection hcs' with _ hcs'
      injection hcs' with hcs' _
      injection hcs' with e1 e2 e3
      subst e1; subst e2; subst e3
      have hyv := hv.out y (List.mem_of_getElem? hy)
      have hlen0 : y.vers.length = vm := hRV.1
      have hvm : vm ≤ 1000 := by omega
      have bx := BoxAt.new wq #[.string y.key, .slice VA vm vc] 72
      have hal : Below wq.heap.size wq (wq.alloc (.cells #[.string y.key, .slice VA vm vc] 72)) := (Below.refl _ _).alloc (Nat.le_refl _) _
      obtain ⟨vb, hvb⟩ : ∃ vb, wq.heap.size = vb := ⟨_, rfl⟩
      obtain ⟨wx, hwx⟩ : ∃ wx, wq.alloc (.cells #[.string y.key, .slice VA vm vc] 72) = wx := ⟨_, rfl⟩
      rw [hwx] at bx hal
      rw [hvb] at bx
      have k0 := bx.cell 0
      have k1 := bx.cell 1
      have hvbx := bx.lt
      have p1 := (hal.cell (p := ⟨b, o + (k - 1) * 2, none⟩) hbw).trans p0
      have hbx : b < wx.heap.size := Nat.lt_of_lt_of_le hbw hal.size
      have HV := Lib.hid (hRV.below VerR.stable hal)
      have HSM := Lib.hid hyv.2.1
      have HST := Lib.hid hyv.2.2
      have HWx := Lib.hid (HW.out.trans (hal.mono HW.out.size))
      have hdrop : l.drop k = y :: l.drop (k + 1) := by
        have hkl := (List.getElem?_eq_some_iff.1 hy).1
        rw [List.drop_eq_getElem_cons hkl, (List.getElem?_eq_some_iff.1 hy).2]
      have HO2 := Lib.hid (by have := HO.out; rwa [hdrop] at this : fromOk last ⟨#[]⟩ l = fromOk last PK (y :: l.drop (k + 1)))
      have HPN : Hid ((k + 1 = 0 → y.key = ⟨#[]⟩) ∧ ∀ (j : Nat) (x : Ent), k + 1 = j + 1 → l[j]? = some x → y.key = x.key) := Lib.hid ⟨fun h => by omega, fun j x h hx => by
        have : j = k := by omega
        subst this
        rw [hy] at hx
        injection hx with hx
        rw [hx]⟩
      have HP0 : Hid (k = 0 → PK = ⟨#[]⟩) := Lib.hid HP.out.1
      have HPK : Hid (0 < k → PK = x'.key) := Lib.hid (fun h => HP.out.2 (k - 1) x' (by omega) hx')
      have hr0 : (0 : Int) ≤ (k : Int) - 1 ∨ k = 0 := by omega
      clear hRV hyv hal bx hdrop HO hy hx' p0 HP
      cases hk : keyOk y.key with
      | false =>
        have hkey := fun w' => (refkey_any y.key w').mono (fun e w'' h => show e = .returned (.bool false) ∧ Below w'.heap.size w' w'' from ⟨by rw [← hk]; exact h.1, h.2 ▸ Below.refl _ _⟩)
        have HF := Lib.hid (by rw [HO2.out, fromOk, fitsE, hk]; rfl : fromOk last ⟨#[]⟩ l = false)
        clear HO2 hk hlen0
        go_wp2_with fail
        refine wp_region_later (by kernel_rfl) (by kernel_rfl) ?_
        repeat (go_big_quiet_step ((first | (go_at_call 84; exact Later.call _ (hkey _) (Nat.le_refl _)) | (go_at_call 85; exact Later.call _ (hright _ (Later.ok _)) (Nat.le_refl _)))))
        refine wpQuiet_nil ?_
        rintro _ ⟨z, rfl⟩
        go_wp2_with fail
        go_ret
        exact refP_no HF.out (HWx.out.trans (z.ok.mono HWx.out.size))
      | true =>
      have hkey := fun w' => (refkey_any y.key w').mono (fun e w'' h => show e = .returned (.bool true) ∧ Below w'.heap.size w' w'' from ⟨by rw [← hk]; exact h.1, h.2 ▸ Below.refl _ _⟩)
      by_cases hk0 : 0 < k
      · have q3 : (0 : Int) < (k : Int) := by omega
        have j0 : IntKind.i64.wrap ((k : Int) - 1) = ((k - 1 : Nat) : Int) := by rw [IntKind.wrap_i64]; omega
        have j1 : (0 : Int) ≤ ((k - 1 : Nat) : Int) := Int.natCast_nonneg _
        have j2 : ((k - 1 : Nat) : Int) < (n : Int) := by omega
        have hcmp := kle y.key x'.key
        cases hlk : Op.bytesLess x'.key.toList y.key.toList with
        | false =>
          have HF := Lib.hid (by rw [HO2.out, fromOk, HPK.out hk0, hlk]; simp : fromOk last ⟨#[]⟩ l = false)
          rw [hlk] at hcmp
          clear HO2 hlk hlen0
          go_wp2_with fail
          refine wp_region_later (by kernel_rfl) (by kernel_rfl) ?_
          repeat (go_big_quiet_step ((first | (go_at_call 84; exact Later.call _ (hkey _) (Nat.le_refl _)) | (go_at_call 85; exact Later.call _ (hright _ (Later.ok _)) (Nat.le_refl _)))))
          refine wpQuiet_nil ?_
          rintro _ ⟨z, rfl⟩
          go_wp2_with fail
          go_ret
          exact refP_no HF.out (HWx.out.trans (z.ok.mono HWx.out.size))
        | true =>
        have HLT : Hid (Op.bytesLess PK.toList y.key.toList = true) := Lib.hid (by rw [HPK.out hk0]; exact hlk)
        rw [hlk] at hcmp
        clear hlk
        by_cases h0 : 0 < vm
        case neg =>
          have hv0 : vm = 0 := by omega
          subst hv0
          have HF := Lib.hid (by rw [HO2.out, fromOk, fitsE, hlen0]; simp : fromOk last ⟨#[]⟩ l = false)
          clear HO2 hlen0
          go_wp2_with fail
          refine wp_region_later (by kernel_rfl) (by kernel_rfl) ?_
          repeat (go_big_quiet_step ((first | (go_at_call 84; exact Later.call _ (hkey _) (Nat.le_refl _)) | (go_at_call 85; exact Later.call _ (hright _ (Later.ok _)) (Nat.le_refl _)))))
          refine wpQuiet_nil ?_
          rintro _ ⟨z, rfl⟩
          go_wp2_with fail
          go_ret
          exact refP_no HF.out (HWx.out.trans (z.ok.mono HWx.out.size))
        have q0 : ((vm : Int) == 0) = false := by simp; omega
        have q0b : (vm : Int) ≠ 0 := by omega
        obtain ⟨vb2, vo2, rfl, _, hvb2⟩ := HV.out.addr h0
        obtain ⟨x0, _, _, _, hx0, _, _, g0, _⟩ := vers_at HV.out h0
        obtain ⟨xl, _, _, _, hxl, _, _, gl, _⟩ := vers_at HV.out (show vm - 1 < vm by omega)
        have hd0 : y.vers.getD 0 .none_ = x0 := by rw [List.getD_eq_getElem?_getD, hx0]; rfl
        have hdl : y.vers.getD (vm - 1) .none_ = xl := by rw [List.getD_eq_getElem?_getD, hxl]; rfl
        have hxs : 0 ≤ xl.stamp := HST.out xl (List.mem_of_getElem? hxl)
        rw [Nat.zero_mul, Nat.add_zero] at g0
        have i0 : IntKind.i64.wrap ((vm : Int) - 1) = ((vm - 1 : Nat) : Int) := by rw [IntKind.wrap_i64]; omega
        have i1 : (0 : Int) ≤ ((vm - 1 : Nat) : Int) := Int.natCast_nonneg _
        have i2 : ((vm - 1 : Nat) : Int) < (vm : Int) := by omega
        have i3 : (0 : Int) < (vm : Int) := by omega
        clear hx0 hxl
        cases hr : rightL y.vers with
        | false =>
          have HF := Lib.hid (by rw [HO2.out, fromOk, fitsE, hr]; simp : fromOk last ⟨#[]⟩ l = false)
          have hright := fun w' (hb : Below wx.heap.size wx w') => by have := refRight_any (some ⟨vb2, vo2, none⟩) vm vc w' (by omega) (Lib.hid (HV.out.below VerR.stable hb)) HSM.out; rwa [hr] at this
          clear HO2 hlen0
          go_wp2_with fail
          refine wp_region_later (by kernel_rfl) (by kernel_rfl) ?_
          repeat (go_big_quiet_step ((first | (go_at_call 84; exact Later.call _ (hkey _) (Nat.le_refl _)) | (go_at_call 85; exact Later.call _ (hright _ (Later.ok _)) (Nat.le_refl _)))))
          refine wpQuiet_nil ?_
          rintro _ ⟨z, rfl⟩
          go_wp2_with fail
          go_ret
          exact refP_no HF.out (HWx.out.trans (z.ok.mono HWx.out.size))
        | true =>
        have hright := fun w' (hb : Below wx.heap.size wx w') => by have := refRight_any (some ⟨vb2, vo2, none⟩) vm vc w' (by omega) (Lib.hid (HV.out.below VerR.stable hb)) HSM.out; rwa [hr] at this
        by_cases h1 : x0.stamp ≤ last
        case neg =>
          have q1 : decide (last < x0.stamp) = true := decide_eq_true (by omega)
          have HF := Lib.hid (by rw [HO2.out, fromOk, fitsE, hlen0, hd0, decide_eq_false h1]; simp : fromOk last ⟨#[]⟩ l = false)
          clear HO2 hlen0 h1
          go_wp2_with fail
          refine wp_region_later (by kernel_rfl) (by kernel_rfl) ?_
          repeat (go_big_quiet_step ((first | (go_at_call 84; exact Later.call _ (hkey _) (Nat.le_refl _)) | (go_at_call 85; exact Later.call _ (hright _ (Later.ok _)) (Nat.le_refl _)))))
          refine wpQuiet_nil ?_
          rintro _ ⟨z, rfl⟩
          go_wp2_with fail
          go_ret
          exact refP_no HF.out (HWx.out.trans (z.ok.mono HWx.out.size))
        have q1 : decide (last < x0.stamp) = false := decide_eq_false (by omega)
        by_cases h2 : xl.stamp = 0
        · have q2 : (xl.stamp == 0) = true := beq_iff_eq.2 h2
          have HF := Lib.hid (by rw [HO2.out, fromOk, fitsE, hlen0, hdl, h2]; simp : fromOk last ⟨#[]⟩ l = false)
          clear HO2 hlen0 h1
          go_wp2_with fail
          refine wp_region_later (by kernel_rfl) (by kernel_rfl) ?_
          repeat (go_big_quiet_step ((first | (go_at_call 84; exact Later.call _ (hkey _) (Nat.le_refl _)) | (go_at_call 85; exact Later.call _ (hright _ (Later.ok _)) (Nat.le_refl _)))))
          refine wpQuiet_nil ?_
          rintro _ ⟨z, rfl⟩
          go_wp2_with fail
          go_ret
          exact refP_no HF.out (HWx.out.trans (z.ok.mono HWx.out.size))
        · have q2 : (xl.stamp == 0) = false := by simpa using h2
          have HOK := Lib.hid (by rw [HO2.out, fromOk, fitsE, hlen0, hd0, hdl, decide_eq_true h1, decide_eq_true (show 0 < xl.stamp by omega), decide_eq_true h0, hr, hk, HLT.out]; simp : fromOk last ⟨#[]⟩ l = fromOk last y.key (l.drop (k + 1)))
          clear HO2 hlen0 h1 h2
          go_wp2_with fail
          refine wp_region_later (by kernel_rfl) (by kernel_rfl) ?_
          repeat (go_big_quiet_step ((first | (go_at_call 84; exact Later.call _ (hkey _) (Nat.le_refl _)) | (go_at_call 85; exact Later.call _ (hright _ (Later.ok _)) (Nat.le_refl _)))))
          refine wpQuiet_nil ?_
          rintro _ ⟨z, rfl⟩
          go_wp2_with fail
          exact ⟨⟨k + 1, y.key, by omega, by go_num, Lib.hid (HWx.out.trans (z.ok.mono HWx.out.size)), HOK, HPN⟩, by simp [intOf]; omega⟩
      · have q3 : ¬ (0 : Int) < (k : Int) := by omega
        have HLT : Hid (Op.bytesLess PK.toList y.key.toList = true) := Lib.hid (by rw [HP0.out (by omega)]; exact key_first hk)
        by_cases h0 : 0 < vm
        case neg =>
          have hv0 : vm = 0 := by omega
          subst hv0
          have HF := Lib.hid (by rw [HO2.out, fromOk, fitsE, hlen0]; simp : fromOk last ⟨#[]⟩ l = false)
          clear HO2 hlen0
          go_wp2_with fail
          refine wp_region_later (by kernel_rfl) (by kernel_rfl) ?_
          repeat (go_big_quiet_step ((first | (go_at_call 84; exact Later.call _ (hkey _) (Nat.le_refl _)) | (go_at_call 85; exact Later.call _ (hright _ (Later.ok _)) (Nat.le_refl _)))))
          refine wpQuiet_nil ?_
          rintro _ ⟨z, rfl⟩
          go_wp2_with fail
          go_ret
          exact refP_no HF.out (HWx.out.trans (z.ok.mono HWx.out.size))
        have q0 : ((vm : Int) == 0) = false := by simp; omega
        have q0b : (vm : Int) ≠ 0 := by omega
        obtain ⟨vb2, vo2, rfl, _, hvb2⟩ := HV.out.addr h0
        obtain ⟨x0, _, _, _, hx0, _, _, g0, _⟩ := vers_at HV.out h0
        obtain ⟨xl, _, _, _, hxl, _, _, gl, _⟩ := vers_at HV.out (show vm - 1 < vm by omega)
        have hd0 : y.vers.getD 0 .none_ = x0 := by rw [List.getD_eq_getElem?_getD, hx0]; rfl
        have hdl : y.vers.getD (vm - 1) .none_ = xl := by rw [List.getD_eq_getElem?_getD, hxl]; rfl
        have hxs : 0 ≤ xl.stamp := HST.out xl (List.mem_of_getElem? hxl)
        rw [Nat.zero_mul, Nat.add_zero] at g0
        have i0 : IntKind.i64.wrap ((vm : Int) - 1) = ((vm - 1 : Nat) : Int) := by rw [IntKind.wrap_i64]; omega
        have i1 : (0 : Int) ≤ ((vm - 1 : Nat) : Int) := Int.natCast_nonneg _
        have i2 : ((vm - 1 : Nat) : Int) < (vm : Int) := by omega
        have i3 : (0 : Int) < (vm : Int) := by omega
        clear hx0 hxl
        cases hr : rightL y.vers with
        | false =>
          have HF := Lib.hid (by rw [HO2.out, fromOk, fitsE, hr]; simp : fromOk last ⟨#[]⟩ l = false)
          have hright := fun w' (hb : Below wx.heap.size wx w') => by have := refRight_any (some ⟨vb2, vo2, none⟩) vm vc w' (by omega) (Lib.hid (HV.out.below VerR.stable hb)) HSM.out; rwa [hr] at this
          clear HO2 hlen0
          go_wp2_with fail
          refine wp_region_later (by kernel_rfl) (by kernel_rfl) ?_
          repeat (go_big_quiet_step ((first | (go_at_call 84; exact Later.call _ (hkey _) (Nat.le_refl _)) | (go_at_call 85; exact Later.call _ (hright _ (Later.ok _)) (Nat.le_refl _)))))
          refine wpQuiet_nil ?_
          rintro _ ⟨z, rfl⟩
          go_wp2_with fail
          go_ret
          exact refP_no HF.out (HWx.out.trans (z.ok.mono HWx.out.size))
        | true =>
        have hright := fun w' (hb : Below wx.heap.size wx w') => by have := refRight_any (some ⟨vb2, vo2, none⟩) vm vc w' (by omega) (Lib.hid (HV.out.below VerR.stable hb)) HSM.out; rwa [hr] at this
        by_cases h1 : x0.stamp ≤ last
        case neg =>
          have q1 : decide (last < x0.stamp) = true := decide_eq_true (by omega)
          have HF := Lib.hid (by rw [HO2.out, fromOk, fitsE, hlen0, hd0, decide_eq_false h1]; simp : fromOk last ⟨#[]⟩ l = false)
          clear HO2 hlen0 h1
          go_wp2_with fail
          refine wp_region_later (by kernel_rfl) (by kernel_rfl) ?_
          repeat (go_big_quiet_step ((first | (go_at_call 84; exact Later.call _ (hkey _) (Nat.le_refl _)) | (go_at_call 85; exact Later.call _ (hright _ (Later.ok _)) (Nat.le_refl _)))))
          refine wpQuiet_nil ?_
          rintro _ ⟨z, rfl⟩
          go_wp2_with fail
          go_ret
          exact refP_no HF.out (HWx.out.trans (z.ok.mono HWx.out.size))
        have q1 : decide (last < x0.stamp) = false := decide_eq_false (by omega)
        by_cases h2 : xl.stamp = 0
        · have q2 : (xl.stamp == 0) = true := beq_iff_eq.2 h2
          have HF := Lib.hid (by rw [HO2.out, fromOk, fitsE, hlen0, hdl, h2]; simp : fromOk last ⟨#[]⟩ l = false)
          clear HO2 hlen0 h1
          go_wp2_with fail
          refine wp_region_later (by kernel_rfl) (by kernel_rfl) ?_
          repeat (go_big_quiet_step ((first | (go_at_call 84; exact Later.call _ (hkey _) (Nat.le_refl _)) | (go_at_call 85; exact Later.call _ (hright _ (Later.ok _)) (Nat.le_refl _)))))
          refine wpQuiet_nil ?_
          rintro _ ⟨z, rfl⟩
          go_wp2_with fail
          go_ret
          exact refP_no HF.out (HWx.out.trans (z.ok.mono HWx.out.size))
        · have q2 : (xl.stamp == 0) = false := by simpa using h2
          have HOK := Lib.hid (by rw [HO2.out, fromOk, fitsE, hlen0, hd0, hdl, decide_eq_true h1, decide_eq_true (show 0 < xl.stamp by omega), decide_eq_true h0, hr, hk, HLT.out]; simp : fromOk last ⟨#[]⟩ l = fromOk last y.key (l.drop (k + 1)))
          clear HO2 hlen0 h1 h2
          go_wp2_with fail
          refine wp_region_later (by kernel_rfl) (by kernel_rfl) ?_
          repeat (go_big_quiet_step ((first | (go_at_call 84; exact Later.call _ (hkey _) (Nat.le_refl _)) | (go_at_call 85; exact Later.call _ (hright _ (Later.ok _)) (Nat.le_refl _)))))
          refine wpQuiet_nil ?_
          rintro _ ⟨z, rfl⟩
          go_wp2_with fail
          exact ⟨⟨k + 1, y.key, by omega, by go_num, Lib.hid (HWx.out.trans (z.ok.mono HWx.out.size)), HOK, HPN⟩, by simp [intOf]; omega⟩
    · have q1' : ¬ (k : Int) < (n : Int) := by omega
      have hkn : k = n := by omega
      subst hkn
      have hokk : fromOk last ⟨#[]⟩ l = true := by rw [HO.out, List.drop_of_length_le (by omega)]; rfl
      have hA : Below wq.heap.size wq (wq.alloc (.cells #[] 72)) := (Below.refl _ _).alloc (Nat.le_refl _) _
      have own := OwnL.made (R := EntR) (E := 72) (s := 2) (base := wq.heap.size) (S := fun _ => True) (w := wq) #[] 0 (Nat.le_refl _) (by decide) rfl
      obtain ⟨wa, hwa⟩ : ∃ wa, wq.alloc (.cells #[] 72) = wa := ⟨_, rfl⟩
      rw [hwa] at hA own
      have R0 : RdL EntR 2 (fun b => b < w.heap.size) w A k l := R.out.stable EntR.stable (fun b _ hl => ⟨hl, rfl⟩)
      have RL := R0.below EntR.stable (HW.out.trans (hA.mono HW.out.size))
      have hws := HW.out.size
      have hown : ∀ b, b < w.heap.size → (Value.slice (some ⟨wq.heap.size, 0, none⟩) 0 0).ownBlock ≠ some b := fun b hb e => by have := (own.lt b e).1; omega
      go_wp2_with (at_builtin; refine wpList_appL EntR.stable EntR.one sl_row rfl (by exact rfl) (base := wq.heap.size) (S := fun _ => True) (by exact rfl) own (by exact rfl) RL (fun cs y hy => EntR.stable _ _ _ _ _ _ hy (fun b hb _ => ⟨⟨trivial, fun e => by have h1 := (own.lt b e.symm).1; have h2 : b < w.heap.size := hb; omega⟩, rfl⟩)) (by unfold maxLen; omega) (by omega) hA.size ?_; intro A7 c7 w7 hc7 own7 hg7 hat7)
      have b7 : Below wq.heap.size wq w7 := hA.grown hg7 hA.size (fun q hq => (own.lt q hq).1)
      rw [Nat.zero_add] at own7 hc7
      rw [List.nil_append] at own7
      obtain ⟨A8, c8, e8, hc8, r8⟩ := own7.rd (S' := fun _ => True) (fun _ _ => trivial) (fun cs x hx => EntR.stable _ _ _ _ _ _ hx fun b hb _ => ⟨trivial, rfl⟩)
      injection e8 with e81 e82 e83
      subst e81; subst e83
      have X := BoxAt.new w7 #[.slice A7 k c7, .int .u64 last] 152
      have hb9 : Below w7.heap.size w7 (w7.alloc (.cells #[.slice A7 k c7, .int .u64 last] 152)) := (Below.refl _ _).alloc (Nat.le_refl _) _
      go_ret
      refine ⟨HW.out.trans ((b7.trans (hb9.mono b7.size)).mono hws), ?_⟩
      rw [hokk, if_pos rfl, hll]
      exact ⟨_, A7, c7, rfl, X, r8.below EntR.stable hb9⟩
end Go.Proofs.Ytpibaahiboajhaa
