/-
  What is seen with a buffer's writes over a base.
-/
import Derived.Test.YtpibaahiboajhaaBuf6
set_option linter.unusedSimpArgs false
set_option linter.unusedVariables false
namespace Go.Proofs.Ytpibaahiboajhaa
open Go.RowKit Go.Cib
attribute [local go_sem] cell_set Later.cell Later.frozen Grw.cell Grw.frozen
theorem run_min_b (ts : Array TypeId) (t : TypeId) (x y : Int) (w : World) : (Builtin.min_ ts t #[.int .i64 x, .int .i64 y]).run Try.prog w = .ok (.int .i64 (min x y)) w := by
  rw [run_min_int2, show (if y < x then y else x) = min x y by omega]
theorem run_max_b (ts : Array TypeId) (t : TypeId) (x y : Int) (w : World) : (Builtin.max_ ts t #[.int .i64 x, .int .i64 y]).run Try.prog w = .ok (.int .i64 (max x y)) w := by
  rw [run_max_int2]
  congr 2
  omega
attribute [local go_sem ↓] run_min_b run_max_b

def cutN (k : ByteArray) (O : List Fd) : Nat := (O.takeWhile fun x => Op.bytesLess x.key.toList k.toList).length
/-- What is seen: the own ones (O) among the base's. -/
def overL (L : List Wr) (f t : ByteArray) : List Fd → List Fd → List Fd
  | O, [] => O
  | O, g :: r => O.take (cutN g.key O) ++ (leftL L f t [g] ++ overL L f t (O.drop (cutN g.key O)) r)
theorem cut_le (k : ByteArray) (O : List Fd) : cutN k O ≤ O.length := by
  unfold cutN
  exact List.Sublist.length_le (List.takeWhile_sublist _)
theorem cut_lt {k : ByteArray} {O : List Fd} {j : Nat} {x : Fd} (hx : O[j]? = some x) (h : Op.bytesLess x.key.toList k.toList = true) : cutN k (O.drop j) = 1 + cutN k (O.drop (j + 1)) := by
  have hj : j < O.length := (List.getElem?_eq_some_iff.1 hx).1
  rw [List.drop_eq_getElem_cons hj]
  have : O[j] = x := (List.getElem?_eq_some_iff.1 hx).2
  rw [this]
  unfold cutN
  rw [List.takeWhile_cons, if_pos h, List.length_cons]; omega
theorem cut_ge {k : ByteArray} {O : List Fd} {j : Nat} {x : Fd} (hx : O[j]? = some x) (h : Op.bytesLess x.key.toList k.toList = false) : cutN k (O.drop j) = 0 := by
  have hj : j < O.length := (List.getElem?_eq_some_iff.1 hx).1
  rw [List.drop_eq_getElem_cons hj]
  have : O[j] = x := (List.getElem?_eq_some_iff.1 hx).2
  rw [this]
  unfold cutN
  rw [List.takeWhile_cons, if_neg (by rw [h]; decide)]; rfl
theorem over_len (L : List Wr) (f t : ByteArray) : ∀ (O xs : List Fd), (overL L f t O xs).length ≤ O.length + xs.length
  | O, [] => by simp [overL]
  | O, g :: r => by
    unfold overL
    have h1 := over_len L f t (O.drop (cutN g.key O)) r
    have h2 := left_len L f t [g]
    have h3 := cut_le g.key O
    simp only [List.length_append, List.length_take, List.length_drop, List.length_cons, List.length_nil] at *
    omega

/-! ### Pieces of slices -/
theorem slice_pre {A : Option Addr} {N c k : Nat} (hk : k ≤ c) (w : World) : (Instr.slice 66 (.slice A N c) none (some (.int .i64 (k : Int))) none).run Try.prog w = .ok (.slice A k c) w := by
  have h0 : (0 : Int) ≤ (k : Int) := Int.natCast_nonneg _
  have h2 : (k : Int) ≤ (c : Int) := by omega
  cases A with
  | none => go_simp
  | some p => obtain ⟨b, o, x⟩ := p; go_simp
theorem slice_suf {A : Option Addr} {N c k : Nat} (hk : k ≤ N) (w : World) : (Instr.slice 66 (.slice A N c) (some (.int .i64 (k : Int))) none none).run Try.prog w = .ok (.slice (if c = k then A else A.map (·.add (k * 6))) (N - k) (c - k)) w := by
  have h0 : (0 : Int) ≤ (k : Int) := Int.natCast_nonneg _
  have h2 : (k : Int) ≤ (N : Int) := by omega
  go_simp
theorem RdL.suf {S : Nat → Prop} {w : World} {A : Option Addr} {n c : Nat} {xs : List Fd} (h : RdL FdR 6 S w A n xs) (hn : n ≤ c) {k : Nat} (hk : k ≤ n) : RdL FdR 6 S w (if c = k then A else A.map (·.add (k * 6))) (n - k) (xs.drop k) := by
  by_cases hkn : k = n
  · subst hkn
    rw [Nat.sub_self, List.drop_of_length_le (by rw [h.1]; exact Nat.le_refl _)]
    exact RdL.nil
  · rw [if_neg (by omega)]
    obtain ⟨b, o, rfl, _⟩ := h.addr (k := k) (by omega)
    have e : Option.map (fun x : Addr => x.add (k * 6)) (some ⟨b, o, none⟩) = some ⟨b, o + k * 6, none⟩ := by
      simp only [Option.map_some, Addr.add]
      split
      · rename_i e; rw [e]; rfl
      · rfl
    rw [e]
    exact RdL.drop h hk
theorem fds_box3 {S : Nat → Prop} {w : World} {b : Nat} {A1 A2 A3 : Option Addr} {m1 m2 m3 c1 c2 c3 : Nat} {x1 x2 x3 : List Fd} (h : BoxAt w b #[.slice A1 m1 c1, .slice A2 m2 c2, .slice A3 m3 c3]) (hS : S b)
    (h1 : RdL FdR 6 S w A1 m1 x1) (h2 : RdL FdR 6 S w A2 m2 x2) (h3 : RdL FdR 6 S w A3 m3 x3) : RdL FdsR 1 S w (some ⟨b, 0, none⟩) 3 [x1, x2, x3] := by
  refine ⟨rfl, fun _ => ⟨b, 0, rfl, hS, h.lt, fun i x hx => ?_⟩⟩
  match i, hx with
  | 0, hx => cases hx; exact ⟨[.slice A1 m1 c1], rfl, ⟨_, _, _, rfl, h1⟩, fun | 0, v, hj => by cases hj; exact h.cell 0⟩
  | 1, hx => cases hx; exact ⟨[.slice A2 m2 c2], rfl, ⟨_, _, _, rfl, h2⟩, fun | 0, v, hj => by cases hj; exact h.cell 1⟩
  | 2, hx => cases hx; exact ⟨[.slice A3 m3 c3], rfl, ⟨_, _, _, rfl, h3⟩, fun | 0, v, hj => by cases hj; exact h.cell 2⟩
theorem fds_box2 {S : Nat → Prop} {w : World} {b : Nat} {A1 A2 : Option Addr} {m1 m2 c1 c2 : Nat} {x1 x2 : List Fd} (h : BoxAt w b #[.slice A1 m1 c1, .slice A2 m2 c2]) (hS : S b)
    (h1 : RdL FdR 6 S w A1 m1 x1) (h2 : RdL FdR 6 S w A2 m2 x2) : RdL FdsR 1 S w (some ⟨b, 0, none⟩) 2 [x1, x2] := by
  refine ⟨rfl, fun _ => ⟨b, 0, rfl, hS, h.lt, fun i x hx => ?_⟩⟩
  match i, hx with
  | 0, hx => cases hx; exact ⟨[.slice A1 m1 c1], rfl, ⟨_, _, _, rfl, h1⟩, fun | 0, v, hj => by cases hj; exact h.cell 0⟩
  | 1, hx => cases hx; exact ⟨[.slice A2 m2 c2], rfl, ⟨_, _, _, rfl, h2⟩, fun | 0, v, hj => by cases hj; exact h.cell 1⟩

def FdsE (w : World) (l : List Fd) (e : Ending) (w' : World) : Prop := ∃ A c, e = .returned (.slice A l.length c) ∧ RdL FdR 6 (w.heap.size ≤ ·) w' A l.length l ∧ Below w.heap.size w w'
def mostN (most : Int) (n : Nat) : Nat := (max 0 (min most (n : Int))).toNat
def seenL (L : List Wr) (f t : ByteArray) (xs : List Fd) (most : Int) : List Fd := (overL L f t (shownL f t L) xs).take (mostN most (overL L f t (shownL f t L) xs).length)

/-- The lists in the midst of it. -/
structure OverAt (w : World) (L : List Wr) (f t : ByteArray) (T xs : List Fd) (i : Nat) (O Al : List Fd) (Ao Aa : Option Addr) (co ca : Nat) (wr : World) : Prop where
  ro : RdL FdR 6 (w.heap.size ≤ ·) wr Ao O.length O
  ra : RdL FdR 6 (w.heap.size ≤ ·) wr Aa Al.length Al
  co : O.length ≤ co
  lo : O.length ≤ 16
  ko : ∀ x ∈ O, x.key.size ≤ 16
  all : Al ++ overL L f t O (xs.drop i) = T
theorem shown_keys {L : List Wr} (hL : WOk L) (f t : ByteArray) : ∀ x ∈ shownL f t L, x.key.size ≤ 16 := by
  intro x hx
  unfold shownL at hx
  obtain ⟨y, hy, rfl⟩ := List.mem_map.1 hx
  exact (hL.each y (List.mem_filter.1 hy).1).1

set_option maxRecDepth 100000 in
set_option maxHeartbeats 16000000 in
theorem over_any {S : Nat → Prop} {w : World} {p : Option Addr} {L : List Wr} (h : Hid (BufP w p L)) (f t : ByteArray) (most : Int) {A : Option Addr} {m c : Nat} {xs : List Fd} (R : Hid (RdL FdR 6 S w A m xs)) (hm : m ≤ 1000)
    (hx : ∀ x ∈ xs, x.key.size ≤ 1000 ∧ x.val.length ≤ 1000000 ∧ x.places.length ≤ 1000000) :
    Calls Try.prog 59 #[.pointer p, .slice A m c, .agg #[.string f, .string t], .int .i64 most] w fun e w' => FdsE w (seenL L f t xs most) e w' := by
  have wA : Below w.heap.size w (w.alloc (.cells #[.string f, .string t] 56)) := (by repeat (first | (with_reducible exact Below.refl _ _) | (with_reducible assumption) | (with_reducible refine Below.drew ?_) | (with_reducible refine Below.setCell ?_ ?_ _) | (with_reducible refine Below.alloc ?_ ?_ _) | (with_reducible refine Below.later ?_ ?_ _) | (first | (with_reducible exact Nat.le_refl _) | omega | (simp only [World.size_alloc, World.size_setCell, World.size_drew] <;> omega))))
  have X0 := BoxAt.new w #[.string f, .string t] 56
  obtain ⟨wx, hw1⟩ : ∃ w1, w.alloc (.cells #[.string f, .string t] 56) = w1 := ⟨_, rfl⟩
  rw [hw1] at wA X0
  have HP0 := Lib.hid (h.out.below wA)
  have HR0 := Lib.hid (R.out.below FdR.stable wA)
  have HX0 := Lib.hid X0
  have WA := Lib.hid wA
  have hlen : xs.length = m := R.out.1
  have HXS := Lib.hid hx
  have HL := Lib.hid h.out.ok
  have s0 := X0.cell 0; have s1 := X0.cell 1
  clear X0 wA hx
  go_enter Try.func59, Try.ntmps59
  go_wp2_with fail
  refine (shown_any HP0 f t).mono ?_
  rintro e w1 ⟨A1, c1, rfl, hc1, r1, t1⟩
  have hO1 : (shownL f t L).length ≤ 16 := Nat.le_trans (shown_len _) HL.out.len
  obtain ⟨T, hT⟩ : ∃ T, overL L f t (shownL f t L) xs = T := ⟨_, rfl⟩
  have hTl : T.length ≤ 1016 := by rw [← hT]; have := over_len L f t (shownL f t L) xs; omega
  have HT0 := Lib.hid hT
  have ST : Hid (OverAt w L f t T xs 0 (shownL f t L) [] A1 none c1 0 w1) := Lib.hid ⟨r1.weaken FdR.stable (fun b hb => Nat.le_trans WA.out.size hb), RdL.nil, hc1, hO1, shown_keys HL.out f t, by rw [List.drop_zero, List.nil_append]; exact hT⟩
  have T1 := Lib.hid t1
  clear r1 t1 s0 s1 hc1 hT
  obtain ⟨O0, hO0⟩ : ∃ O0, shownL f t L = O0 := ⟨_, rfl⟩
  rw [hO0] at ST hO1 ⊢
  clear hO0
  go_wp2_with fail
  go_loopw [9, 10, 19] (fun own all vi wr => ∃ (i : Nat) (O Al : List Fd) (Ao Aa : Option Addr) (co ca : Nat), i ≤ m ∧ vi = .int .i64 i ∧ own = .slice Ao O.length co ∧ all = .slice Aa Al.length ca ∧ Al.length ≤ 1016 ∧ Al.length ≤ ca ∧ Hid (OverAt w L f t T xs i O Al Ao Aa co ca wr) ∧ Hid (Below wx.heap.size wx wr)) (fun _ _ vi _ => m - (intOf vi).toNat)
  case atStart => exact ⟨0, O0, [], A1, none, c1, 0, Nat.zero_le _, rfl, rfl, rfl, Nat.zero_le _, Nat.zero_le _, ST, T1⟩
  case round =>
    clear ST T1
    obtain ⟨wo, rfl⟩ : ∃ wo, wo = wr := ⟨_, rfl⟩
    obtain ⟨i, O, Al, Ao, Aa, co, ca, hi, rfl, rfl, rfl, hAl, hca, ST, HT⟩ := hrel
    have hO16 := ST.out.lo
    have hOc := ST.out.co
    by_cases hlt : i < m
    · have q1 : (i : Int) < (m : Int) := by omega
      have q2 : (0 : Int) ≤ (i : Int) := Int.natCast_nonneg _
      obtain ⟨bg, og, g, VA, vm, vc, PA, pm, pc, rfl, hx, hg, _, hr, hr2, p0, p1, p2, p3, p4, p5⟩ := fd_at (HR0.out.below FdR.stable HT.out) hlt
      have hgm := HXS.out g (List.mem_of_getElem? hx)
      have hgk : g.key.size ≤ 1000 := hgm.1
      have HG := Lib.hid hgm.2
      have hdr : xs.drop i = g :: xs.drop (i + 1) := by
        have hil : i < xs.length := by omega
        rw [List.drop_eq_getElem_cons hil, (List.getElem?_eq_some_iff.1 hx).2]
      have HDR := Lib.hid hdr
      have wB : Below wo.heap.size wo (wo.alloc (.cells #[.string g.key, .bool g.own, .slice VA vm vc, .slice PA pm pc, .int .u64 g.gen, .int .i64 g.size] 82)) := (by repeat (first | (with_reducible exact Below.refl _ _) | (with_reducible assumption) | (with_reducible refine Below.drew ?_) | (with_reducible refine Below.setCell ?_ ?_ _) | (with_reducible refine Below.alloc ?_ ?_ _) | (with_reducible refine Below.later ?_ ?_ _) | (first | (with_reducible exact Nat.le_refl _) | omega | (simp only [World.size_alloc, World.size_setCell, World.size_drew] <;> omega))))
      have X2 := BoxAt.new wo #[.string g.key, .bool g.own, .slice VA vm vc, .slice PA pm pc, .int .u64 g.gen, .int .i64 g.size] 82
      obtain ⟨w2, hw2⟩ : ∃ w2, wo.alloc (.cells #[.string g.key, .bool g.own, .slice VA vm vc, .slice PA pm pc, .int .u64 g.gen, .int .i64 g.size] 82) = w2 := ⟨_, rfl⟩
      rw [hw2] at wB X2
      have WB := Lib.hid (below_then wB HT.out)
      have HX2 := Lib.hid X2
      have HO2 := Lib.hid (ST.out.ro.below FdR.stable wB)
      have HA2 := Lib.hid (ST.out.ra.below FdR.stable wB)
      have HV2 := Lib.hid (hr.below U8R.stable wB)
      have HI2 := Lib.hid (hr2.below IntR.stable wB)
      have hkO := Lib.hid ST.out.ko
      have hALL := Lib.hid ST.out.all
      clear hdr X2 wB hx hgm hr hr2
      go_wp2_with fail
      clear p0 p1 p2 p3 p4 p5
      clear hw2
      go_loopw [13] (fun vj wr => ∃ j : Nat, vj = .int .i64 j ∧ j ≤ O.length ∧ Hid (cutN g.key O = j + cutN g.key (O.drop j)) ∧ Hid (Below w2.heap.size w2 wr)) (fun vj _ => O.length - (intOf vj).toNat)
      case atStart => exact ⟨0, rfl, Nat.zero_le _, Lib.hid (by simp), Lib.hid (Below.refl _ _)⟩
      case round =>
        obtain ⟨wq, rfl⟩ : ∃ wq, wq = wr := ⟨_, rfl⟩
        obtain ⟨j, rfl, hj, hcut, HTq⟩ := hrel
        have q3 : (0 : Int) ≤ (j : Int) := Int.natCast_nonneg _
        have HOq := Lib.hid (HO2.out.below FdR.stable HTq.out)
        have HAq := Lib.hid (HA2.out.below FdR.stable HTq.out)
        have HVq := Lib.hid (HV2.out.below U8R.stable HTq.out)
        have HPl := Lib.hid (HI2.out.below IntR.stable HTq.out)
        have Xq := HX2.out.below HTq.out
        have Wq := Lib.hid (below_then HTq.out WB.out)
        have HPq := Lib.hid (HP0.out.below Wq.out)
        have Y0 := HX0.out.below Wq.out
        have hxl := Xq.lt
        have hyl := Y0.lt
        have hwq : w.heap.size ≤ wq.heap.size := Nat.le_trans WA.out.size Wq.out.size
        have hlast : ∀ (hcj : cutN g.key O = j), True := fun _ => trivial
        by_cases hjl : j < O.length
        · have q4 : (j : Int) < (O.length : Int) := by omega
          obtain ⟨bo, oo, x, VB, vn, vd, PB, pn, pd, rfl, hxo, hbo, _, _, _, k0, _⟩ := fd_at HOq.out hjl
          have hxk : x.key.size ≤ 16 := hkO.out x (List.mem_of_getElem? hxo)
          have u0 := fun w' (hb : Below wq.heap.size wq w') => (hb.cell (p := ⟨bo, oo + j * 6, none⟩) hbo).trans k0
          have u1 := fun w' (hb : Below wq.heap.size wq w') => (hb.cell (p := ⟨wo.heap.size, 0, none⟩) hxl).trans (Xq.cell 0)
          have HXO := Lib.hid hxo
          clear k0 hxo
          cases hls : Op.bytesLess x.key.toList g.key.toList with
          | true =>
            have hc2 := cut_lt HXO.out hls
            have HC2 := Lib.hid hc2
            have HLS := Lib.hid hls
            clear hc2
            go_wp2_with fail
            refine wp_region_held_drew (S := fun w' => Below wq.heap.size wq w') (by kernel_rfl) (by first | assumption | exact Below.refl _ _ | exact (Below.refl _ _).drew | exact (by repeat (first | (with_reducible exact Below.refl _ _) | (with_reducible assumption) | (with_reducible refine Below.drew ?_) | (with_reducible refine Below.setCell ?_ ?_ _) | (with_reducible refine Below.alloc ?_ ?_ _) | (with_reducible refine Below.later ?_ ?_ _) | (first | (with_reducible exact Nat.le_refl _) | omega | (simp only [World.size_alloc, World.size_setCell, World.size_drew] <;> omega))))) (fun hHeld => ?_)
            refine wpAnyH_take (i := 0) (v := ?_) rfl (by kernel_rfl) (by kernel_rfl) (by kernel_rfl) (fun _ _ _ h => h) (Or.inl ⟨by first | kernel_rfl | rfl, ?_⟩) (by assumption) ?_
            rotate_left
            · (intro wq hSw; (try dsimp only at hSw); (try simp (maxSteps := 2000000) only [List.getElem_toArray, List.getElem_cons_succ, List.getElem_cons_zero]); go_simp); try with_reducible rfl
            try simp (maxSteps := 2000000) only [List.getElem_toArray, List.getElem_cons_succ, List.getElem_cons_zero, Act.put, List.setIfInBounds_toArray, List.set_cons_zero, List.set_cons_succ]
            refine wpAnyH_take (i := 1) (v := ?_) rfl (by kernel_rfl) (by kernel_rfl) (by kernel_rfl) (fun _ _ _ h => h) (Or.inl ⟨by first | kernel_rfl | rfl, ?_⟩) (by assumption) ?_
            rotate_left
            · (intro wq hSw; (try dsimp only at hSw); (try simp (maxSteps := 2000000) only [List.getElem_toArray, List.getElem_cons_succ, List.getElem_cons_zero]); go_simp); try with_reducible rfl
            try simp (maxSteps := 2000000) only [List.getElem_toArray, List.getElem_cons_succ, List.getElem_cons_zero, Act.put, List.setIfInBounds_toArray, List.set_cons_zero, List.set_cons_succ]
            refine wpAnyH_take (i := 2) (v := ?_) rfl (by kernel_rfl) (by kernel_rfl) (by kernel_rfl) (fun _ _ _ h => h) (Or.inl ⟨by first | kernel_rfl | rfl, ?_⟩) (by assumption) ?_
            rotate_left
            · (intro wq hSw; (try dsimp only at hSw); (try simp (maxSteps := 2000000) only [List.getElem_toArray, List.getElem_cons_succ, List.getElem_cons_zero]); go_simp); try with_reducible rfl
            try simp (maxSteps := 2000000) only [List.getElem_toArray, List.getElem_cons_succ, List.getElem_cons_zero, Act.put, List.setIfInBounds_toArray, List.set_cons_zero, List.set_cons_succ]
            refine wpAnyH_take (i := 3) (v := ?_) rfl (by kernel_rfl) (by kernel_rfl) (by kernel_rfl) (fun _ _ _ h => h) (Or.inl ⟨by first | kernel_rfl | rfl, ?_⟩) (by assumption) ?_
            rotate_left
            · (intro wq hSw; (try dsimp only at hSw); (try simp (maxSteps := 2000000) only [List.getElem_toArray, List.getElem_cons_succ, List.getElem_cons_zero]); go_simp); try with_reducible rfl
            try simp (maxSteps := 2000000) only [List.getElem_toArray, List.getElem_cons_succ, List.getElem_cons_zero, Act.put, List.setIfInBounds_toArray, List.set_cons_zero, List.set_cons_succ]
            refine wpAnyH_take (i := 4) (v := ?_) rfl (by kernel_rfl) (by kernel_rfl) (by kernel_rfl) (fun _ _ _ h => h) (Or.inl ⟨by first | kernel_rfl | rfl, ?_⟩) (by assumption) ?_
            rotate_left
            · (intro wq hSw; (try dsimp only at hSw); (try simp (maxSteps := 2000000) only [List.getElem_toArray, List.getElem_cons_succ, List.getElem_cons_zero]); go_simp); try with_reducible rfl
            try simp (maxSteps := 2000000) only [List.getElem_toArray, List.getElem_cons_succ, List.getElem_cons_zero, Act.put, List.setIfInBounds_toArray, List.set_cons_zero, List.set_cons_succ]
            refine wpAnyH_take (i := 5) (v := ?_) rfl (by kernel_rfl) (by kernel_rfl) (by kernel_rfl) (fun _ _ _ h => h) (Or.inl ⟨by first | kernel_rfl | rfl, ?_⟩) (by assumption) ?_
            rotate_left
            · (intro wq hSw; (try dsimp only at hSw); (try simp (maxSteps := 2000000) only [List.getElem_toArray, List.getElem_cons_succ, List.getElem_cons_zero]); go_simp); try with_reducible rfl
            try simp (maxSteps := 2000000) only [List.getElem_toArray, List.getElem_cons_succ, List.getElem_cons_zero, Act.put, List.setIfInBounds_toArray, List.set_cons_zero, List.set_cons_succ]
            refine wpAnyH_take (i := 6) (v := ?_) rfl (by kernel_rfl) (by kernel_rfl) (by kernel_rfl) (fun _ _ _ h => h) (Or.inl ⟨by first | kernel_rfl | rfl, ?_⟩) (by assumption) ?_
            rotate_left
            · (intro wq hSw; (try dsimp only at hSw); (try simp (maxSteps := 2000000) only [List.getElem_toArray, List.getElem_cons_succ, List.getElem_cons_zero]); go_simp); try with_reducible rfl
            try simp (maxSteps := 2000000) only [List.getElem_toArray, List.getElem_cons_succ, List.getElem_cons_zero, Act.put, List.setIfInBounds_toArray, List.set_cons_zero, List.set_cons_succ]
            refine wpAnyH_take (i := 7) (v := ?_) rfl (by kernel_rfl) (by kernel_rfl) (by kernel_rfl) (fun _ _ _ h => h) (Or.inl ⟨by first | kernel_rfl | rfl, ?_⟩) (by assumption) ?_
            rotate_left
            · (intro wq hSw; (try dsimp only at hSw); (try simp (maxSteps := 2000000) only [List.getElem_toArray, List.getElem_cons_succ, List.getElem_cons_zero]); go_simp); try with_reducible rfl
            try simp (maxSteps := 2000000) only [List.getElem_toArray, List.getElem_cons_succ, List.getElem_cons_zero, Act.put, List.setIfInBounds_toArray, List.set_cons_zero, List.set_cons_succ]
            refine wpAnyH_take (i := 8) (v := ?_) rfl (by kernel_rfl) (by kernel_rfl) (by kernel_rfl) (fun _ _ _ h => h) (Or.inl ⟨by first | kernel_rfl | rfl, ?_⟩) (by assumption) ?_
            rotate_left
            · (intro wq hSw; (try dsimp only at hSw); (try simp (maxSteps := 2000000) only [List.getElem_toArray, List.getElem_cons_succ, List.getElem_cons_zero]); go_simp); try with_reducible rfl
            try simp (maxSteps := 2000000) only [List.getElem_toArray, List.getElem_cons_succ, List.getElem_cons_zero, Act.put, List.setIfInBounds_toArray, List.set_cons_zero, List.set_cons_succ]
            refine wpAnyH_take (i := 9) (v := ?_) rfl (by kernel_rfl) (by kernel_rfl) (by kernel_rfl) (fun _ _ _ h => h) (Or.inl ⟨by first | kernel_rfl | rfl, ?_⟩) (by assumption) ?_
            rotate_left
            · (intro wq hSw; (try dsimp only at hSw); (try simp (maxSteps := 2000000) only [List.getElem_toArray, List.getElem_cons_succ, List.getElem_cons_zero]); go_simp); try with_reducible rfl
            try simp (maxSteps := 2000000) only [List.getElem_toArray, List.getElem_cons_succ, List.getElem_cons_zero, Act.put, List.setIfInBounds_toArray, List.set_cons_zero, List.set_cons_succ]
            refine wpAnyH_take (i := 10) (v := ?_) rfl (by kernel_rfl) (by kernel_rfl) (by kernel_rfl) (fun _ _ _ h => h) (Or.inl ⟨by first | kernel_rfl | rfl, ?_⟩) (by assumption) ?_
            rotate_left
            · (intro wq hSw; (try dsimp only at hSw); (try simp (maxSteps := 2000000) only [List.getElem_toArray, List.getElem_cons_succ, List.getElem_cons_zero]); go_simp); try with_reducible rfl
            try simp (maxSteps := 2000000) only [List.getElem_toArray, List.getElem_cons_succ, List.getElem_cons_zero, Act.put, List.setIfInBounds_toArray, List.set_cons_zero, List.set_cons_succ]
            refine wpAnyH_take (i := 11) (v := ?_) rfl (by kernel_rfl) (by kernel_rfl) (by kernel_rfl) (fun _ _ _ h => h) (Or.inl ⟨by first | kernel_rfl | rfl, ?_⟩) (by assumption) ?_
            rotate_left
            · (intro wq hSw; (try dsimp only at hSw); (try simp (maxSteps := 2000000) only [List.getElem_toArray, List.getElem_cons_succ, List.getElem_cons_zero]); go_simp); try with_reducible rfl
            try simp (maxSteps := 2000000) only [List.getElem_toArray, List.getElem_cons_succ, List.getElem_cons_zero, Act.put, List.setIfInBounds_toArray, List.set_cons_zero, List.set_cons_succ]
            refine wpAnyH_ready (rs := [12]) (by kernel_rfl) (by simp) ?_
            refine AllReadyH.cons rfl (fun K hK => ?_) AllReadyH.nil
            try simp (maxSteps := 2000000) only [List.getElem_toArray, List.getElem_cons_succ, List.getElem_cons_zero]
            go_simp
            refine (less_any x.key g.key (by omega) (by omega) _).mono ?_
            rintro e w7 ⟨rfl, t7⟩
            have b7 := below_then t7 hHeld
            have B7 := Lib.hid b7
            clear t7
            try (go_wp2_with fail)
            refine hK.out _ _ (by first | assumption | exact Below.refl _ _ | exact (Below.refl _ _).drew | exact (by repeat (first | (with_reducible exact Below.refl _ _) | (with_reducible assumption) | (with_reducible refine Below.drew ?_) | (with_reducible refine Below.setCell ?_ ?_ _) | (with_reducible refine Below.alloc ?_ ?_ _) | (with_reducible refine Below.later ?_ ?_ _) | (first | (with_reducible exact Nat.le_refl _) | omega | (simp only [World.size_alloc, World.size_setCell, World.size_drew] <;> omega))))) (fun hHeld => ?_)
            clear hK K
            try simp (maxSteps := 2000000) only [List.getElem_toArray, List.getElem_cons_succ, List.getElem_cons_zero, Act.put, List.setIfInBounds_toArray, List.set_cons_zero, List.set_cons_succ]
            refine wpAnyH_take (i := 13) (v := ?_) rfl (by kernel_rfl) (by kernel_rfl) (by kernel_rfl) (fun _ _ _ h => h) (Or.inl ⟨by first | kernel_rfl | rfl, ?_⟩) (by assumption) ?_
            rotate_left
            · (intro wq hSw; (try dsimp only at hSw); (try simp (maxSteps := 2000000) only [List.getElem_toArray, List.getElem_cons_succ, List.getElem_cons_zero]); go_simp); try with_reducible rfl
            try simp (maxSteps := 2000000) only [List.getElem_toArray, List.getElem_cons_succ, List.getElem_cons_zero, Act.put, List.setIfInBounds_toArray, List.set_cons_zero, List.set_cons_succ]
            refine wpAnyH_done (by kernel_rfl) ?_ _
            go_wp2_with fail
            exact ⟨⟨j + 1, by go_num, by omega, Lib.hid (by have := hcut.out; have := HC2.out; omega), Lib.hid (below_then B7.out HTq.out)⟩, by simp [intOf]; omega⟩
          | false =>
            have hc2 := cut_ge HXO.out hls
            have hcj : cutN g.key O = j := by have := hcut.out; omega
            have HCJ := Lib.hid hcj
            clear hc2 hcj
            go_wp2_with fail
            refine wp_region_held_drew (S := fun w' => Below wq.heap.size wq w') (by kernel_rfl) (by first | assumption | exact Below.refl _ _ | exact (Below.refl _ _).drew | exact (by repeat (first | (with_reducible exact Below.refl _ _) | (with_reducible assumption) | (with_reducible refine Below.drew ?_) | (with_reducible refine Below.setCell ?_ ?_ _) | (with_reducible refine Below.alloc ?_ ?_ _) | (with_reducible refine Below.later ?_ ?_ _) | (first | (with_reducible exact Nat.le_refl _) | omega | (simp only [World.size_alloc, World.size_setCell, World.size_drew] <;> omega))))) (fun hHeld => ?_)
            refine wpAnyH_take (i := 0) (v := ?_) rfl (by kernel_rfl) (by kernel_rfl) (by kernel_rfl) (fun _ _ _ h => h) (Or.inl ⟨by first | kernel_rfl | rfl, ?_⟩) (by assumption) ?_
            rotate_left
            · (intro wq hSw; (try dsimp only at hSw); (try simp (maxSteps := 2000000) only [List.getElem_toArray, List.getElem_cons_succ, List.getElem_cons_zero]); go_simp); try with_reducible rfl
            try simp (maxSteps := 2000000) only [List.getElem_toArray, List.getElem_cons_succ, List.getElem_cons_zero, Act.put, List.setIfInBounds_toArray, List.set_cons_zero, List.set_cons_succ]
            refine wpAnyH_take (i := 1) (v := ?_) rfl (by kernel_rfl) (by kernel_rfl) (by kernel_rfl) (fun _ _ _ h => h) (Or.inl ⟨by first | kernel_rfl | rfl, ?_⟩) (by assumption) ?_
            rotate_left
            · (intro wq hSw; (try dsimp only at hSw); (try simp (maxSteps := 2000000) only [List.getElem_toArray, List.getElem_cons_succ, List.getElem_cons_zero]); go_simp); try with_reducible rfl
            try simp (maxSteps := 2000000) only [List.getElem_toArray, List.getElem_cons_succ, List.getElem_cons_zero, Act.put, List.setIfInBounds_toArray, List.set_cons_zero, List.set_cons_succ]
            refine wpAnyH_take (i := 2) (v := ?_) rfl (by kernel_rfl) (by kernel_rfl) (by kernel_rfl) (fun _ _ _ h => h) (Or.inl ⟨by first | kernel_rfl | rfl, ?_⟩) (by assumption) ?_
            rotate_left
            · (intro wq hSw; (try dsimp only at hSw); (try simp (maxSteps := 2000000) only [List.getElem_toArray, List.getElem_cons_succ, List.getElem_cons_zero]); go_simp); try with_reducible rfl
            try simp (maxSteps := 2000000) only [List.getElem_toArray, List.getElem_cons_succ, List.getElem_cons_zero, Act.put, List.setIfInBounds_toArray, List.set_cons_zero, List.set_cons_succ]
            refine wpAnyH_take (i := 3) (v := ?_) rfl (by kernel_rfl) (by kernel_rfl) (by kernel_rfl) (fun _ _ _ h => h) (Or.inl ⟨by first | kernel_rfl | rfl, ?_⟩) (by assumption) ?_
            rotate_left
            · (intro wq hSw; (try dsimp only at hSw); (try simp (maxSteps := 2000000) only [List.getElem_toArray, List.getElem_cons_succ, List.getElem_cons_zero]); go_simp); try with_reducible rfl
            try simp (maxSteps := 2000000) only [List.getElem_toArray, List.getElem_cons_succ, List.getElem_cons_zero, Act.put, List.setIfInBounds_toArray, List.set_cons_zero, List.set_cons_succ]
            refine wpAnyH_take (i := 4) (v := ?_) rfl (by kernel_rfl) (by kernel_rfl) (by kernel_rfl) (fun _ _ _ h => h) (Or.inl ⟨by first | kernel_rfl | rfl, ?_⟩) (by assumption) ?_
            rotate_left
            · (intro wq hSw; (try dsimp only at hSw); (try simp (maxSteps := 2000000) only [List.getElem_toArray, List.getElem_cons_succ, List.getElem_cons_zero]); go_simp); try with_reducible rfl
            try simp (maxSteps := 2000000) only [List.getElem_toArray, List.getElem_cons_succ, List.getElem_cons_zero, Act.put, List.setIfInBounds_toArray, List.set_cons_zero, List.set_cons_succ]
            refine wpAnyH_take (i := 5) (v := ?_) rfl (by kernel_rfl) (by kernel_rfl) (by kernel_rfl) (fun _ _ _ h => h) (Or.inl ⟨by first | kernel_rfl | rfl, ?_⟩) (by assumption) ?_
            rotate_left
            · (intro wq hSw; (try dsimp only at hSw); (try simp (maxSteps := 2000000) only [List.getElem_toArray, List.getElem_cons_succ, List.getElem_cons_zero]); go_simp); try with_reducible rfl
            try simp (maxSteps := 2000000) only [List.getElem_toArray, List.getElem_cons_succ, List.getElem_cons_zero, Act.put, List.setIfInBounds_toArray, List.set_cons_zero, List.set_cons_succ]
            refine wpAnyH_take (i := 6) (v := ?_) rfl (by kernel_rfl) (by kernel_rfl) (by kernel_rfl) (fun _ _ _ h => h) (Or.inl ⟨by first | kernel_rfl | rfl, ?_⟩) (by assumption) ?_
            rotate_left
            · (intro wq hSw; (try dsimp only at hSw); (try simp (maxSteps := 2000000) only [List.getElem_toArray, List.getElem_cons_succ, List.getElem_cons_zero]); go_simp); try with_reducible rfl
            try simp (maxSteps := 2000000) only [List.getElem_toArray, List.getElem_cons_succ, List.getElem_cons_zero, Act.put, List.setIfInBounds_toArray, List.set_cons_zero, List.set_cons_succ]
            refine wpAnyH_take (i := 7) (v := ?_) rfl (by kernel_rfl) (by kernel_rfl) (by kernel_rfl) (fun _ _ _ h => h) (Or.inl ⟨by first | kernel_rfl | rfl, ?_⟩) (by assumption) ?_
            rotate_left
            · (intro wq hSw; (try dsimp only at hSw); (try simp (maxSteps := 2000000) only [List.getElem_toArray, List.getElem_cons_succ, List.getElem_cons_zero]); go_simp); try with_reducible rfl
            try simp (maxSteps := 2000000) only [List.getElem_toArray, List.getElem_cons_succ, List.getElem_cons_zero, Act.put, List.setIfInBounds_toArray, List.set_cons_zero, List.set_cons_succ]
            refine wpAnyH_take (i := 8) (v := ?_) rfl (by kernel_rfl) (by kernel_rfl) (by kernel_rfl) (fun _ _ _ h => h) (Or.inl ⟨by first | kernel_rfl | rfl, ?_⟩) (by assumption) ?_
            rotate_left
            · (intro wq hSw; (try dsimp only at hSw); (try simp (maxSteps := 2000000) only [List.getElem_toArray, List.getElem_cons_succ, List.getElem_cons_zero]); go_simp); try with_reducible rfl
            try simp (maxSteps := 2000000) only [List.getElem_toArray, List.getElem_cons_succ, List.getElem_cons_zero, Act.put, List.setIfInBounds_toArray, List.set_cons_zero, List.set_cons_succ]
            refine wpAnyH_take (i := 9) (v := ?_) rfl (by kernel_rfl) (by kernel_rfl) (by kernel_rfl) (fun _ _ _ h => h) (Or.inl ⟨by first | kernel_rfl | rfl, ?_⟩) (by assumption) ?_
            rotate_left
            · (intro wq hSw; (try dsimp only at hSw); (try simp (maxSteps := 2000000) only [List.getElem_toArray, List.getElem_cons_succ, List.getElem_cons_zero]); go_simp); try with_reducible rfl
            try simp (maxSteps := 2000000) only [List.getElem_toArray, List.getElem_cons_succ, List.getElem_cons_zero, Act.put, List.setIfInBounds_toArray, List.set_cons_zero, List.set_cons_succ]
            refine wpAnyH_take (i := 10) (v := ?_) rfl (by kernel_rfl) (by kernel_rfl) (by kernel_rfl) (fun _ _ _ h => h) (Or.inl ⟨by first | kernel_rfl | rfl, ?_⟩) (by assumption) ?_
            rotate_left
            · (intro wq hSw; (try dsimp only at hSw); (try simp (maxSteps := 2000000) only [List.getElem_toArray, List.getElem_cons_succ, List.getElem_cons_zero]); go_simp); try with_reducible rfl
            try simp (maxSteps := 2000000) only [List.getElem_toArray, List.getElem_cons_succ, List.getElem_cons_zero, Act.put, List.setIfInBounds_toArray, List.set_cons_zero, List.set_cons_succ]
            refine wpAnyH_take (i := 11) (v := ?_) rfl (by kernel_rfl) (by kernel_rfl) (by kernel_rfl) (fun _ _ _ h => h) (Or.inl ⟨by first | kernel_rfl | rfl, ?_⟩) (by assumption) ?_
            rotate_left
            · (intro wq hSw; (try dsimp only at hSw); (try simp (maxSteps := 2000000) only [List.getElem_toArray, List.getElem_cons_succ, List.getElem_cons_zero]); go_simp); try with_reducible rfl
            try simp (maxSteps := 2000000) only [List.getElem_toArray, List.getElem_cons_succ, List.getElem_cons_zero, Act.put, List.setIfInBounds_toArray, List.set_cons_zero, List.set_cons_succ]
            refine wpAnyH_ready (rs := [12]) (by kernel_rfl) (by simp) ?_
            refine AllReadyH.cons rfl (fun K hK => ?_) AllReadyH.nil
            try simp (maxSteps := 2000000) only [List.getElem_toArray, List.getElem_cons_succ, List.getElem_cons_zero]
            go_simp
            refine (less_any x.key g.key (by omega) (by omega) _).mono ?_
            rintro e w7 ⟨rfl, t7⟩
            have b7 := below_then t7 hHeld
            have B7 := Lib.hid b7
            clear t7
            try (go_wp2_with fail)
            refine hK.out _ _ (by first | assumption | exact Below.refl _ _ | exact (Below.refl _ _).drew | exact (by repeat (first | (with_reducible exact Below.refl _ _) | (with_reducible assumption) | (with_reducible refine Below.drew ?_) | (with_reducible refine Below.setCell ?_ ?_ _) | (with_reducible refine Below.alloc ?_ ?_ _) | (with_reducible refine Below.later ?_ ?_ _) | (first | (with_reducible exact Nat.le_refl _) | omega | (simp only [World.size_alloc, World.size_setCell, World.size_drew] <;> omega))))) (fun hHeld => ?_)
            clear hK K
            try simp (maxSteps := 2000000) only [List.getElem_toArray, List.getElem_cons_succ, List.getElem_cons_zero, Act.put, List.setIfInBounds_toArray, List.set_cons_zero, List.set_cons_succ]
            refine wpAnyH_take (i := 13) (v := ?_) rfl (by kernel_rfl) (by kernel_rfl) (by kernel_rfl) (fun _ _ _ h => h) (Or.inl ⟨by first | kernel_rfl | rfl, ?_⟩) (by assumption) ?_
            rotate_left
            · (intro wq hSw; (try dsimp only at hSw); (try simp (maxSteps := 2000000) only [List.getElem_toArray, List.getElem_cons_succ, List.getElem_cons_zero]); go_simp); try with_reducible rfl
            try simp (maxSteps := 2000000) only [List.getElem_toArray, List.getElem_cons_succ, List.getElem_cons_zero, Act.put, List.setIfInBounds_toArray, List.set_cons_zero, List.set_cons_succ]
            refine wpAnyH_done (by kernel_rfl) ?_ _
            clear u0 u1
            have HOq := Lib.hid (HOq.out.below FdR.stable B7.out)
            have HAq := Lib.hid (HAq.out.below FdR.stable B7.out)
            have HVq := Lib.hid (HVq.out.below U8R.stable B7.out)
            have HPl := Lib.hid (HPl.out.below IntR.stable B7.out)
            have X7 := Xq.below B7.out
            have Y7 := Y0.below B7.out
            have hx7 := X7.lt
            have hy7 := Y7.lt
            have W7 := Lib.hid (below_then B7.out Wq.out)
            have HPq := Lib.hid (HP0.out.below W7.out)
            have hw7 : w.heap.size ≤ w7.heap.size := Nat.le_trans WA.out.size W7.out.size
            have b0 := fun w' (hb : Below w7.heap.size w7 w') => (hb.cell (p := ⟨wo.heap.size, 0, none⟩) hx7).trans (X7.cell 0)
            have b1 := fun w' (hb : Below w7.heap.size w7 w') => (hb.cell (p := ⟨wo.heap.size, 1, none⟩) hx7).trans (X7.cell 1)
            have b2 := fun w' (hb : Below w7.heap.size w7 w') => (hb.cell (p := ⟨wo.heap.size, 2, none⟩) hx7).trans (X7.cell 2)
            have b3 := fun w' (hb : Below w7.heap.size w7 w') => (hb.cell (p := ⟨wo.heap.size, 3, none⟩) hx7).trans (X7.cell 3)
            have b4 := fun w' (hb : Below w7.heap.size w7 w') => (hb.cell (p := ⟨wo.heap.size, 4, none⟩) hx7).trans (X7.cell 4)
            have b5 := fun w' (hb : Below w7.heap.size w7 w') => (hb.cell (p := ⟨wo.heap.size, 5, none⟩) hx7).trans (X7.cell 5)
            have y0 := fun w' (hb : Below w7.heap.size w7 w') => (hb.cell (p := ⟨w.heap.size, 0, none⟩) hy7).trans (Y7.cell 0)
            have y1 := fun w' (hb : Below w7.heap.size w7 w') => (hb.cell (p := ⟨w.heap.size, 1, none⟩) hy7).trans (Y7.cell 1)
            have hjc : (j : Int) ≤ (co : Int) := by omega
            have hsl1 := fun w' => slice_pre (A := (some ⟨bo, oo, none⟩ : Option Addr)) (N := O.length) (c := co) (k := j) (by omega) w'
            clear X7 Y7 Xq Y0
            go_wp2_with fail
            refine wp_region_held_drew (S := fun w' => Below w7.heap.size w7 w') (by kernel_rfl) (by first | assumption | exact Below.refl _ _ | exact (Below.refl _ _).drew | exact (by repeat (first | (with_reducible exact Below.refl _ _) | (with_reducible assumption) | (with_reducible refine Below.drew ?_) | (with_reducible refine Below.setCell ?_ ?_ _) | (with_reducible refine Below.alloc ?_ ?_ _) | (with_reducible refine Below.later ?_ ?_ _) | (first | (with_reducible exact Nat.le_refl _) | omega | (simp only [World.size_alloc, World.size_setCell, World.size_drew] <;> omega))))) (fun hHeld => ?_)
            refine wpAnyH_take (i := 0) (v := ?_) rfl (by kernel_rfl) (by kernel_rfl) (by kernel_rfl) (fun _ _ _ h => h) (Or.inl ⟨by first | kernel_rfl | rfl, ?_⟩) (by assumption) ?_
            rotate_left
            · (intro wq hSw; (try dsimp only at hSw); (try simp (maxSteps := 2000000) only [List.getElem_toArray, List.getElem_cons_succ, List.getElem_cons_zero]); go_simp); try with_reducible rfl
            try simp (maxSteps := 2000000) only [List.getElem_toArray, List.getElem_cons_succ, List.getElem_cons_zero, Act.put, List.setIfInBounds_toArray, List.set_cons_zero, List.set_cons_succ]
            refine wpAnyH_take (i := 1) (v := ?_) rfl (by kernel_rfl) (by kernel_rfl) (by kernel_rfl) (fun _ _ _ h => h) (Or.inl ⟨by first | kernel_rfl | rfl, ?_⟩) (by assumption) ?_
            rotate_left
            · (intro wq hSw; (try dsimp only at hSw); (try simp (maxSteps := 2000000) only [List.getElem_toArray, List.getElem_cons_succ, List.getElem_cons_zero]); go_simp); try with_reducible rfl
            try simp (maxSteps := 2000000) only [List.getElem_toArray, List.getElem_cons_succ, List.getElem_cons_zero, Act.put, List.setIfInBounds_toArray, List.set_cons_zero, List.set_cons_succ]
            refine wpAnyH_take (i := 2) (v := ?_) rfl (by kernel_rfl) (by kernel_rfl) (by kernel_rfl) (fun _ _ _ h => h) (Or.inl ⟨by first | kernel_rfl | rfl, ?_⟩) (by assumption) ?_
            rotate_left
            · (intro wq hSw; (try dsimp only at hSw); (try simp (maxSteps := 2000000) only [List.getElem_toArray, List.getElem_cons_succ, List.getElem_cons_zero]); go_simp); try with_reducible rfl
            try simp (maxSteps := 2000000) only [List.getElem_toArray, List.getElem_cons_succ, List.getElem_cons_zero, Act.put, List.setIfInBounds_toArray, List.set_cons_zero, List.set_cons_succ]
            refine wpAnyH_take (i := 3) (v := ?_) rfl (by kernel_rfl) (by kernel_rfl) (by kernel_rfl) (fun _ _ _ h => h) (Or.inl ⟨by first | kernel_rfl | rfl, ?_⟩) (by assumption) ?_
            rotate_left
            · (intro wq hSw; (try dsimp only at hSw); (try simp (maxSteps := 2000000) only [List.getElem_toArray, List.getElem_cons_succ, List.getElem_cons_zero]); go_simp); try with_reducible rfl
            try simp (maxSteps := 2000000) only [List.getElem_toArray, List.getElem_cons_succ, List.getElem_cons_zero, Act.put, List.setIfInBounds_toArray, List.set_cons_zero, List.set_cons_succ]
            refine wpAnyH_take (i := 4) (v := ?_) rfl (by kernel_rfl) (by kernel_rfl) (by kernel_rfl) (fun _ _ _ h => h) (Or.inl ⟨by first | kernel_rfl | rfl, ?_⟩) (by assumption) ?_
            rotate_left
            · (intro wq hSw; (try dsimp only at hSw); (try simp (maxSteps := 2000000) only [List.getElem_toArray, List.getElem_cons_succ, List.getElem_cons_zero]); go_simp); try with_reducible rfl
            try simp (maxSteps := 2000000) only [List.getElem_toArray, List.getElem_cons_succ, List.getElem_cons_zero, Act.put, List.setIfInBounds_toArray, List.set_cons_zero, List.set_cons_succ]
            refine wpAnyH_take (i := 5) (v := ?_) rfl (by kernel_rfl) (by kernel_rfl) (by kernel_rfl) (fun _ _ _ h => h) (Or.inl ⟨by first | kernel_rfl | rfl, ?_⟩) (by assumption) ?_
            rotate_left
            · (intro wq hSw; (try dsimp only at hSw); (try simp (maxSteps := 2000000) only [List.getElem_toArray, List.getElem_cons_succ, List.getElem_cons_zero]); go_simp); try with_reducible rfl
            try simp (maxSteps := 2000000) only [List.getElem_toArray, List.getElem_cons_succ, List.getElem_cons_zero, Act.put, List.setIfInBounds_toArray, List.set_cons_zero, List.set_cons_succ]
            refine wpAnyH_take (i := 7) (v := ?_) rfl (by kernel_rfl) (by kernel_rfl) (by kernel_rfl) (fun _ _ _ h => h) (Or.inl ⟨by first | kernel_rfl | rfl, ?_⟩) (by assumption) ?_
            rotate_left
            · (intro wq hSw; (try dsimp only at hSw); (try simp (maxSteps := 2000000) only [List.getElem_toArray, List.getElem_cons_succ, List.getElem_cons_zero]); go_simp); try with_reducible rfl
            try simp (maxSteps := 2000000) only [List.getElem_toArray, List.getElem_cons_succ, List.getElem_cons_zero, Act.put, List.setIfInBounds_toArray, List.set_cons_zero, List.set_cons_succ]
            refine wpAnyH_ready (rs := [6]) (by kernel_rfl) (by simp) ?_
            refine AllReadyH.cons rfl (fun K hK => ?_) AllReadyH.nil
            try simp (maxSteps := 2000000) only [List.getElem_toArray, List.getElem_cons_succ, List.getElem_cons_zero]
            go_simp
            refine hK.out _ _ (by first | assumption | exact Below.refl _ _ | exact (Below.refl _ _).drew | exact (by repeat (first | (with_reducible exact Below.refl _ _) | (with_reducible assumption) | (with_reducible refine Below.drew ?_) | (with_reducible refine Below.setCell ?_ ?_ _) | (with_reducible refine Below.alloc ?_ ?_ _) | (with_reducible refine Below.later ?_ ?_ _) | (first | (with_reducible exact Nat.le_refl _) | omega | (simp only [World.size_alloc, World.size_setCell, World.size_drew] <;> omega))))) (fun hHeld => ?_)
            clear hK K
            try simp (maxSteps := 2000000) only [List.getElem_toArray, List.getElem_cons_succ, List.getElem_cons_zero, Act.put, List.setIfInBounds_toArray, List.set_cons_zero, List.set_cons_succ]
            refine wpAnyH_ready (rs := [8]) (by kernel_rfl) (by simp) ?_
            refine AllReadyH.cons rfl (fun K hK => ?_) AllReadyH.nil
            try simp (maxSteps := 2000000) only [List.getElem_toArray, List.getElem_cons_succ, List.getElem_cons_zero]
            go_simp
            have wL : Below w7.heap.size w7 (w7.drew.alloc (.cells #[.string g.key, .bool g.own, .slice VA vm vc, .slice PA pm pc, .int .u64 g.gen, .int .i64 g.size] 82)) := (Below.refl _ _).drew.alloc (Nat.le_refl _) _
            refine (left_any (Lib.hid (HPq.out.below wL)) f t (Lib.hid (RdL.one FdR.stable (S := S) rfl ⟨VA, vm, vc, PA, pm, pc, rfl, HVq.out.below U8R.stable (Below.refl _ _).drew, HPl.out.below IntR.stable (Below.refl _ _).drew⟩)) (by omega) (fun y hy => by rw [List.mem_singleton.1 hy]; exact HG.out)).mono ?_
            rintro e w10 ⟨A10, c10, rfl, r10, t10⟩
            have T10 := below_then t10 wL
            have T10h := Lib.hid T10
            have b10 := T10
            have s10 := T10.size
            have R10 := Lib.hid (r10.weaken (S' := (w.heap.size ≤ ·)) FdR.stable (fun b hb => by have hb2 : (w7.drew.alloc (.cells #[.string g.key, .bool g.own, .slice VA vm vc, .slice PA pm pc, .int .u64 g.gen, .int .i64 g.size] 82)).heap.size ≤ b := hb; have := wL.size; show w.heap.size ≤ b; omega))
            clear r10 t10 wL
            try (go_wp2_with fail)
            refine hK.out _ _ (by first | assumption | exact Below.refl _ _ | exact (Below.refl _ _).drew | exact (by repeat (first | (with_reducible exact Below.refl _ _) | (with_reducible assumption) | (with_reducible refine Below.drew ?_) | (with_reducible refine Below.setCell ?_ ?_ _) | (with_reducible refine Below.alloc ?_ ?_ _) | (with_reducible refine Below.later ?_ ?_ _) | (first | (with_reducible exact Nat.le_refl _) | omega | (simp only [World.size_alloc, World.size_setCell, World.size_drew] <;> omega))))) (fun hHeld => ?_)
            clear hK K
            try simp (maxSteps := 2000000) only [List.getElem_toArray, List.getElem_cons_succ, List.getElem_cons_zero, Act.put, List.setIfInBounds_toArray, List.set_cons_zero, List.set_cons_succ]
            refine wpAnyH_ready (rs := [9]) (by kernel_rfl) (by simp) ?_
            refine AllReadyH.cons rfl (fun K hK => ?_) AllReadyH.nil
            try simp (maxSteps := 2000000) only [List.getElem_toArray, List.getElem_cons_succ, List.getElem_cons_zero]
            go_simp
            refine hK.out _ _ (by first | assumption | exact Below.refl _ _ | exact (Below.refl _ _).drew | exact (by repeat (first | (with_reducible exact Below.refl _ _) | (with_reducible assumption) | (with_reducible refine Below.drew ?_) | (with_reducible refine Below.setCell ?_ ?_ _) | (with_reducible refine Below.alloc ?_ ?_ _) | (with_reducible refine Below.later ?_ ?_ _) | (first | (with_reducible exact Nat.le_refl _) | omega | (simp only [World.size_alloc, World.size_setCell, World.size_drew] <;> omega))))) (fun hHeld => ?_)
            clear hK K
            try simp (maxSteps := 2000000) only [List.getElem_toArray, List.getElem_cons_succ, List.getElem_cons_zero, Act.put, List.setIfInBounds_toArray, List.set_cons_zero, List.set_cons_succ]
            refine wpAnyH_ready (rs := [10]) (by kernel_rfl) (by simp) ?_
            refine AllReadyH.cons rfl (fun K hK => ?_) AllReadyH.nil
            try simp (maxSteps := 2000000) only [List.getElem_toArray, List.getElem_cons_succ, List.getElem_cons_zero]
            go_simp
            have X11 := BoxAt.new w10 #[.slice Aa Al.length ca, .slice (some ⟨bo, oo, none⟩ : Option Addr) j co, .slice A10 (leftL L f t [g]).length c10] 66
            have w11 : Below w10.heap.size w10 (w10.alloc (.cells #[.slice Aa Al.length ca, .slice (some ⟨bo, oo, none⟩ : Option Addr) j co, .slice A10 (leftL L f t [g]).length c10] 66)) := (Below.refl _ _).alloc (Nat.le_refl _) _
            have R11 := fds_box3 (S := (w.heap.size ≤ ·)) X11 (by show w.heap.size ≤ w10.heap.size; have := T10h.out.size; omega) ((HAq.out.below FdR.stable T10h.out).alloc FdR.stable _) (((RdL.take HOq.out hj).below FdR.stable T10h.out).alloc FdR.stable _) (R10.out.alloc FdR.stable _)
            have hfl : [Al, O.take j, leftL L f t [g]].flatten = Al ++ (O.take j ++ leftL L f t [g]) := by simp
            refine (joined_any (Lib.hid R11) (by rw [hfl]; simp only [List.length_append, List.length_take]; have := left_len L f t [g]; simp only [List.length_singleton] at this; omega) (by omega)).mono ?_
            rintro e w12 ⟨A12, c12, rfl, hc12, r12, t12⟩
            rw [hfl] at hc12 r12
            have T12 := below_then (below_then t12 w11) T10h.out
            have T12h := Lib.hid T12
            have b12 := T12
            have R12 := Lib.hid (r12.weaken (S' := (w.heap.size ≤ ·)) FdR.stable (fun b hb => hb.elim id (fun hb2 => by have := T10h.out.size; have := w11.size; show w.heap.size ≤ b; omega)))
            have HC12 := Lib.hid hc12
            clear r12 t12 X11 w11 R11 hc12
            rw [hfl]
            try (go_wp2_with fail)
            refine hK.out _ _ (by first | assumption | exact Below.refl _ _ | exact (Below.refl _ _).drew | exact (by repeat (first | (with_reducible exact Below.refl _ _) | (with_reducible assumption) | (with_reducible refine Below.drew ?_) | (with_reducible refine Below.setCell ?_ ?_ _) | (with_reducible refine Below.alloc ?_ ?_ _) | (with_reducible refine Below.later ?_ ?_ _) | (first | (with_reducible exact Nat.le_refl _) | omega | (simp only [World.size_alloc, World.size_setCell, World.size_drew] <;> omega))))) (fun hHeld => ?_)
            clear hK K
            try simp (maxSteps := 2000000) only [List.getElem_toArray, List.getElem_cons_succ, List.getElem_cons_zero, Act.put, List.setIfInBounds_toArray, List.set_cons_zero, List.set_cons_succ]
            refine wpAnyH_take (i := 11) (v := ?_) rfl (by kernel_rfl) (by kernel_rfl) (by kernel_rfl) (fun _ _ _ h => h) (Or.inl ⟨by first | kernel_rfl | rfl, ?_⟩) (by assumption) ?_
            rotate_left
            · (intro wq hSw; (try dsimp only at hSw); (try simp (maxSteps := 2000000) only [List.getElem_toArray, List.getElem_cons_succ, List.getElem_cons_zero]); go_simp); try with_reducible rfl
            try simp (maxSteps := 2000000) only [List.getElem_toArray, List.getElem_cons_succ, List.getElem_cons_zero, Act.put, List.setIfInBounds_toArray, List.set_cons_zero, List.set_cons_succ]
            refine wpAnyH_done (by kernel_rfl) ?_ _
            clear b0 b1 b2 b3 b4 b5 y0 y1 hsl1
            have hsl2 := fun w' => slice_suf (A := (some ⟨bo, oo, none⟩ : Option Addr)) (N := O.length) (c := co) (k := j) (by omega) w'
            have R9 := RdL.suf (HOq.out.below FdR.stable T12h.out) hOc hj
            obtain ⟨A9, hA9⟩ : ∃ A9, (if co = j then (some ⟨bo, oo, none⟩ : Option Addr) else (some ⟨bo, oo, none⟩ : Option Addr).map (fun x : Addr => x.add (j * 6))) = A9 := ⟨_, rfl⟩
            rw [hA9] at hsl2 R9
            have R9h := Lib.hid R9
            clear hA9 R9
            go_wp2_with fail
            have hall : (Al ++ (O.take j ++ leftL L f t [g])) ++ overL L f t (O.drop j) (xs.drop (i + 1)) = T := by
              have h9 := hALL.out
              rw [HDR.out, overL, HCJ.out] at h9
              rw [← h9]; simp only [List.append_assoc]
            refine ⟨⟨i + 1, O.drop j, Al ++ (O.take j ++ leftL L f t [g]), A9, A12, co - j, c12, by omega, by go_num, by rw [List.length_drop], by first | rfl | rw [List.length_append, List.length_append, List.length_take, Nat.min_eq_left hj], ?_, HC12.out, Lib.hid ⟨by rw [List.length_drop]; exact R9h.out, R12.out, by rw [List.length_drop]; omega, by rw [List.length_drop]; omega, fun y hy => hkO.out y (List.mem_of_mem_drop hy), hall⟩, Lib.hid (below_then T12h.out W7.out)⟩, by simp [intOf]; omega⟩
            rw [← hall, List.length_append] at hTl
            omega
        · have hjO : j = O.length := by omega
          have hcj : cutN g.key O = j := by have := hcut.out; rw [hjO, List.drop_of_length_le (Nat.le_refl _)] at this; rw [hjO]; exact this
          have HCJ := Lib.hid hcj
          have q4 : ¬ (j : Int) < (O.length : Int) := by omega
          have B0 : Below wq.heap.size wq wq.drew := (Below.refl _ _).drew
          clear hcj hjO
          go_wp2_with fail
          refine wp_region_held_drew (S := fun w' => Below wq.heap.size wq w') (by kernel_rfl) (by first | assumption | exact Below.refl _ _ | exact (Below.refl _ _).drew | exact (by repeat (first | (with_reducible exact Below.refl _ _) | (with_reducible assumption) | (with_reducible refine Below.drew ?_) | (with_reducible refine Below.setCell ?_ ?_ _) | (with_reducible refine Below.alloc ?_ ?_ _) | (with_reducible refine Below.later ?_ ?_ _) | (first | (with_reducible exact Nat.le_refl _) | omega | (simp only [World.size_alloc, World.size_setCell, World.size_drew] <;> omega))))) (fun hHeld => ?_)
          refine wpAnyH_take (i := 0) (v := ?_) rfl (by kernel_rfl) (by kernel_rfl) (by kernel_rfl) (fun _ _ _ h => h) (Or.inl ⟨by first | kernel_rfl | rfl, ?_⟩) (by assumption) ?_
          rotate_left
          · (intro wq hSw; (try dsimp only at hSw); (try simp (maxSteps := 2000000) only [List.getElem_toArray, List.getElem_cons_succ, List.getElem_cons_zero]); go_simp); try with_reducible rfl
          try simp (maxSteps := 2000000) only [List.getElem_toArray, List.getElem_cons_succ, List.getElem_cons_zero, Act.put, List.setIfInBounds_toArray, List.set_cons_zero, List.set_cons_succ]
          refine wpAnyH_take (i := 1) (v := ?_) rfl (by kernel_rfl) (by kernel_rfl) (by kernel_rfl) (fun _ _ _ h => h) (Or.inl ⟨by first | kernel_rfl | rfl, ?_⟩) (by assumption) ?_
          rotate_left
          · (intro wq hSw; (try dsimp only at hSw); (try simp (maxSteps := 2000000) only [List.getElem_toArray, List.getElem_cons_succ, List.getElem_cons_zero]); go_simp); try with_reducible rfl
          try simp (maxSteps := 2000000) only [List.getElem_toArray, List.getElem_cons_succ, List.getElem_cons_zero, Act.put, List.setIfInBounds_toArray, List.set_cons_zero, List.set_cons_succ]
          refine wpAnyH_take (i := 2) (v := ?_) rfl (by kernel_rfl) (by kernel_rfl) (by kernel_rfl) (fun _ _ _ h => h) (Or.inl ⟨by first | kernel_rfl | rfl, ?_⟩) (by assumption) ?_
          rotate_left
          · (intro wq hSw; (try dsimp only at hSw); (try simp (maxSteps := 2000000) only [List.getElem_toArray, List.getElem_cons_succ, List.getElem_cons_zero]); go_simp); try with_reducible rfl
          try simp (maxSteps := 2000000) only [List.getElem_toArray, List.getElem_cons_succ, List.getElem_cons_zero, Act.put, List.setIfInBounds_toArray, List.set_cons_zero, List.set_cons_succ]
          refine wpAnyH_take (i := 3) (v := ?_) rfl (by kernel_rfl) (by kernel_rfl) (by kernel_rfl) (fun _ _ _ h => h) (Or.inl ⟨by first | kernel_rfl | rfl, ?_⟩) (by assumption) ?_
          rotate_left
          · (intro wq hSw; (try dsimp only at hSw); (try simp (maxSteps := 2000000) only [List.getElem_toArray, List.getElem_cons_succ, List.getElem_cons_zero]); go_simp); try with_reducible rfl
          try simp (maxSteps := 2000000) only [List.getElem_toArray, List.getElem_cons_succ, List.getElem_cons_zero, Act.put, List.setIfInBounds_toArray, List.set_cons_zero, List.set_cons_succ]
          refine wpAnyH_take (i := 4) (v := ?_) rfl (by kernel_rfl) (by kernel_rfl) (by kernel_rfl) (fun _ _ _ h => h) (Or.inl ⟨by first | kernel_rfl | rfl, ?_⟩) (by assumption) ?_
          rotate_left
          · (intro wq hSw; (try dsimp only at hSw); (try simp (maxSteps := 2000000) only [List.getElem_toArray, List.getElem_cons_succ, List.getElem_cons_zero]); go_simp); try with_reducible rfl
          try simp (maxSteps := 2000000) only [List.getElem_toArray, List.getElem_cons_succ, List.getElem_cons_zero, Act.put, List.setIfInBounds_toArray, List.set_cons_zero, List.set_cons_succ]
          refine wpAnyH_take (i := 5) (v := undef) rfl (by kernel_rfl) (by kernel_rfl) (by kernel_rfl) (fun _ _ _ h => h) (Or.inr ⟨by first | kernel_rfl | rfl, rfl⟩) (by assumption) ?_
          try simp (maxSteps := 2000000) only [List.getElem_toArray, List.getElem_cons_succ, List.getElem_cons_zero, Act.put, List.setIfInBounds_toArray, List.set_cons_zero, List.set_cons_succ]
          refine wpAnyH_take (i := 6) (v := undef) rfl (by kernel_rfl) (by kernel_rfl) (by kernel_rfl) (fun _ _ _ h => h) (Or.inr ⟨by first | kernel_rfl | rfl, rfl⟩) (by assumption) ?_
          try simp (maxSteps := 2000000) only [List.getElem_toArray, List.getElem_cons_succ, List.getElem_cons_zero, Act.put, List.setIfInBounds_toArray, List.set_cons_zero, List.set_cons_succ]
          refine wpAnyH_take (i := 7) (v := undef) rfl (by kernel_rfl) (by kernel_rfl) (by kernel_rfl) (fun _ _ _ h => h) (Or.inr ⟨by first | kernel_rfl | rfl, rfl⟩) (by assumption) ?_
          try simp (maxSteps := 2000000) only [List.getElem_toArray, List.getElem_cons_succ, List.getElem_cons_zero, Act.put, List.setIfInBounds_toArray, List.set_cons_zero, List.set_cons_succ]
          refine wpAnyH_take (i := 8) (v := undef) rfl (by kernel_rfl) (by kernel_rfl) (by kernel_rfl) (fun _ _ _ h => h) (Or.inr ⟨by first | kernel_rfl | rfl, rfl⟩) (by assumption) ?_
          try simp (maxSteps := 2000000) only [List.getElem_toArray, List.getElem_cons_succ, List.getElem_cons_zero, Act.put, List.setIfInBounds_toArray, List.set_cons_zero, List.set_cons_succ]
          refine wpAnyH_take (i := 9) (v := undef) rfl (by kernel_rfl) (by kernel_rfl) (by kernel_rfl) (fun _ _ _ h => h) (Or.inr ⟨by first | kernel_rfl | rfl, rfl⟩) (by assumption) ?_
          try simp (maxSteps := 2000000) only [List.getElem_toArray, List.getElem_cons_succ, List.getElem_cons_zero, Act.put, List.setIfInBounds_toArray, List.set_cons_zero, List.set_cons_succ]
          refine wpAnyH_take (i := 10) (v := undef) rfl (by kernel_rfl) (by kernel_rfl) (by kernel_rfl) (fun _ _ _ h => h) (Or.inr ⟨by first | kernel_rfl | rfl, rfl⟩) (by assumption) ?_
          try simp (maxSteps := 2000000) only [List.getElem_toArray, List.getElem_cons_succ, List.getElem_cons_zero, Act.put, List.setIfInBounds_toArray, List.set_cons_zero, List.set_cons_succ]
          refine wpAnyH_take (i := 11) (v := undef) rfl (by kernel_rfl) (by kernel_rfl) (by kernel_rfl) (fun _ _ _ h => h) (Or.inr ⟨by first | kernel_rfl | rfl, rfl⟩) (by assumption) ?_
          try simp (maxSteps := 2000000) only [List.getElem_toArray, List.getElem_cons_succ, List.getElem_cons_zero, Act.put, List.setIfInBounds_toArray, List.set_cons_zero, List.set_cons_succ]
          refine wpAnyH_take (i := 12) (v := undef) rfl (by kernel_rfl) (by kernel_rfl) (by kernel_rfl) (fun _ _ _ h => h) (Or.inr ⟨by first | kernel_rfl | rfl, rfl⟩) (by assumption) ?_
          try simp (maxSteps := 2000000) only [List.getElem_toArray, List.getElem_cons_succ, List.getElem_cons_zero, Act.put, List.setIfInBounds_toArray, List.set_cons_zero, List.set_cons_succ]
          refine wpAnyH_take (i := 13) (v := ?_) rfl (by kernel_rfl) (by kernel_rfl) (by kernel_rfl) (fun _ _ _ h => h) (Or.inl ⟨by first | kernel_rfl | rfl, ?_⟩) (by assumption) ?_
          rotate_left
          · (intro wq hSw; (try dsimp only at hSw); (try simp (maxSteps := 2000000) only [List.getElem_toArray, List.getElem_cons_succ, List.getElem_cons_zero]); go_simp); try with_reducible rfl
          try simp (maxSteps := 2000000) only [List.getElem_toArray, List.getElem_cons_succ, List.getElem_cons_zero, Act.put, List.setIfInBounds_toArray, List.set_cons_zero, List.set_cons_succ]
          refine wpAnyH_done (by kernel_rfl) ?_ _
          obtain ⟨w7, hw7⟩ : ∃ w7, wq.drew = w7 := ⟨_, rfl⟩
          rw [hw7] at B0 ⊢
          have B7 := Lib.hid B0
          clear hw7 B0
          have HOq := Lib.hid (HOq.out.below FdR.stable B7.out)
          have HAq := Lib.hid (HAq.out.below FdR.stable B7.out)
          have HVq := Lib.hid (HVq.out.below U8R.stable B7.out)
          have HPl := Lib.hid (HPl.out.below IntR.stable B7.out)
          have X7 := Xq.below B7.out
          have Y7 := Y0.below B7.out
          have hx7 := X7.lt
          have hy7 := Y7.lt
          have W7 := Lib.hid (below_then B7.out Wq.out)
          have HPq := Lib.hid (HP0.out.below W7.out)
          have hw7 : w.heap.size ≤ w7.heap.size := Nat.le_trans WA.out.size W7.out.size
          have b0 := fun w' (hb : Below w7.heap.size w7 w') => (hb.cell (p := ⟨wo.heap.size, 0, none⟩) hx7).trans (X7.cell 0)
          have b1 := fun w' (hb : Below w7.heap.size w7 w') => (hb.cell (p := ⟨wo.heap.size, 1, none⟩) hx7).trans (X7.cell 1)
          have b2 := fun w' (hb : Below w7.heap.size w7 w') => (hb.cell (p := ⟨wo.heap.size, 2, none⟩) hx7).trans (X7.cell 2)
          have b3 := fun w' (hb : Below w7.heap.size w7 w') => (hb.cell (p := ⟨wo.heap.size, 3, none⟩) hx7).trans (X7.cell 3)
          have b4 := fun w' (hb : Below w7.heap.size w7 w') => (hb.cell (p := ⟨wo.heap.size, 4, none⟩) hx7).trans (X7.cell 4)
          have b5 := fun w' (hb : Below w7.heap.size w7 w') => (hb.cell (p := ⟨wo.heap.size, 5, none⟩) hx7).trans (X7.cell 5)
          have y0 := fun w' (hb : Below w7.heap.size w7 w') => (hb.cell (p := ⟨w.heap.size, 0, none⟩) hy7).trans (Y7.cell 0)
          have y1 := fun w' (hb : Below w7.heap.size w7 w') => (hb.cell (p := ⟨w.heap.size, 1, none⟩) hy7).trans (Y7.cell 1)
          have hjc : (j : Int) ≤ (co : Int) := by omega
          have hsl1 := fun w' => slice_pre (A := Ao) (N := O.length) (c := co) (k := j) (by omega) w'
          clear X7 Y7 Xq Y0
          go_wp2_with fail
          refine wp_region_held_drew (S := fun w' => Below w7.heap.size w7 w') (by kernel_rfl) (by first | assumption | exact Below.refl _ _ | exact (Below.refl _ _).drew | exact (by repeat (first | (with_reducible exact Below.refl _ _) | (with_reducible assumption) | (with_reducible refine Below.drew ?_) | (with_reducible refine Below.setCell ?_ ?_ _) | (with_reducible refine Below.alloc ?_ ?_ _) | (with_reducible refine Below.later ?_ ?_ _) | (first | (with_reducible exact Nat.le_refl _) | omega | (simp only [World.size_alloc, World.size_setCell, World.size_drew] <;> omega))))) (fun hHeld => ?_)
          refine wpAnyH_take (i := 0) (v := ?_) rfl (by kernel_rfl) (by kernel_rfl) (by kernel_rfl) (fun _ _ _ h => h) (Or.inl ⟨by first | kernel_rfl | rfl, ?_⟩) (by assumption) ?_
          rotate_left
          · (intro wq hSw; (try dsimp only at hSw); (try simp (maxSteps := 2000000) only [List.getElem_toArray, List.getElem_cons_succ, List.getElem_cons_zero]); go_simp); try with_reducible rfl
          try simp (maxSteps := 2000000) only [List.getElem_toArray, List.getElem_cons_succ, List.getElem_cons_zero, Act.put, List.setIfInBounds_toArray, List.set_cons_zero, List.set_cons_succ]
          refine wpAnyH_take (i := 1) (v := ?_) rfl (by kernel_rfl) (by kernel_rfl) (by kernel_rfl) (fun _ _ _ h => h) (Or.inl ⟨by first | kernel_rfl | rfl, ?_⟩) (by assumption) ?_
          rotate_left
          · (intro wq hSw; (try dsimp only at hSw); (try simp (maxSteps := 2000000) only [List.getElem_toArray, List.getElem_cons_succ, List.getElem_cons_zero]); go_simp); try with_reducible rfl
          try simp (maxSteps := 2000000) only [List.getElem_toArray, List.getElem_cons_succ, List.getElem_cons_zero, Act.put, List.setIfInBounds_toArray, List.set_cons_zero, List.set_cons_succ]
          refine wpAnyH_take (i := 2) (v := ?_) rfl (by kernel_rfl) (by kernel_rfl) (by kernel_rfl) (fun _ _ _ h => h) (Or.inl ⟨by first | kernel_rfl | rfl, ?_⟩) (by assumption) ?_
          rotate_left
          · (intro wq hSw; (try dsimp only at hSw); (try simp (maxSteps := 2000000) only [List.getElem_toArray, List.getElem_cons_succ, List.getElem_cons_zero]); go_simp); try with_reducible rfl
          try simp (maxSteps := 2000000) only [List.getElem_toArray, List.getElem_cons_succ, List.getElem_cons_zero, Act.put, List.setIfInBounds_toArray, List.set_cons_zero, List.set_cons_succ]
          refine wpAnyH_take (i := 3) (v := ?_) rfl (by kernel_rfl) (by kernel_rfl) (by kernel_rfl) (fun _ _ _ h => h) (Or.inl ⟨by first | kernel_rfl | rfl, ?_⟩) (by assumption) ?_
          rotate_left
          · (intro wq hSw; (try dsimp only at hSw); (try simp (maxSteps := 2000000) only [List.getElem_toArray, List.getElem_cons_succ, List.getElem_cons_zero]); go_simp); try with_reducible rfl
          try simp (maxSteps := 2000000) only [List.getElem_toArray, List.getElem_cons_succ, List.getElem_cons_zero, Act.put, List.setIfInBounds_toArray, List.set_cons_zero, List.set_cons_succ]
          refine wpAnyH_take (i := 4) (v := ?_) rfl (by kernel_rfl) (by kernel_rfl) (by kernel_rfl) (fun _ _ _ h => h) (Or.inl ⟨by first | kernel_rfl | rfl, ?_⟩) (by assumption) ?_
          rotate_left
          · (intro wq hSw; (try dsimp only at hSw); (try simp (maxSteps := 2000000) only [List.getElem_toArray, List.getElem_cons_succ, List.getElem_cons_zero]); go_simp); try with_reducible rfl
          try simp (maxSteps := 2000000) only [List.getElem_toArray, List.getElem_cons_succ, List.getElem_cons_zero, Act.put, List.setIfInBounds_toArray, List.set_cons_zero, List.set_cons_succ]
          refine wpAnyH_take (i := 5) (v := ?_) rfl (by kernel_rfl) (by kernel_rfl) (by kernel_rfl) (fun _ _ _ h => h) (Or.inl ⟨by first | kernel_rfl | rfl, ?_⟩) (by assumption) ?_
          rotate_left
          · (intro wq hSw; (try dsimp only at hSw); (try simp (maxSteps := 2000000) only [List.getElem_toArray, List.getElem_cons_succ, List.getElem_cons_zero]); go_simp); try with_reducible rfl
          try simp (maxSteps := 2000000) only [List.getElem_toArray, List.getElem_cons_succ, List.getElem_cons_zero, Act.put, List.setIfInBounds_toArray, List.set_cons_zero, List.set_cons_succ]
          refine wpAnyH_take (i := 7) (v := ?_) rfl (by kernel_rfl) (by kernel_rfl) (by kernel_rfl) (fun _ _ _ h => h) (Or.inl ⟨by first | kernel_rfl | rfl, ?_⟩) (by assumption) ?_
          rotate_left
          · (intro wq hSw; (try dsimp only at hSw); (try simp (maxSteps := 2000000) only [List.getElem_toArray, List.getElem_cons_succ, List.getElem_cons_zero]); go_simp); try with_reducible rfl
          try simp (maxSteps := 2000000) only [List.getElem_toArray, List.getElem_cons_succ, List.getElem_cons_zero, Act.put, List.setIfInBounds_toArray, List.set_cons_zero, List.set_cons_succ]
          refine wpAnyH_ready (rs := [6]) (by kernel_rfl) (by simp) ?_
          refine AllReadyH.cons rfl (fun K hK => ?_) AllReadyH.nil
          try simp (maxSteps := 2000000) only [List.getElem_toArray, List.getElem_cons_succ, List.getElem_cons_zero]
          go_simp
          refine hK.out _ _ (by first | assumption | exact Below.refl _ _ | exact (Below.refl _ _).drew | exact (by repeat (first | (with_reducible exact Below.refl _ _) | (with_reducible assumption) | (with_reducible refine Below.drew ?_) | (with_reducible refine Below.setCell ?_ ?_ _) | (with_reducible refine Below.alloc ?_ ?_ _) | (with_reducible refine Below.later ?_ ?_ _) | (first | (with_reducible exact Nat.le_refl _) | omega | (simp only [World.size_alloc, World.size_setCell, World.size_drew] <;> omega))))) (fun hHeld => ?_)
          clear hK K
          try simp (maxSteps := 2000000) only [List.getElem_toArray, List.getElem_cons_succ, List.getElem_cons_zero, Act.put, List.setIfInBounds_toArray, List.set_cons_zero, List.set_cons_succ]
          refine wpAnyH_ready (rs := [8]) (by kernel_rfl) (by simp) ?_
          refine AllReadyH.cons rfl (fun K hK => ?_) AllReadyH.nil
          try simp (maxSteps := 2000000) only [List.getElem_toArray, List.getElem_cons_succ, List.getElem_cons_zero]
          go_simp
          have wL : Below w7.heap.size w7 (w7.drew.alloc (.cells #[.string g.key, .bool g.own, .slice VA vm vc, .slice PA pm pc, .int .u64 g.gen, .int .i64 g.size] 82)) := (Below.refl _ _).drew.alloc (Nat.le_refl _) _
          refine (left_any (Lib.hid (HPq.out.below wL)) f t (Lib.hid (RdL.one FdR.stable (S := S) rfl ⟨VA, vm, vc, PA, pm, pc, rfl, HVq.out.below U8R.stable (Below.refl _ _).drew, HPl.out.below IntR.stable (Below.refl _ _).drew⟩)) (by omega) (fun y hy => by rw [List.mem_singleton.1 hy]; exact HG.out)).mono ?_
          rintro e w10 ⟨A10, c10, rfl, r10, t10⟩
          have T10 := below_then t10 wL
          have T10h := Lib.hid T10
          have b10 := T10
          have s10 := T10.size
          have R10 := Lib.hid (r10.weaken (S' := (w.heap.size ≤ ·)) FdR.stable (fun b hb => by have hb2 : (w7.drew.alloc (.cells #[.string g.key, .bool g.own, .slice VA vm vc, .slice PA pm pc, .int .u64 g.gen, .int .i64 g.size] 82)).heap.size ≤ b := hb; have := wL.size; show w.heap.size ≤ b; omega))
          clear r10 t10 wL
          try (go_wp2_with fail)
          refine hK.out _ _ (by first | assumption | exact Below.refl _ _ | exact (Below.refl _ _).drew | exact (by repeat (first | (with_reducible exact Below.refl _ _) | (with_reducible assumption) | (with_reducible refine Below.drew ?_) | (with_reducible refine Below.setCell ?_ ?_ _) | (with_reducible refine Below.alloc ?_ ?_ _) | (with_reducible refine Below.later ?_ ?_ _) | (first | (with_reducible exact Nat.le_refl _) | omega | (simp only [World.size_alloc, World.size_setCell, World.size_drew] <;> omega))))) (fun hHeld => ?_)
          clear hK K
          try simp (maxSteps := 2000000) only [List.getElem_toArray, List.getElem_cons_succ, List.getElem_cons_zero, Act.put, List.setIfInBounds_toArray, List.set_cons_zero, List.set_cons_succ]
          refine wpAnyH_ready (rs := [9]) (by kernel_rfl) (by simp) ?_
          refine AllReadyH.cons rfl (fun K hK => ?_) AllReadyH.nil
          try simp (maxSteps := 2000000) only [List.getElem_toArray, List.getElem_cons_succ, List.getElem_cons_zero]
          go_simp
          refine hK.out _ _ (by first | assumption | exact Below.refl _ _ | exact (Below.refl _ _).drew | exact (by repeat (first | (with_reducible exact Below.refl _ _) | (with_reducible assumption) | (with_reducible refine Below.drew ?_) | (with_reducible refine Below.setCell ?_ ?_ _) | (with_reducible refine Below.alloc ?_ ?_ _) | (with_reducible refine Below.later ?_ ?_ _) | (first | (with_reducible exact Nat.le_refl _) | omega | (simp only [World.size_alloc, World.size_setCell, World.size_drew] <;> omega))))) (fun hHeld => ?_)
          clear hK K
          try simp (maxSteps := 2000000) only [List.getElem_toArray, List.getElem_cons_succ, List.getElem_cons_zero, Act.put, List.setIfInBounds_toArray, List.set_cons_zero, List.set_cons_succ]
          refine wpAnyH_ready (rs := [10]) (by kernel_rfl) (by simp) ?_
          refine AllReadyH.cons rfl (fun K hK => ?_) AllReadyH.nil
          try simp (maxSteps := 2000000) only [List.getElem_toArray, List.getElem_cons_succ, List.getElem_cons_zero]
          go_simp
          have X11 := BoxAt.new w10 #[.slice Aa Al.length ca, .slice Ao j co, .slice A10 (leftL L f t [g]).length c10] 66
          have w11 : Below w10.heap.size w10 (w10.alloc (.cells #[.slice Aa Al.length ca, .slice Ao j co, .slice A10 (leftL L f t [g]).length c10] 66)) := (Below.refl _ _).alloc (Nat.le_refl _) _
          have R11 := fds_box3 (S := (w.heap.size ≤ ·)) X11 (by show w.heap.size ≤ w10.heap.size; have := T10h.out.size; omega) ((HAq.out.below FdR.stable T10h.out).alloc FdR.stable _) (((RdL.take HOq.out hj).below FdR.stable T10h.out).alloc FdR.stable _) (R10.out.alloc FdR.stable _)
          have hfl : [Al, O.take j, leftL L f t [g]].flatten = Al ++ (O.take j ++ leftL L f t [g]) := by simp
          refine (joined_any (Lib.hid R11) (by rw [hfl]; simp only [List.length_append, List.length_take]; have := left_len L f t [g]; simp only [List.length_singleton] at this; omega) (by omega)).mono ?_
          rintro e w12 ⟨A12, c12, rfl, hc12, r12, t12⟩
          rw [hfl] at hc12 r12
          have T12 := below_then (below_then t12 w11) T10h.out
          have T12h := Lib.hid T12
          have b12 := T12
          have R12 := Lib.hid (r12.weaken (S' := (w.heap.size ≤ ·)) FdR.stable (fun b hb => hb.elim id (fun hb2 => by have := T10h.out.size; have := w11.size; show w.heap.size ≤ b; omega)))
          have HC12 := Lib.hid hc12
          clear r12 t12 X11 w11 R11 hc12
          rw [hfl]
          try (go_wp2_with fail)
          refine hK.out _ _ (by first | assumption | exact Below.refl _ _ | exact (Below.refl _ _).drew | exact (by repeat (first | (with_reducible exact Below.refl _ _) | (with_reducible assumption) | (with_reducible refine Below.drew ?_) | (with_reducible refine Below.setCell ?_ ?_ _) | (with_reducible refine Below.alloc ?_ ?_ _) | (with_reducible refine Below.later ?_ ?_ _) | (first | (with_reducible exact Nat.le_refl _) | omega | (simp only [World.size_alloc, World.size_setCell, World.size_drew] <;> omega))))) (fun hHeld => ?_)
          clear hK K
          try simp (maxSteps := 2000000) only [List.getElem_toArray, List.getElem_cons_succ, List.getElem_cons_zero, Act.put, List.setIfInBounds_toArray, List.set_cons_zero, List.set_cons_succ]
          refine wpAnyH_take (i := 11) (v := ?_) rfl (by kernel_rfl) (by kernel_rfl) (by kernel_rfl) (fun _ _ _ h => h) (Or.inl ⟨by first | kernel_rfl | rfl, ?_⟩) (by assumption) ?_
          rotate_left
          · (intro wq hSw; (try dsimp only at hSw); (try simp (maxSteps := 2000000) only [List.getElem_toArray, List.getElem_cons_succ, List.getElem_cons_zero]); go_simp); try with_reducible rfl
          try simp (maxSteps := 2000000) only [List.getElem_toArray, List.getElem_cons_succ, List.getElem_cons_zero, Act.put, List.setIfInBounds_toArray, List.set_cons_zero, List.set_cons_succ]
          refine wpAnyH_done (by kernel_rfl) ?_ _
          clear b0 b1 b2 b3 b4 b5 y0 y1 hsl1
          have hsl2 := fun w' => slice_suf (A := Ao) (N := O.length) (c := co) (k := j) (by omega) w'
          have R9 := RdL.suf (HOq.out.below FdR.stable T12h.out) hOc hj
          obtain ⟨A9, hA9⟩ : ∃ A9, (if co = j then Ao else Ao.map (fun x : Addr => x.add (j * 6))) = A9 := ⟨_, rfl⟩
          rw [hA9] at hsl2 R9
          have R9h := Lib.hid R9
          clear hA9 R9
          go_wp2_with fail
          have hall : (Al ++ (O.take j ++ leftL L f t [g])) ++ overL L f t (O.drop j) (xs.drop (i + 1)) = T := by
            have h9 := hALL.out
            rw [HDR.out, overL, HCJ.out] at h9
            rw [← h9]; simp only [List.append_assoc]
          refine ⟨⟨i + 1, O.drop j, Al ++ (O.take j ++ leftL L f t [g]), A9, A12, co - j, c12, by omega, by go_num, by rw [List.length_drop], by first | rfl | rw [List.length_append, List.length_append, List.length_take, Nat.min_eq_left hj], ?_, HC12.out, Lib.hid ⟨by rw [List.length_drop]; exact R9h.out, R12.out, by rw [List.length_drop]; omega, by rw [List.length_drop]; omega, fun y hy => hkO.out y (List.mem_of_mem_drop hy), hall⟩, Lib.hid (below_then T12h.out W7.out)⟩, by simp [intOf]; omega⟩
          rw [← hall, List.length_append] at hTl
          omega
    · obtain rfl : i = m := by omega
      have q1 : ¬ (i : Int) < (i : Int) := by omega
      have hall := ST.out.all
      rw [List.drop_of_length_le (by omega : xs.length ≤ i), overL] at hall
      have X11 := BoxAt.new wo #[.slice Aa Al.length ca, .slice Ao O.length co] 66
      have w11 : Below wo.heap.size wo (wo.alloc (.cells #[.slice Aa Al.length ca, .slice Ao O.length co] 66)) := (Below.refl _ _).alloc (Nat.le_refl _) _
      have hwo : w.heap.size ≤ wo.heap.size := Nat.le_trans WA.out.size HT.out.size
      have R11 := Lib.hid (fds_box2 (S := (w.heap.size ≤ ·)) X11 hwo (ST.out.ra.alloc FdR.stable _) (ST.out.ro.alloc FdR.stable _))
      have hfl : [Al, O].flatten = T := by rw [← hall]; simp
      have W11 := Lib.hid w11
      have hjo := joined_any (m := 2) (c := 2) R11 (by rw [hfl]; omega) (by omega)
      rw [hfl] at hjo
      have HS : Hid (seenL L f t xs most = T.take (mostN most T.length)) := Lib.hid (by unfold seenL; rw [HT0.out])
      obtain ⟨k, hk, hkT⟩ : ∃ k : Nat, mostN most T.length = k ∧ k ≤ T.length := ⟨_, rfl, by unfold mostN; omega⟩
      have hmx : max 0 (min most (T.length : Int)) = (k : Int) := by rw [← hk]; unfold mostN; omega
      rw [hk] at HS
      clear hk hall X11 w11 hfl
      go_wp2_with fail
      refine hjo.mono ?_
      rintro e w12 ⟨A12, c12, rfl, hc12, r12, t12⟩
      have HR := Lib.hid (RdL.take (r12.weaken (S' := (w.heap.size ≤ ·)) FdR.stable (fun b hb => hb.elim id (fun hb2 => Nat.le_trans hwo (Nat.le_trans W11.out.size hb2)))) hkT)
      have HT12 := Lib.hid (below_then (below_then (below_then t12 W11.out) HT.out) WA.out)
      have hsl := fun w' => slice_pre (A := A12) (N := T.length) (c := c12) (k := k) (by omega) w'
      clear r12 t12 hjo
      go_wp2_with fail
      go_ret
      unfold FdsE
      rw [HS.out, List.length_take, Nat.min_eq_left hkT]
      exact ⟨A12, c12, rfl, HR.out, HT12.out⟩
end Go.Proofs.Ytpibaahiboajhaa
