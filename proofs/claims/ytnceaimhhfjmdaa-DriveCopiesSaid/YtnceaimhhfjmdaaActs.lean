/-
  An act, on both.
-/
import Derived.Test.YtnceaimhhfjmdaaRefD9
import Derived.Test.YtnceaimhhfjmdaaDrvRots
set_option linter.unusedSimpArgs false
set_option linter.unusedVariables false
namespace Go.Proofs.Ytnceaimhhfjmdaa
open Go.RowKit Go.Cib
attribute [local go_sem] cell_set Later.cell Later.frozen Grw.cell Grw.frozen

theorem write_some {F : Nat → Prop} {w : World} {p n : Nat} {st : DSt} (h : Hid (DrvAt F w p n st)) (z : Int) {S : Nat → Prop} {A : Option Addr} {m c : Nat} {bs : List Int} (hb : Hid (RdL U8R 1 S w A m bs)) (hS : ∀ b, S b → ¬ F b) (hcl : st.cache.length < 1000000) :
    Calls Try.prog 14 #[.pointer (some ⟨p, 0, none⟩), .int .i64 z, .slice A m c] w fun e w' => (∃ E, e = .returned (.int .i64 E)) ∧ Upd F w w' p n (if readyE st.dead n z = 0 ∧ m = 64 then st.write z bs else st) :=
  (write_all h z hb hS hcl).mono fun e w' ⟨h1, h2⟩ => ⟨⟨_, h1⟩, h2⟩

structure ActV where
  kind : Int
  at_ : Int
  off : Int
  c : Int
  mask : Int
  keep : List Bool
  b : List Int
def wrD (n : Nat) (st : DSt) (z : Int) (bs : List Int) : DSt := if readyE st.dead n z = 0 ∧ bs.length = 64 then st.write z bs else st
def wrR (n : Nat) (rs : RSt) (z : Int) (bs : List Int) : RSt := if wrOk rs n z bs.length then { rs with wait := rs.wait ++ [⟨z, bs, 0, 0⟩] } else rs
def flD (st : DSt) : DSt := if st.dead = false then st.settle (fun _ => true) else st
def flR (rs : RSt) : RSt := if rs.gone = false then { rs with L := rs.L ++ rs.wait, wait := [] } else rs
def rtD (n : Nat) (st : DSt) (z off mask : Int) : DSt := if rotDOk st n z off mask then st.rot z.toNat off.toNat mask else st
def rtR (n : Nat) (rs : RSt) (z off mask : Int) : RSt := if rrotOk rs n z off mask then { rs with L := rs.L ++ [⟨z, [], off, mask⟩] } else rs
def RetB (e : Ending) : Prop := ∃ r, e = .returned (.bool r)
def actD (n : Nat) (st : DSt) (a : ActV) : DSt :=
  if a.kind = 0 ∨ a.kind = 1 ∨ a.kind = 2 then wrD n st a.at_ (rep a.c)
  else if a.kind = 3 then flD st
  else if a.kind = 4 then st.settle (keepOf a.keep)
  else if a.kind = 5 then DSt.gone n
  else if a.kind = 6 then DSt.new n
  else if a.kind = 7 then rtD n st a.at_ a.off a.mask
  else if a.kind = 9 then wrD n st a.at_ a.b
  else st
def actR (n : Nat) (rs : RSt) (a : ActV) : RSt :=
  if a.kind = 0 ∨ a.kind = 1 ∨ a.kind = 2 then wrR n rs a.at_ (rep a.c)
  else if a.kind = 3 then flR rs
  else if a.kind = 4 then { rs with L := rs.L ++ keptE (keepOf a.keep) 0 rs.wait, wait := [] }
  else if a.kind = 5 then ⟨[], [], true⟩
  else if a.kind = 6 then ⟨[], [], false⟩
  else if a.kind = 7 then rtR n rs a.at_ a.off a.mask
  else if a.kind = 9 then wrR n rs a.at_ a.b
  else rs
theorem Both.mk {F G F1 G1 : Nat → Prop} {w w1 w2 w3 w4 : World} {p x n : Nat} {st : DSt} {rs : RSt} (b1 : Below w.heap.size w w1) (k1 : Keep F w1 w2) (b2 : Below w2.heap.size w2 w3) (k2 : Keep G w3 w4) (hF : ∀ k, F1 k → k < w1.heap.size → F k) (hG : ∀ k, G1 k → k < w3.heap.size → G k) (T : Two F1 G1 w4 p x n st rs) : Both F G w w4 p x n st rs := by
  have s1 := b1.size
  have s2 := k1.size
  have s3 := b2.size
  refine ⟨F1, G1, T, fun k h1 h2 => hF k h1 (by omega), fun k h1 h2 => hG k h1 (by omega), ?_⟩
  refine ((((Keep.of_below (F := fun k => F k ∨ G k) b1).trans (G := fun k => F k ∨ G k) (k1.mono (fun k h _ => .inl h)) (fun k h _ => h)).trans (G := fun _ => False) (Keep.of_below b2) (fun _ h => h.elim)).trans (G := fun k => F k ∨ G k) (k2.mono (fun k h _ => .inr h)) (fun k h _ => h))


set_option maxRecDepth 100000 in
set_option maxHeartbeats 4000000 in
theorem act_flush {F G : Nat → Prop} {w : World} {p x n : Nat} {st : DSt} {rs : RSt} (h : Hid (Two F G w p x n st rs)) (hc1 : st.cache.length < 1000000) (hc2 : rs.L.length + rs.wait.length < 1000000) {S : Nat → Prop} {KA BA : Option Addr} {km kc bm bc : Nat} {ks : List Bool} {bs : List Int} (hk : Hid (RdL BoolR 1 S w KA km ks)) (hb : Hid (RdL U8R 1 S w BA bm bs)) (hS : ∀ b, S b → ¬ F b ∧ ¬ G b ∧ b < w.heap.size) (z off c mask : Int) :
    Calls Try.prog 41 #[.pointer (some ⟨p, 0, none⟩), .pointer (some ⟨x, 0, none⟩), .agg #[.int .i64 3, .int .i64 z, .int .i64 off, .int .u8 c, .int .u32 mask, .slice KA km kc, .slice BA bm bc]] w fun e w' => RetB e ∧ Both F G w w' p x n (flD st) (flR rs) := by
  have b0 : Below w.heap.size w (w.alloc (.cells #[.int .i64 3, .int .i64 z, .int .i64 off, .int .u8 c, .int .u32 mask, .slice KA km kc, .slice BA bm bc] 78)) := (Below.refl _ _).alloc (Nat.le_refl _) _
  have X0 := Lib.hid (BoxAt.new w #[.int .i64 3, .int .i64 z, .int .i64 off, .int .u8 c, .int .u32 mask, .slice KA km kc, .slice BA bm bc] 78)
  obtain ⟨w0, hw0⟩ : ∃ w0, w.alloc (.cells #[.int .i64 3, .int .i64 z, .int .i64 off, .int .u8 c, .int .u32 mask, .slice KA km kc, .slice BA bm bc] 78) = w0 := ⟨_, rfl⟩
  rw [hw0] at b0 X0
  have T0 := Lib.hid (h.out.below b0)
  have hbF : ∀ k, F k → k < w.heap.size := fun k hk => drvAt_lt h.out.d hk
  have hbG : ∀ k, G k → k < w.heap.size := fun k hk => h.out.r.lt hk
  have HbF := Lib.hid hbF
  have HbG := Lib.hid hbG
  have HS := Lib.hid hS
  have q0 : w0.cell? ⟨w.heap.size, 0, none⟩ = some (.int .i64 3) := X0.out.cell 0
  have q1 : w0.cell? ⟨w.heap.size, 1, none⟩ = some (.int .i64 z) := X0.out.cell 1
  have q2 : w0.cell? ⟨w.heap.size, 2, none⟩ = some (.int .i64 off) := X0.out.cell 2
  have q3 : w0.cell? ⟨w.heap.size, 3, none⟩ = some (.int .u8 c) := X0.out.cell 3
  have q4 : w0.cell? ⟨w.heap.size, 4, none⟩ = some (.int .u32 mask) := X0.out.cell 4
  have q5 : w0.cell? ⟨w.heap.size, 5, none⟩ = some (.slice KA km kc) := X0.out.cell 5
  have q6 : w0.cell? ⟨w.heap.size, 6, none⟩ = some (.slice BA bm bc) := X0.out.cell 6
  have B0 := Lib.hid b0
  clear hbF hbG hS b0
  go_enter Try.func41, Try.ntmps41
  go_wp2_with fail
  refine (flush_all (Lib.hid T0.out.d) hc1).mono ?_
  rintro e w1 ⟨⟨E1, rfl⟩, u1⟩
  obtain ⟨F1, T1, hF1, K1⟩ := T0.out.drv u1
  have X1 := Lib.hid (X0.out.keeps K1 (fun hf => Nat.lt_irrefl _ (HbF.out _ hf)))
  have q5 : w1.cell? ⟨w.heap.size, 5, none⟩ = some (.slice KA km kc) := X1.out.cell 5
  have T1 := Lib.hid T1
  go_wp2_with fail
  refine (rflush_all (Lib.hid T1.out.r) hc2).mono ?_
  rintro e w2 ⟨⟨E2, rfl⟩, u2⟩
  obtain ⟨G1, T2, hG1, K2⟩ := T1.out.ref u2
  have T2 := Lib.hid T2
  clear q5
  go_wp2_with fail
  go_ret
  exact ⟨⟨_, rfl⟩, Both.mk B0.out K1 (Below.refl _ _) K2 hF1 hG1 T2.out⟩

set_option maxRecDepth 100000 in
set_option maxHeartbeats 4000000 in
theorem act_crash {F G : Nat → Prop} {w : World} {p x n : Nat} {st : DSt} {rs : RSt} (h : Hid (Two F G w p x n st rs)) (hc1 : st.cache.length < 1000000) (hc2 : rs.L.length + rs.wait.length < 1000000) {S : Nat → Prop} {KA BA : Option Addr} {km kc bm bc : Nat} {ks : List Bool} {bs : List Int} (hk : Hid (RdL BoolR 1 S w KA km ks)) (hb : Hid (RdL U8R 1 S w BA bm bs)) (hS : ∀ b, S b → ¬ F b ∧ ¬ G b ∧ b < w.heap.size) (z off c mask : Int) :
    Calls Try.prog 41 #[.pointer (some ⟨p, 0, none⟩), .pointer (some ⟨x, 0, none⟩), .agg #[.int .i64 4, .int .i64 z, .int .i64 off, .int .u8 c, .int .u32 mask, .slice KA km kc, .slice BA bm bc]] w fun e w' => RetB e ∧ Both F G w w' p x n (st.settle (keepOf ks)) ({ rs with L := rs.L ++ keptE (keepOf ks) 0 rs.wait, wait := [] }) := by
  have b0 : Below w.heap.size w (w.alloc (.cells #[.int .i64 4, .int .i64 z, .int .i64 off, .int .u8 c, .int .u32 mask, .slice KA km kc, .slice BA bm bc] 78)) := (Below.refl _ _).alloc (Nat.le_refl _) _
  have X0 := Lib.hid (BoxAt.new w #[.int .i64 4, .int .i64 z, .int .i64 off, .int .u8 c, .int .u32 mask, .slice KA km kc, .slice BA bm bc] 78)
  obtain ⟨w0, hw0⟩ : ∃ w0, w.alloc (.cells #[.int .i64 4, .int .i64 z, .int .i64 off, .int .u8 c, .int .u32 mask, .slice KA km kc, .slice BA bm bc] 78) = w0 := ⟨_, rfl⟩
  rw [hw0] at b0 X0
  have T0 := Lib.hid (h.out.below b0)
  have hbF : ∀ k, F k → k < w.heap.size := fun k hk => drvAt_lt h.out.d hk
  have hbG : ∀ k, G k → k < w.heap.size := fun k hk => h.out.r.lt hk
  have HbF := Lib.hid hbF
  have HbG := Lib.hid hbG
  have HS := Lib.hid hS
  have q0 : w0.cell? ⟨w.heap.size, 0, none⟩ = some (.int .i64 4) := X0.out.cell 0
  have q1 : w0.cell? ⟨w.heap.size, 1, none⟩ = some (.int .i64 z) := X0.out.cell 1
  have q2 : w0.cell? ⟨w.heap.size, 2, none⟩ = some (.int .i64 off) := X0.out.cell 2
  have q3 : w0.cell? ⟨w.heap.size, 3, none⟩ = some (.int .u8 c) := X0.out.cell 3
  have q4 : w0.cell? ⟨w.heap.size, 4, none⟩ = some (.int .u32 mask) := X0.out.cell 4
  have q5 : w0.cell? ⟨w.heap.size, 5, none⟩ = some (.slice KA km kc) := X0.out.cell 5
  have q6 : w0.cell? ⟨w.heap.size, 6, none⟩ = some (.slice BA bm bc) := X0.out.cell 6
  have B0 := Lib.hid b0
  clear hbF hbG hS b0
  go_enter Try.func41, Try.ntmps41
  go_wp2_with fail
  refine (crash_any (Lib.hid T0.out.d) hc1 (Lib.hid (hk.out.below BoolR.stable B0.out)) (fun b hb => (HS.out b hb).1)).mono ?_
  rintro e w1 ⟨rfl, u1⟩
  obtain ⟨F1, T1, hF1, K1⟩ := T0.out.drv u1
  have X1 := Lib.hid (X0.out.keeps K1 (fun hf => Nat.lt_irrefl _ (HbF.out _ hf)))
  have q5 : w1.cell? ⟨w.heap.size, 5, none⟩ = some (.slice KA km kc) := X1.out.cell 5
  have T1 := Lib.hid T1
  go_wp2_with fail
  refine (rcrash_any (Lib.hid T1.out.r) hc2 (Lib.hid ((hk.out.below BoolR.stable B0.out).keep BoolR.stable K1 (fun b hb => (HS.out b hb).1))) (fun b hb => (HS.out b hb).2.1)).mono ?_
  rintro e w2 ⟨rfl, u2⟩
  obtain ⟨G1, T2, hG1, K2⟩ := T1.out.ref u2
  have T2 := Lib.hid T2
  clear q5
  go_wp2_with fail
  go_ret
  exact ⟨⟨_, rfl⟩, Both.mk B0.out K1 (Below.refl _ _) K2 hF1 hG1 T2.out⟩

set_option maxRecDepth 100000 in
set_option maxHeartbeats 4000000 in
theorem act_fail {F G : Nat → Prop} {w : World} {p x n : Nat} {st : DSt} {rs : RSt} (h : Hid (Two F G w p x n st rs)) (hc1 : st.cache.length < 1000000) (hc2 : rs.L.length + rs.wait.length < 1000000) {S : Nat → Prop} {KA BA : Option Addr} {km kc bm bc : Nat} {ks : List Bool} {bs : List Int} (hk : Hid (RdL BoolR 1 S w KA km ks)) (hb : Hid (RdL U8R 1 S w BA bm bs)) (hS : ∀ b, S b → ¬ F b ∧ ¬ G b ∧ b < w.heap.size) (z off c mask : Int) :
    Calls Try.prog 41 #[.pointer (some ⟨p, 0, none⟩), .pointer (some ⟨x, 0, none⟩), .agg #[.int .i64 5, .int .i64 z, .int .i64 off, .int .u8 c, .int .u32 mask, .slice KA km kc, .slice BA bm bc]] w fun e w' => RetB e ∧ Both F G w w' p x n (DSt.gone n) (⟨[], [], true⟩) := by
  have b0 : Below w.heap.size w (w.alloc (.cells #[.int .i64 5, .int .i64 z, .int .i64 off, .int .u8 c, .int .u32 mask, .slice KA km kc, .slice BA bm bc] 78)) := (Below.refl _ _).alloc (Nat.le_refl _) _
  have X0 := Lib.hid (BoxAt.new w #[.int .i64 5, .int .i64 z, .int .i64 off, .int .u8 c, .int .u32 mask, .slice KA km kc, .slice BA bm bc] 78)
  obtain ⟨w0, hw0⟩ : ∃ w0, w.alloc (.cells #[.int .i64 5, .int .i64 z, .int .i64 off, .int .u8 c, .int .u32 mask, .slice KA km kc, .slice BA bm bc] 78) = w0 := ⟨_, rfl⟩
  rw [hw0] at b0 X0
  have T0 := Lib.hid (h.out.below b0)
  have hbF : ∀ k, F k → k < w.heap.size := fun k hk => drvAt_lt h.out.d hk
  have hbG : ∀ k, G k → k < w.heap.size := fun k hk => h.out.r.lt hk
  have HbF := Lib.hid hbF
  have HbG := Lib.hid hbG
  have HS := Lib.hid hS
  have q0 : w0.cell? ⟨w.heap.size, 0, none⟩ = some (.int .i64 5) := X0.out.cell 0
  have q1 : w0.cell? ⟨w.heap.size, 1, none⟩ = some (.int .i64 z) := X0.out.cell 1
  have q2 : w0.cell? ⟨w.heap.size, 2, none⟩ = some (.int .i64 off) := X0.out.cell 2
  have q3 : w0.cell? ⟨w.heap.size, 3, none⟩ = some (.int .u8 c) := X0.out.cell 3
  have q4 : w0.cell? ⟨w.heap.size, 4, none⟩ = some (.int .u32 mask) := X0.out.cell 4
  have q5 : w0.cell? ⟨w.heap.size, 5, none⟩ = some (.slice KA km kc) := X0.out.cell 5
  have q6 : w0.cell? ⟨w.heap.size, 6, none⟩ = some (.slice BA bm bc) := X0.out.cell 6
  have B0 := Lib.hid b0
  clear hbF hbG hS b0
  go_enter Try.func41, Try.ntmps41
  go_wp2_with fail
  refine (fail_any (Lib.hid T0.out.d)).mono ?_
  rintro e w1 ⟨rfl, u1⟩
  obtain ⟨F1, T1, hF1, K1⟩ := T0.out.drv u1
  have X1 := Lib.hid (X0.out.keeps K1 (fun hf => Nat.lt_irrefl _ (HbF.out _ hf)))
  have q5 : w1.cell? ⟨w.heap.size, 5, none⟩ = some (.slice KA km kc) := X1.out.cell 5
  have T1 := Lib.hid T1
  go_wp2_with fail
  refine (rfail_any (Lib.hid T1.out.r)).mono ?_
  rintro e w2 ⟨rfl, u2⟩
  obtain ⟨G1, T2, hG1, K2⟩ := T1.out.ref u2
  have T2 := Lib.hid T2
  clear q5
  go_wp2_with fail
  go_ret
  exact ⟨⟨_, rfl⟩, Both.mk B0.out K1 (Below.refl _ _) K2 hF1 hG1 T2.out⟩

set_option maxRecDepth 100000 in
set_option maxHeartbeats 4000000 in
theorem act_replace {F G : Nat → Prop} {w : World} {p x n : Nat} {st : DSt} {rs : RSt} (h : Hid (Two F G w p x n st rs)) (hc1 : st.cache.length < 1000000) (hc2 : rs.L.length + rs.wait.length < 1000000) {S : Nat → Prop} {KA BA : Option Addr} {km kc bm bc : Nat} {ks : List Bool} {bs : List Int} (hk : Hid (RdL BoolR 1 S w KA km ks)) (hb : Hid (RdL U8R 1 S w BA bm bs)) (hS : ∀ b, S b → ¬ F b ∧ ¬ G b ∧ b < w.heap.size) (z off c mask : Int) :
    Calls Try.prog 41 #[.pointer (some ⟨p, 0, none⟩), .pointer (some ⟨x, 0, none⟩), .agg #[.int .i64 6, .int .i64 z, .int .i64 off, .int .u8 c, .int .u32 mask, .slice KA km kc, .slice BA bm bc]] w fun e w' => RetB e ∧ Both F G w w' p x n (DSt.new n) (⟨[], [], false⟩) := by
  have b0 : Below w.heap.size w (w.alloc (.cells #[.int .i64 6, .int .i64 z, .int .i64 off, .int .u8 c, .int .u32 mask, .slice KA km kc, .slice BA bm bc] 78)) := (Below.refl _ _).alloc (Nat.le_refl _) _
  have X0 := Lib.hid (BoxAt.new w #[.int .i64 6, .int .i64 z, .int .i64 off, .int .u8 c, .int .u32 mask, .slice KA km kc, .slice BA bm bc] 78)
  obtain ⟨w0, hw0⟩ : ∃ w0, w.alloc (.cells #[.int .i64 6, .int .i64 z, .int .i64 off, .int .u8 c, .int .u32 mask, .slice KA km kc, .slice BA bm bc] 78) = w0 := ⟨_, rfl⟩
  rw [hw0] at b0 X0
  have T0 := Lib.hid (h.out.below b0)
  have hbF : ∀ k, F k → k < w.heap.size := fun k hk => drvAt_lt h.out.d hk
  have hbG : ∀ k, G k → k < w.heap.size := fun k hk => h.out.r.lt hk
  have HbF := Lib.hid hbF
  have HbG := Lib.hid hbG
  have HS := Lib.hid hS
  have q0 : w0.cell? ⟨w.heap.size, 0, none⟩ = some (.int .i64 6) := X0.out.cell 0
  have q1 : w0.cell? ⟨w.heap.size, 1, none⟩ = some (.int .i64 z) := X0.out.cell 1
  have q2 : w0.cell? ⟨w.heap.size, 2, none⟩ = some (.int .i64 off) := X0.out.cell 2
  have q3 : w0.cell? ⟨w.heap.size, 3, none⟩ = some (.int .u8 c) := X0.out.cell 3
  have q4 : w0.cell? ⟨w.heap.size, 4, none⟩ = some (.int .u32 mask) := X0.out.cell 4
  have q5 : w0.cell? ⟨w.heap.size, 5, none⟩ = some (.slice KA km kc) := X0.out.cell 5
  have q6 : w0.cell? ⟨w.heap.size, 6, none⟩ = some (.slice BA bm bc) := X0.out.cell 6
  have B0 := Lib.hid b0
  clear hbF hbG hS b0
  go_enter Try.func41, Try.ntmps41
  go_wp2_with fail
  refine (replace_any (Lib.hid T0.out.d)).mono ?_
  rintro e w1 ⟨rfl, u1⟩
  obtain ⟨F1, T1, hF1, K1⟩ := T0.out.drv u1
  have X1 := Lib.hid (X0.out.keeps K1 (fun hf => Nat.lt_irrefl _ (HbF.out _ hf)))
  have q5 : w1.cell? ⟨w.heap.size, 5, none⟩ = some (.slice KA km kc) := X1.out.cell 5
  have T1 := Lib.hid T1
  go_wp2_with fail
  refine (rreplace_any (Lib.hid T1.out.r)).mono ?_
  rintro e w2 ⟨rfl, u2⟩
  obtain ⟨G1, T2, hG1, K2⟩ := T1.out.ref u2
  have T2 := Lib.hid T2
  clear q5
  go_wp2_with fail
  go_ret
  exact ⟨⟨_, rfl⟩, Both.mk B0.out K1 (Below.refl _ _) K2 hF1 hG1 T2.out⟩

set_option maxRecDepth 100000 in
set_option maxHeartbeats 4000000 in
theorem act_none {F G : Nat → Prop} {w : World} {p x n : Nat} {st : DSt} {rs : RSt} (h : Hid (Two F G w p x n st rs)) (hc1 : st.cache.length < 1000000) (hc2 : rs.L.length + rs.wait.length < 1000000) {S : Nat → Prop} {KA BA : Option Addr} {km kc bm bc : Nat} {ks : List Bool} {bs : List Int} (hk : Hid (RdL BoolR 1 S w KA km ks)) (hb : Hid (RdL U8R 1 S w BA bm bs)) (hS : ∀ b, S b → ¬ F b ∧ ¬ G b ∧ b < w.heap.size) (z off c mask : Int) (kind : Int) (e0 : (kind == 0) = false) (e1 : (kind == 1) = false) (e2 : (kind == 2) = false) (e3 : (kind == 3) = false) (e4 : (kind == 4) = false) (e5 : (kind == 5) = false) (e6 : (kind == 6) = false) (e7 : (kind == 7) = false) (e9 : (kind == 9) = false) :
    Calls Try.prog 41 #[.pointer (some ⟨p, 0, none⟩), .pointer (some ⟨x, 0, none⟩), .agg #[.int .i64 kind, .int .i64 z, .int .i64 off, .int .u8 c, .int .u32 mask, .slice KA km kc, .slice BA bm bc]] w fun e w' => RetB e ∧ Both F G w w' p x n (st) (rs) := by
  have b0 : Below w.heap.size w (w.alloc (.cells #[.int .i64 kind, .int .i64 z, .int .i64 off, .int .u8 c, .int .u32 mask, .slice KA km kc, .slice BA bm bc] 78)) := (Below.refl _ _).alloc (Nat.le_refl _) _
  have X0 := Lib.hid (BoxAt.new w #[.int .i64 kind, .int .i64 z, .int .i64 off, .int .u8 c, .int .u32 mask, .slice KA km kc, .slice BA bm bc] 78)
  obtain ⟨w0, hw0⟩ : ∃ w0, w.alloc (.cells #[.int .i64 kind, .int .i64 z, .int .i64 off, .int .u8 c, .int .u32 mask, .slice KA km kc, .slice BA bm bc] 78) = w0 := ⟨_, rfl⟩
  rw [hw0] at b0 X0
  have T0 := Lib.hid (h.out.below b0)
  have hbF : ∀ k, F k → k < w.heap.size := fun k hk => drvAt_lt h.out.d hk
  have hbG : ∀ k, G k → k < w.heap.size := fun k hk => h.out.r.lt hk
  have HbF := Lib.hid hbF
  have HbG := Lib.hid hbG
  have HS := Lib.hid hS
  have q0 : w0.cell? ⟨w.heap.size, 0, none⟩ = some (.int .i64 kind) := X0.out.cell 0
  have q1 : w0.cell? ⟨w.heap.size, 1, none⟩ = some (.int .i64 z) := X0.out.cell 1
  have q2 : w0.cell? ⟨w.heap.size, 2, none⟩ = some (.int .i64 off) := X0.out.cell 2
  have q3 : w0.cell? ⟨w.heap.size, 3, none⟩ = some (.int .u8 c) := X0.out.cell 3
  have q4 : w0.cell? ⟨w.heap.size, 4, none⟩ = some (.int .u32 mask) := X0.out.cell 4
  have q5 : w0.cell? ⟨w.heap.size, 5, none⟩ = some (.slice KA km kc) := X0.out.cell 5
  have q6 : w0.cell? ⟨w.heap.size, 6, none⟩ = some (.slice BA bm bc) := X0.out.cell 6
  have B0 := Lib.hid b0
  clear hbF hbG hS b0
  go_enter Try.func41, Try.ntmps41
  go_wp2_with fail
  go_ret
  exact ⟨⟨_, rfl⟩, Both.mk B0.out (Keep.refl _ _) (Below.refl _ _) (Keep.refl _ _) (fun _ h _ => h) (fun _ h _ => h) T0.out⟩
end Go.Proofs.Ytnceaimhhfjmdaa
