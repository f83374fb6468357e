/-
  append(s, make([]byte, k)...) onto a slice of the call's own.
-/
import Derived.Test.YthhljmlpjnkfgaaGreatByt
import Derived.Lib.AppendZerosOnto
set_option linter.unusedSimpArgs false
set_option linter.unusedVariables false
namespace Go.Proofs.YthhljmlpjnkfgaaGreat
open Go.RowKit Go.Cib
attribute [local go_sem] cell_set Later.cell Later.frozen Grw.cell Grw.frozen
open Go.Lib
section
variable {P : Program} (w : World)
theorem run_append_room_zeros (t tn ty e : TypeId) (i : TypeInfo) (z : Value) (kn kq : IntKind) (ht : P.underlying t = some (.slice e)) (htn : P.underlying tn = some (.int kn)) (hi : P.info? e = some i) (hz : i.zero = some z) (hzs : z.cells.size = i.size)
    (g sLen sCap : Nat) (cur : Array Value) (hg : w.heap[g]? = some (.cells cur e (0, 0))) (k : Nat) (h0 : 0 < k) (hs : 0 < i.size) (h63 : (k : Int) ≤ 9223372036854775807) (h48 : k * i.bytes ≤ 281474976710656)
    (h1 : ∀ u ∈ (Builtin.zeroCells z.cells k).toList, u.oneCell' = true) (hroom : sLen + k ≤ sCap) (hfit : sLen * i.size + (Builtin.zeroCells z.cells k).toList.length ≤ cur.size) :
    (Builtin.append_ #[t, tn] ty #[.slice (some ⟨g, 0, none⟩) sLen sCap, .int kq k]).run P w =
      .ok (.slice (some ⟨g, 0, none⟩) (sLen + k) sCap) (w.setRow g (cur.toList.take (sLen * i.size) ++ (Builtin.zeroCells z.cells k).toList ++ cur.toList.drop (sLen * i.size + (Builtin.zeroCells z.cells k).toList.length)).toArray) := by
  have hst := run_storeCells_at P g (sLen * i.size) e (Builtin.zeroCells z.cells k).toList 0 cur w hg (by simpa using hfit) h1
  simp only [Nat.add_zero] at hst
  have hk : k ≠ 0 := by omega
  have hw : IntKind.i64.wrap (k : Int) = k := by rw [IntKind.wrap_i64]; omega
  have h48i : ¬ (281474976710656 < (k : Int) * (i.bytes : Int)) := by
    rw [← Int.natCast_mul]
    omega
  have hneg : ¬ ((k : Int) < 0) := by omega
  have hns : ¬ (k * i.size = 0) := Nat.mul_ne_zero hk (by omega)
  simp only [Array.length_toList] at hst
  simp [Builtin.append_, run_underlying ht, run_underlying htn, sizeOf, typeInfo, zeroValue, hi, hz, asInt, asIntOf, hw, hneg, hns, h48i, hroom, Addr.add_lit, hst]
end
theorem zeros_by (k : Nat) : Builtin.zeroCells (Value.int .u8 0).cells k = Array.replicate k (.int .u8 0) := by
  rw [show (Value.int .u8 0).cells = #[.int .u8 0] from rfl]
  apply Array.ext
  · rw [size_zeroCells]; simp
  · intro i h1 h2
    simp [Builtin.zeroCells, Nat.mod_one]
section
variable {ops : Array Oper} {rest : List Oper} {o : Oper} {a : Act} {Q : Exit → Act → World → Prop} {w : World}
theorem wpList_appZ {s x : Operand} {tn : TypeId} {kn kq : IntKind} (htn : Tryz.prog.underlying tn = some (.int kn))
    (hgd : o.guard = none) (ho : o.op = .call { callee := .builtin .append, args := #[s, x], argTypes := #[29, tn] })
    {base n cap g : Nat} {S : Nat → Prop} {xs : List Nat} (hs : a.eval s = .slice (some ⟨g, 0, none⟩) n cap) (hown : OwnL ByR 5 1 base S w (.slice (some ⟨g, 0, none⟩) n cap) n xs)
    {k : Nat} (hx : a.eval x = .int kq (k : Int)) (h0 : 0 < k) (hn0 : 0 < n) (hk : n + k ≤ 1000000) (hbase : base ≤ w.heap.size)
    (h : ∀ g' c' w', base ≤ g' → n + k ≤ c' → OwnL ByR 5 1 base S w' (.slice (some ⟨g', 0, none⟩) (n + k) c') (n + k) (xs ++ List.replicate k 0) → w.grownBy w' (some g) → wpList Tryz.prog ops Q rest (a.put o.dst (.slice (some ⟨g', 0, none⟩) (n + k) c')) w') :
    wpList Tryz.prog ops Q (o :: rest) a w := by
  obtain ⟨i, hi, hz, hsz, hby⟩ := info_parts sl_by.info
  obtain ⟨css, k1, k2, k3, k4, k5⟩ := hown
  have hlen0 : css.flatten.length = n := by have := k1.1; omega
  have hreads : ∀ (j : Nat) (cs : List Value) (x : Nat), (css ++ List.replicate k [Value.int .u8 0])[j]? = some cs → (xs ++ List.replicate k 0)[j]? = some x → ByR S w cs x := by
    intro j cs x h1 h2
    by_cases hj : j < n
    · rw [List.getElem?_append_left (by omega)] at h1 h2
      exact k5 j cs x h1 h2
    · rw [List.getElem?_append_right (by omega)] at h1 h2
      have e1 := List.mem_of_getElem? h1
      have e2 := List.mem_of_getElem? h2
      have e3 : cs = [Value.int .u8 0] := (List.mem_replicate.1 e1).2
      have e4 : x = 0 := (List.mem_replicate.1 e2).2
      subst e3; subst e4
      show (0 : Nat) < 256 ∧ [Value.int .u8 0] = [Value.int .u8 ((0 : Nat) : Int)]
      exact ⟨Nat.succ_pos _, rfl⟩
  have hrp : ∀ m : Nat, (List.replicate m [Value.int .u8 0]).flatten = (Array.replicate m (Value.int .u8 0)).toList := fun m => by
    rw [Array.toList_replicate]
    induction m with
    | zero => exact List.flatten_nil
    | succ m ih => rw [List.replicate_succ, List.flatten_cons, ih, List.replicate_succ]; exact List.singleton_append
  have hfl : (css ++ List.replicate k [Value.int .u8 0]).flatten = css.flatten ++ (Array.replicate k (Value.int .u8 0)).toList := by
    rw [List.flatten_append, hrp]
  have hmk : ∀ (v' : Value) (w' : World), w'.ownsRow base 5 1 v' (n + k) (css.flatten ++ (Array.replicate k (Value.int .u8 0)).toList) → OwnL ByR 5 1 base S w' v' (n + k) (xs ++ List.replicate k 0) := fun v' w' hr =>
    ⟨css ++ List.replicate k [Value.int .u8 0], by rw [hfl]; exact hr, by rw [List.length_append, List.length_replicate, k2], by rw [List.length_append, List.length_replicate, k3], fun cs hc => by
      rcases List.mem_append.1 hc with hc | hc
      · exact k4 cs hc
      · rw [(List.mem_replicate.1 hc).2]; rfl, fun j cs x h1 h2 => hreads j cs x h1 h2⟩
  rcases k1.2 with ⟨e, _⟩ | ⟨g1, cap1, cur, e, hbg, hg, hnc, hcm, hcs, htake⟩
  · cases e
  injection e with e1 e2 e3
  injection e1 with e1
  injection e1 with e1
  subst e1; subst e3
  have hzc : Builtin.zeroCells (Value.int .u8 0).cells k = Array.replicate k (.int .u8 0) := zeros_by k
  have hlen : (css.flatten ++ (Array.replicate k (Value.int .u8 0)).toList).length = n + k := by rw [List.length_append, hlen0]; simp
  by_cases hroom : n + k ≤ cap
  · have hr := run_append_room_zeros (P := Tryz.prog) w 29 tn o.type 5 i (.int .u8 0) kn kq sl_by.und htn hi hz (by rw [hsz]; rfl) g n cap cur hg k h0 (by omega) (by omega) (by rw [hby]; omega) (by rw [hzc]; intro u hu; simp at hu; rw [hu.2]; rfl) hroom (by rw [hzc, hsz]; simp; omega)
    refine wpList_append_run w hgd _ _ _ _ ho _ _ hs hx _ _ hr ?_
    rw [hzc, hsz, Nat.mul_one]
    refine h g cap _ hbg hroom (hmk _ _ ⟨by rw [hlen]; omega, .inr ⟨g, cap, _, rfl, hbg, setRow_heap w g cur _ _ _ hg, hroom, hcm, ?_, ?_⟩⟩) ⟨rfl, rfl, rfl, by simp, fun k _ hk => setRow_other w g k _ (fun e => hk (by rw [e]))⟩
    · simp only [List.size_toArray, List.length_append, List.length_take, List.length_drop, Array.length_toList, Array.size_replicate]
      omega
    · rw [show cur.toList.take n = css.flatten by rw [← htake, Nat.mul_one]]
      rw [show (n + k) * 1 = (css.flatten ++ (Array.replicate k (Value.int .u8 0)).toList).length by rw [hlen]; omega]
      exact List.take_left
  · have holds : ∀ j u, css.flatten[j]? = some u → w.cell? ((⟨g, 0, none⟩ : Addr).add j) = some u := k1.cells (g := g) rfl
    have hfc := run_firstCells_some (P := Tryz.prog) w.drew i.size n ⟨g, 0, none⟩ n cap css.flatten (by rw [hsz, hlen0]; omega) (fun j u hj => holds j u hj)
    have hr := run_append_grow_zeros (P := Tryz.prog) w 29 tn o.type 5 i (.int .u8 0) kq kn sl_by.und htn hi hz (some ⟨g, 0, none⟩) n cap css.flatten hfc k h0 (by omega) (by omega) (by omega) (by rw [hby]; omega) (growslice_fits (by omega) (by rw [hby]; omega))
    refine wpList_append_run w hgd _ _ _ _ ho _ _ hs hx _ _ hr ?_
    rw [hzc]
    have hge := grownCap_ge w (n + k) cap 5
    have hcm2 : grownCap w (n + k) cap 5 ≤ maxLen := grownCap_le_maxLen w (n + k) cap _ (by unfold maxLen; omega)
    refine h _ _ _ hbase hge (hmk _ _ ⟨by rw [hlen]; omega, .inr ⟨w.heap.size, _, _, rfl, hbase, heap_alloc_new w.drew _, hge, hcm2, ?_, ?_⟩⟩) ⟨rfl, rfl, rfl, by simp, fun k hk _ => Below.heap_alloc w.drew _ _ hk⟩
    · rw [Array.size_append, Array.size_append, size_zeroCells, List.size_toArray, hlen0, Array.size_replicate]
      show n + k + _ * 1 = _
      omega
    · rw [Array.toList_append, Array.toList_append]
      rw [show (n + k) * 1 = (css.flatten ++ (Array.replicate k (Value.int .u8 0)).toList).length by rw [hlen]; omega]
      exact List.take_left
end
end Go.Proofs.YthhljmlpjnkfgaaGreat
