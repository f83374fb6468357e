/-
  A tree: New, Len, Get.
-/
import Derived.Test.YtpibaahiboajhaaTre11
set_option linter.unusedSimpArgs false
set_option linter.unusedVariables false
namespace Go.Proofs.Ytpibaahiboajhaa
open Go.RowKit Go.Cib
attribute [local go_sem] cell_set Later.cell Later.frozen Grw.cell Grw.frozen

set_option maxRecDepth 100000 in
theorem tnew_any (w : World) :
    Calls Try.prog 71 #[] w fun e w' => ∃ t F, e = .returned (.pointer (some ⟨t, 0, none⟩)) ∧ TreeM w' w.heap.size (fun _ => False) t [] F ∧ Below w.heap.size w w' := by
  have X1 := BoxAt.new w #[.slice none 0 0, .slice none 0 0] 181
  have X2 := BoxAt.new (w.alloc (.cells #[.slice none 0 0, .slice none 0 0] 181)) #[.pointer (some ⟨w.heap.size, 0, none⟩), .int .i64 0] 183
  have hb : Below w.heap.size w ((w.alloc (.cells #[.slice none 0 0, .slice none 0 0] 181)).alloc (.cells #[.pointer (some ⟨w.heap.size, 0, none⟩), .int .i64 0] 183)) := (by repeat (first | (with_reducible exact Below.refl _ _) | (with_reducible assumption) | (with_reducible refine Below.drew ?_) | (with_reducible refine Below.setCell ?_ ?_ _) | (with_reducible refine Below.alloc ?_ ?_ _) | (with_reducible refine Below.later ?_ ?_ _) | (first | (with_reducible exact Nat.le_refl _) | omega | (simp only [World.size_alloc, World.size_setCell, World.size_drew] <;> omega))))
  rw [World.size_alloc] at X2
  replace X1 := X1.alloc (.cells #[.pointer (some ⟨w.heap.size, 0, none⟩), .int .i64 0] 183)
  have hN : ∀ (w' : World), BoxAt w' w.heap.size #[.slice none 0 0, .slice none 0 0] → NodeAt w' w.heap.size (fun _ => False) w.heap.size ⟨.slice none 0 0, [], .slice none 0 0, []⟩ := fun w' h => ⟨h, Nat.le_refl _, OwnL.nil_, OwnL.nil_, fun e => (by cases e), fun e => (by cases e), fun g e => (by cases e)⟩
  have hM : ∀ (w' : World), BoxAt w' w.heap.size #[.slice none 0 0, .slice none 0 0] → TMem w' w.heap.size (fun _ => False) (upd (fun _ => none) w.heap.size ⟨.slice none 0 0, [], .slice none 0 0, []⟩) := fun w' h => by
    refine ⟨fun p nd hp => ?_, fun p q nd nd' hp hq hne => ?_, fun _ _ _ _ _ h => h, fun b h => h.elim⟩
    · by_cases e : p = w.heap.size
      · subst e; rw [upd_same] at hp; cases hp; exact hN w' h
      · rw [upd_ne _ _ e] at hp; cases hp
    · by_cases e : p = w.heap.size
      · by_cases e2 : q = w.heap.size
        · exact absurd (e.trans e2.symm) hne
        · rw [upd_ne _ _ e2] at hq; cases hq
      · rw [upd_ne _ _ e] at hp; cases hp
  have hfin : TreeM _ w.heap.size (fun _ => False) (w.heap.size + 1) [] _ := ⟨_, 0, w.heap.size, [w.heap.size], ⟨X2, hM _ X1, ⟨_, upd_same _ _ _, rfl, Nat.zero_le _, rfl, rfl⟩, by simp, List.Pairwise.nil, fun h => (by
    rcases h.upd with ⟨p, nd, h1, _⟩ | h
    · cases h1
    · rcases h with h | h | h
      · omega
      · cases h
      · cases h), fun h => h, Nat.le_succ _⟩, rfl⟩
  have HF := Lib.hid hfin
  have HB := Lib.hid hb
  clear hfin hb hM hN X1 X2
  go_enter Try.func71, Try.ntmps71
  go_wp2_with fail
  go_ret
  exact ⟨_, _, rfl, HF.out, HB.out⟩
section
variable {w : World} {base t : Nat} {S F : Nat → Prop} {f : List Ent}
theorem tlen_any (h : Hid (TreeM w base S t f F)) : Calls Try.prog 117 #[.pointer (some ⟨t, 0, none⟩)] w fun e w' => e = .returned (.int .i64 (f.length : Int)) ∧ w' = w := by
  obtain ⟨N, D, root, ns, I, rfl⟩ := h.out
  have hn := tnone_is w I.box
  have p1 := I.box.cell 1
  clear I h
  go_enter Try.func117, Try.ntmps117
  go_wp2_with fail
  refine hn.mono ?_
  rintro e w1 ⟨rfl, rfl⟩
  go_wp2_with fail
  go_ret
  exact ⟨rfl, rfl⟩
set_option maxRecDepth 100000 in
theorem tget_any (h : Hid (TreeM w base S t f F)) (k : ByteArray) : Calls Try.prog 122 #[.pointer (some ⟨t, 0, none⟩), .string k] w fun e w' =>
    ∃ A n c, e = .returned (.tuple #[.slice A n c, .bool (getE f k).isSome]) ∧ n ≤ c ∧ RdL VerR 5 S w' A n ((getE f k).getD []) ∧ Below w.heap.size w w' := by
  obtain ⟨N, D, root, ns, I, rfl⟩ := h.out
  have hn := tnone_is w I.box
  have hseek := seek_any k I.box (Lib.hid I.mem) (Lib.hid I.tree) (Lib.hid I.nod) (Lib.hid I.rises)
  have HI := Lib.hid I
  clear I h
  go_enter Try.func122, Try.ntmps122
  go_wp2_with fail
  refine hn.mono ?_
  rintro e w0 ⟨rfl, rfl⟩
  go_wp2_with fail
  refine hseek.mono ?_
  rintro e w1 ⟨hP, b1⟩
  have HB := Lib.hid b1
  rcases hP with ⟨rfl, hno⟩ | ⟨g, i, y, rfl, ⟨⟨d, p, nd, pre, post, fp, ns0, nsp, hp, hy, hyk, hg, hHo, hT, hf, hpre, hpm⟩⟩⟩
  · have hget : getE f k = none := getE_none hno
    have HG := Lib.hid hget
    clear hno hget b1 hseek hn
    go_wp2_with fail
    refine bodyPost_ret (v := .tuple #[.slice none 0 0, .bool false]) (by simp [results, Try.results122, go_sem, *]) rfl ?_
    rw [HG.out]
    exact ⟨none, 0, 0, by simp, Nat.le_refl _, RdL.nil, HB.out⟩
  · have hN := (HI.out.mem.below b1).at_ p nd hp
    obtain ⟨EA, EC, hlv, hEC, ER, hEg⟩ := hN.ents
    have hil : i < nd.l.length := (List.getElem?_eq_some_iff.1 hy).1
    obtain ⟨gl, rfl⟩ := hEg (by omega)
    have e3 : gl = g := by rw [hlv] at hg; exact Option.some.inj hg
    subst e3
    obtain ⟨VA, vm, vc, hgl, ⟨A', n', c', he, hnc, hV⟩, _, cm1⟩ := entS_at ER hy
    injection he with e1 e2
    injection e2 with e2 _
    injection e2 with e21 e22 e23
    subst e21; subst e22; subst e23
    obtain ⟨a, b, hfp, haK, _⟩ := hT.set hp hy ((List.nodup_append.1 (hpm.nodup_iff.2 HI.out.nod)).2.1) ((hf ▸ HI.out.rises : Rises (pre ++ fp ++ post)).sub ((List.sublist_append_right pre fp).trans (List.sublist_append_left _ post)))
    have hget : getE f k = some y.vers := by
      rw [hf, hfp, List.append_assoc, List.append_assoc, List.cons_append, ← List.append_assoc]
      exact getE_some (fun x hx => (List.mem_append.1 hx).elim (hpre x) (fun h => by rw [← hyk]; exact haK x h)) hyk
    have HG := Lib.hid hget
    have HV := Lib.hid hV
    clear hget b1 hseek hn hN ER hEg hV hfp haK hHo hT hf hpre hpm
    go_wp2_with fail
    refine bodyPost_ret (v := .tuple #[.slice VA vm vc, .bool true]) (by simp [results, Try.results122, go_sem, *]) rfl ?_
    rw [HG.out]
    exact ⟨_, _, _, by simp, hnc, HV.out, HB.out⟩
end
end Go.Proofs.Ytpibaahiboajhaa
