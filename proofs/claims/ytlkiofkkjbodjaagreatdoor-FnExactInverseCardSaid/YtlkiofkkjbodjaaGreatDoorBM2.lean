/- Contracts: the law's own helpers on lists of dyadic numbers: sizes, equality. -/
import Derived.Test.YtlkiofkkjbodjaaGreatDoorBL3
import Derived.Test.YtlkiofkkjbodjaaGreatDoorBL2
import Derived.Test.YtlkiofkkjbodjaaGreatDoorBEvD
set_option maxHeartbeats 1000000
set_option maxRecDepth 100000
namespace Go.Proofs
open Go Go.Pe Go.Dg
namespace Tryz

theorem gX5 {P : Program} {gl : List (Nat × Obj)} (C : Tryz.Cx P gl) {f : FuncId} {fn : Func} {c : Code} {own : List Blk} {args : List FV} {R : List Blk → FV → Prop} (hf : Tryz.prog.funcs[f]? = some fn) (hb : fn.body = some c) (hm : (fn.name == "runtime.NumGoroutine") = false) (hn : Nat.ble args.length fn.ntmps = true)
 (hv : ∀ A, A = AR.std → aA = A.ints → iU P Tryz.T A gl .any c (aT1 Tryz.T A fn.results.toList own.length R) ⟨cS 0 args, own, fn.ntmps, own.length⟩) : FX P gl f own args R := by
 obtain ⟨rfl, hG⟩ := C
 exact aNL (own := fun _ => own) (args := fun _ => args) (R := fun _ => R) Tryz.hT Tryz.mix hf hb hm (Nat.le_of_ble_eq_true hn) fun A hA => hv A hA (by subst hA; rfl)

set_option linter.unusedSimpArgs false
set_option linter.unusedVariables false
variable {P : Program} {gl : List (Nat × Obj)}

theorem tJ (C : Cx P gl) {k : Int} : FS P gl 88 [.lst [], I k] (· = I k) := by
 refine gS C func88 rfl rfl rfl fun A hA hI => ?_
 iterate 2 all_goals try cbv; with_reducible repeat' first | exact ⟨⟩ | apply And.intro | intro _
 all_goals try exact oH
 refine aZ hA [] (ι := Int) (fun x => [(1, .pv (I k)), (5, .pv (I x))]) (fun x => []) (fun x => 0) (fun x => x = 0) 0 (by rfl) ?_ ?_ ?_
 all_goals try exact tH
 rintro i rfl
 iterate 2 all_goals try cbv; with_reducible repeat' first | exact ⟨⟩ | apply And.intro | intro _
 all_goals try exact oH
 iterate 2 all_goals try cbv; with_reducible repeat' first | exact ⟨⟩ | apply And.intro | intro _
 all_goals try exact oH

theorem aF0 (C : Cx P gl) {k : Int} : FS P gl 178 [.agg [.lst []], I k] (· = I k) := by
 refine gS C func178 rfl rfl rfl fun A hA hI => ?_
 iterate 2 all_goals try cbv; with_reducible repeat' first | exact ⟨⟩ | apply And.intro | intro _
 all_goals try exact oH
 refine aD hA rfl (tJ C) ?_; rintro _ rfl
 iterate 2 all_goals try cbv; with_reducible repeat' first | exact ⟨⟩ | apply And.intro | intro _
 all_goals try exact oH

theorem aA0 (C : Cx P gl) {k : Int} {s : Bool} : FS P gl 101 [.agg [B s, .lst []], I k] (· = I k) := by
 refine gS C func101 rfl rfl rfl fun A hA hI => ?_
 iterate 2 all_goals try cbv; with_reducible repeat' first | exact ⟨⟩ | apply And.intro | intro _
 all_goals try exact oH
 refine aD hA rfl (aF0 C) ?_; rintro _ rfl
 iterate 2 all_goals try cbv; with_reducible repeat' first | exact ⟨⟩ | apply And.intro | intro _
 all_goals try exact oH

theorem zJ (C : Cx P gl) {k : Int} {s : Bool} {e : Int} : FS P gl 36 [.agg [B s, .lst [], I e], I k] (· = I k) := by
 refine gS C func36 rfl rfl rfl fun A hA hI => ?_
 iterate 2 all_goals try cbv; with_reducible repeat' first | exact ⟨⟩ | apply And.intro | intro _
 all_goals try exact oH
 refine aD hA rfl (aA0 C) ?_; rintro _ rfl
 iterate 2 all_goals try cbv; with_reducible repeat' first | exact ⟨⟩ | apply And.intro | intro _
 all_goals try exact oH

end Tryz
end Go.Proofs

set_option maxHeartbeats 1000000
set_option maxRecDepth 100000
namespace Go.Proofs
open Go Go.Pe Go.Dg
namespace Tryz
set_option linter.unusedSimpArgs false
set_option linter.unusedVariables false
variable {P : Program} {gl : List (Nat × Obj)}

theorem aP9 (C : Cx P gl) {ys : List aC} {p : List PV} (hp : p = aB ys) (hl : ys.length ≤ 2000000) (hy : ∀ y ∈ ys, y.2.1.length ≤ 2000000) :
  FX P gl 24 [] [.pv (.lst p)] (fun own r => own = [.tree 64 3 3 p] ∧ r = .own 0) := by
 refine gX5 C func24 rfl rfl rfl fun A hA hI => ?_
 iterate 2 all_goals try cbv; with_reducible repeat' first | exact ⟨⟩ | apply And.intro | intro _
 all_goals try exact oG
 have e0 : A.rep (A.cast (A.len p)) (.agg [B false, .lst [], I 0]) = aB (List.replicate ys.length noY) := by
  subst hA; subst hp
  show List.replicate ((aB ys).length : Int).toNat (aW noY) = _
  rw [aKC, Int.toNat_natCast, aPQ]
 simp only [e0]
 refine aO9 hA [.tree 0 3] (ι := Int × List PV) (fun x => [(3, .own 0), (4, .pv (I x.1))]) (fun x => [(0, .tree 64 3 3 x.2)]) (fun x => (ys.length - x.1).toNat) (fun x => aS0 ys x.1 x.2) (0, aB (List.replicate ys.length noY)) (by rfl) ?_ ?_ ?_ ?_
 all_goals try exact tG
 ·refine ⟨⟨Nat.zero_le _, ?_⟩, True.intro⟩
  intro x hx
  obtain ⟨y, hy, rfl⟩ := List.mem_map.1 hx
  rw [(List.mem_replicate.1 hy).2]; rfl
 ·exact ⟨Int.le_refl _, by omega, by simp⟩
 rintro ⟨i, q⟩ hinv
 simp only at hinv
 have aJ := fun hi => aL6 hinv hi
 have aN := fun hi => aL7 hinv hi
 obtain ⟨hi0, hi1, hq⟩ := id hinv
 clear hinv
 iterate 2 all_goals try cbv; with_reducible repeat' first | exact ⟨⟩ | apply And.intro | intro _
 all_goals try exact oG
 ·rename_i g
  have gi : i < ys.length := by clear aJ aN; exact eG
  have hyl := hy _ (mL (show i.toNat < ys.length by omega))
  have hgl : A.gl (A.el p (A.nat i)) 1 = aA (ys.getD i.toNat noY).2.1 := by clear aJ aN; (subst hA; subst_vars; simp only [AR.std, bBG, sG, reduceCtorEq] at *; try simp (disch := omega) only [AR.std, bBG, sG, reduceCtorEq] at *)
  have hgb : A.gb (A.el p (A.nat i)) 0 = (ys.getD i.toNat noY).1 := by clear aJ aN hgl; (subst hA; subst_vars; simp only [AR.std, bBG, sG, reduceCtorEq] at *; try simp (disch := omega) only [AR.std, bBG, sG, reduceCtorEq] at *)
  have hge : A.gi (A.el p (A.nat i)) 2 = (ys.getD i.toNat noY).2.2 := by clear aJ aN hgl hgb; (subst hA; subst_vars; simp only [AR.std, bBG, sG, reduceCtorEq] at *; try simp (disch := omega) only [AR.std, bBG, sG, reduceCtorEq] at *)
  refine dE hA rfl (aS5 C hgl hyl) ?_; rintro _ _ ⟨rfl, rfl⟩; refine ⟨rfl, ?_⟩
  iterate 2 all_goals try cbv; with_reducible repeat' first | exact ⟨⟩ | apply And.intro | intro _
  all_goals try exact oG
  ·exact aJ4 hA (by simp only [hgl]; exact vA)
  ·clear hgl hgb hge
   obtain ⟨y1, hy1⟩ : ∃ y, y = i + 1 := ⟨_, rfl⟩
   obtain ⟨y2, hy2⟩ : ∃ y, y = q.set i.toNat (aW (ys.getD i.toNat noY)) := ⟨_, rfl⟩
   refine ⟨⟨(y1, y2), ?_⟩, ?_, ?_⟩
   rotate_left
   ·cbv
    exact nG
   ·exact eG
   ·rw [hy1, hy2]; exact aJ gi
 ·have e : q = p := by rw [aN (by clear aJ aN; exact eG), hp]
  simp only [e]
  subst hA
  exact ⟨[0], _, _, by decide, Nat.zero_le _, rfl, rfl, rfl, rfl, rfl, rfl⟩

theorem aQA (C : Cx P gl) {ys : List aC} {p : List PV} (hp : p = aB ys) (hl : ys.length ≤ 2000000) (hy : ∀ y ∈ ys, y.2.1.length ≤ 2000000) :
  FN P gl 24 [.lst p] (fun own r => own = [.tree 64 3 3 p] ∧ r = .own 0) :=
 kO (aP9 C hp hl hy) (by rintro _ _ ⟨rfl, rfl⟩; exact ⟨by simp [fU], rfl⟩)

theorem aQB (C : Cx P gl) {ys : List aC} {p : List PV} {n : Int} (hp : p = aB ys) (hl : ys.length ≤ 2000000) (hy : ∀ y ∈ ys, y.2.1.length ≤ 2000000) :
  FX P gl 23 [] [.pv (.agg [I n, .lst p])] (fun own r => own = [.tree 64 3 3 p] ∧ r = .agg [.pv (I n), .own 0]) := by
 refine gX5 C func23 rfl rfl rfl fun A hA hI => ?_
 iterate 2 all_goals try cbv; with_reducible repeat' first | exact ⟨⟩ | apply And.intro | intro _
 all_goals try exact oG
 refine dE hA rfl (aQA C hp hl hy) ?_; rintro _ _ ⟨rfl, rfl⟩; refine ⟨rfl, ?_⟩
 iterate 2 all_goals try cbv; with_reducible repeat' first | exact ⟨⟩ | apply And.intro | intro _
 all_goals try exact oG
 subst hA
 exact ⟨[3], _, _, by decide, Nat.zero_le _, rfl, rfl, rfl, rfl, rfl, rfl⟩

theorem fS (C : Cx P gl) {ys : List aC} {p : List PV} {n : Int} (hp : p = aB ys) (hl : ys.length ≤ 2000000) (hy : ∀ y ∈ ys, y.2.1.length ≤ 2000000) :
  FN P gl 23 [.agg [I n, .lst p]] (fun own r => own = [.tree 64 3 3 p] ∧ r = .agg [.pv (I n), .own 0]) :=
 kO (aQB C hp hl hy) (by rintro _ _ ⟨rfl, rfl⟩; exact ⟨by simp [fU], rfl⟩)

theorem zK (C : Cx P gl) {ys : List aC} {p : List PV} {n : Int} (hp : p = aB ys) (hl : ys.length ≤ 2000000) (hy : ∀ y ∈ ys, y.2.1.length ≤ 2000000) :
  FS P gl 23 [.agg [I n, .lst p]] (· = .agg [I n, .lst p]) := wX (fS C hp hl hy) (by rintro _ _ ⟨rfl, rfl⟩; rfl)

end Tryz
end Go.Proofs

set_option maxHeartbeats 1000000
set_option maxRecDepth 100000
namespace Go.Proofs
open Go Go.Pe Go.Dg
namespace Tryz
set_option linter.unusedSimpArgs false
set_option linter.unusedVariables false
variable {P : Program} {gl : List (Nat × Obj)}

theorem aMM {ys : List aC} {k i r r2 : Int} (h : aPT ys k i r) (hi : i < ys.length) (h2 : r2 = if ((ys.getD i.toNat noY).2.1.length : Int) ≤ r then r - (ys.getD i.toNat noY).2.1.length else -1) (h3 : 0 ≤ r2) : aPT ys k (i + 1) r2 := by
 obtain ⟨a, b, c, d⟩ := h
 have := lX (show i.toNat < ys.length by omega)
 refine ⟨by omega, by omega, ?_, h3⟩
 rw [show (i + 1).toNat = i.toNat + 1 by omega, this, h2]
 split <;> omega

theorem aMN {ys : List aC} {k i r r2 : Int} (h : aPT ys k i r) (hi : i < ys.length) (h2 : r2 = if ((ys.getD i.toNat noY).2.1.length : Int) ≤ r then r - (ys.getD i.toNat noY).2.1.length else -1) (h3 : r2 < 0) : k < ys.length + tot ys := by
 obtain ⟨a, b, c, d⟩ := h
 have := wY (show i.toNat < ys.length by omega)
 have h4 : r < (ys.getD i.toNat noY).2.1.length := by
  rw [h2] at h3
  split at h3 <;> omega
 omega

theorem aMO {ys : List aC} {k i r : Int} (h : aPT ys k i r) (hi : ys.length ≤ i) : r = k - ys.length - tot ys ∧ 0 ≤ r := by
 obtain ⟨a, b, c, d⟩ := h
 rw [List.take_of_length_le (by omega)] at c
 exact ⟨c, d⟩

theorem aQN (C : Cx P gl) {ys : List aC} {p : List PV} {k r : Int} (hp : p = aB ys) (hl : ys.length ≤ 9223372036854775807) (hy : ∀ y ∈ ys, y.2.1.length ≤ 9223372036854775807) (hk0 : 0 ≤ k) (hk : k ≤ 1048576)
  (hr : r = if (ys.length : Int) + tot ys ≤ k then k - ys.length - tot ys else -1) : FS P gl 21 [.lst p, I k] (· = I r) := by
 have hr1 : k < ys.length + tot ys → r = -1 := fun h => by rw [hr, if_neg (by omega)]
 have hr2 : (ys.length : Int) + tot ys ≤ k → r = k - ys.length - tot ys := fun h => by rw [hr, if_pos h]
 clear hr
 refine gS C func21 rfl rfl rfl fun A hA hI => ?_
 iterate 2 all_goals try cbv; with_reducible repeat' first | exact ⟨⟩ | apply And.intro | intro _
 all_goals try exact oG
 ·rename_i g
  have g : r = -1 := hr1 (by clear hr1 hr2; exact eG)
  rw [g]
 ·rename_i g
  have g0 : (ys.length : Int) ≤ k := by clear hr1 hr2; exact eG
  obtain ⟨k1, hk1⟩ : ∃ k1, k1 = k - (ys.length : Int) := ⟨_, rfl⟩
  have e0 : A.sub .i64 k (A.cast (A.len p)) = k1 := by clear hr1 hr2; (subst hA; subst_vars; simp only [AR.std, bBG, sG, reduceCtorEq] at *; try simp (disch := omega) only [AR.std, bBG, sG, reduceCtorEq] at *)
  clear g
  simp only [e0]
  refine aZ hA [] (ι := Int × Int) (fun x => [(1, .pv (I x.2)), (5, .pv (I x.1))]) (fun x => []) (fun x => (ys.length - x.1).toNat) (fun x => aPT ys k x.1 x.2) (0, k1) (by rfl) ?_ ?_ ?_
  all_goals try exact tG
  ·exact ⟨Int.le_refl _, by omega, by simp [tot]; omega, by simp only; omega⟩
  rintro ⟨i, q⟩ hinv
  simp only at hinv
  have aJ := fun r2 hi => @aMM ys k i q r2 hinv hi
  have iD := fun r2 hi => @aMN ys k i q r2 hinv hi
  have aN := fun hi => aMO hinv hi
  obtain ⟨hi0, hi1, hq, hq0⟩ := id hinv
  clear hinv
  have hqk : q ≤ k := by omega
  clear hq
  iterate 2 all_goals try cbv; with_reducible repeat' first | exact ⟨⟩ | apply And.intro | intro _
  all_goals try exact oG
  ·rename_i g
   have gi : i < ys.length := by clear aJ iD aN hr1 hr2; exact eG
   have hyl := hy _ (mL (show i.toNat < ys.length by omega))
   have hgl : A.gl (A.el p (A.nat i)) 1 = aA (ys.getD i.toNat noY).2.1 := by clear aJ iD aN hr1 hr2; (subst hA; subst_vars; simp only [AR.std, bBG, sG, reduceCtorEq] at *; try simp (disch := omega) only [AR.std, bBG, sG, reduceCtorEq] at *)
   obtain ⟨r2, hr2'⟩ : ∃ r2 : Int, r2 = if ((ys.getD i.toNat noY).2.1.length : Int) ≤ q then q - (ys.getD i.toNat noY).2.1.length else -1 := ⟨_, rfl⟩
   refine aD hA rfl (aS6 C hgl hyl hq0 (by omega) hr2') ?_; rintro _ rfl
   have hn2 := aJ r2 gi hr2'
   have hf2 := iD r2 gi hr2'
   clear hr2' hgl
   iterate 2 all_goals try cbv; with_reducible repeat' first | exact ⟨⟩ | apply And.intro | intro _
   all_goals try exact oG
   ·rename_i g2
    have g3 : r2 < 0 := by clear aJ iD aN hr1 hr2 hn2 hf2; exact eG
    have e : r = -1 := hr1 (hf2 g3)
    rw [e]
   ·rename_i g2
    have g3 : 0 ≤ r2 := by clear aJ iD aN hr1 hr2 hn2 hf2; exact eG
    have hn3 := hn2 g3
    clear aJ iD aN hr1 hr2 hn2 hf2
    obtain ⟨y1, hy1⟩ : ∃ y, y = i + 1 := ⟨_, rfl⟩
    obtain ⟨y2, hy2⟩ : ∃ y, y = r2 := ⟨_, rfl⟩
    refine ⟨⟨(y1, y2), ?_⟩, ?_, ?_⟩
    rotate_left
    ·cbv
     exact nG
    ·exact eG
    ·rw [hy1, hy2]; exact hn3
  ·rename_i g
   have gi : ys.length ≤ i := by clear aJ iD aN hr1 hr2; exact eG
   obtain ⟨e1, e2⟩ := aN gi
   have e : q = r := by rw [hr2 (by omega)]; exact e1
   rw [e]

theorem tM (C : Cx P gl) {ys : List aC} {p : List PV} {k r n : Int} (hp : p = aB ys) (hl : ys.length ≤ 9223372036854775807) (hy : ∀ y ∈ ys, y.2.1.length ≤ 9223372036854775807) (hk0 : 0 ≤ k) (hk : k ≤ 1048576)
  (hr : r = if (ys.length : Int) + tot ys ≤ k then k - ys.length - tot ys else -1) : FS P gl 20 [.agg [I n, .lst p], I k] (· = I r) := by
 have hr2 : -1 ≤ r := by rw [hr]; split <;> omega
 refine gS C func20 rfl rfl rfl fun A hA hI => ?_
 iterate 2 all_goals try cbv; with_reducible repeat' first | exact ⟨⟩ | apply And.intro | intro _
 all_goals try exact oG
 refine aD hA rfl (aQN C hp hl hy hk0 hk hr) ?_; rintro _ rfl
 clear hr
 iterate 2 all_goals try cbv; with_reducible repeat' first | exact ⟨⟩ | apply And.intro | intro _
 all_goals try exact oG
 rename_i g
 have g : r = -1 := by exact eG
 rw [g]

theorem aQO (C : Cx P gl) {ys : List aC} {p : List PV} (hp : p = aB ys) (hl : ys.length ≤ 2000000) (hy : ∀ y ∈ ys, y.2.1.length ≤ 2000000) : FS P gl 28 [.lst p, .lst p] (· = B true) := by
 refine gS C func28 rfl rfl rfl fun A hA hI => ?_
 iterate 2 all_goals try cbv; with_reducible repeat' first | exact ⟨⟩ | apply And.intro | intro _
 all_goals try exact oG
 refine aZ hA [] (ι := Int) (fun x => [(5, .pv (I x))]) (fun x => []) (fun x => (ys.length - x).toNat) (fun x => 0 ≤ x ∧ x ≤ ys.length) 0 (by rfl) ?_ ?_ ?_
 all_goals try exact tG
 ·omega
 rintro i ⟨hi0, hi1⟩
 iterate 2 all_goals try cbv; with_reducible repeat' first | exact ⟨⟩ | apply And.intro | intro _
 all_goals try exact oG
 ·rename_i g
  have gi : i < ys.length := by exact eG
  have hyl := hy _ (mL (show i.toNat < ys.length by omega))
  have hgl : A.gl (A.el p (A.nat i)) 1 = aA (ys.getD i.toNat noY).2.1 := by (subst hA; subst_vars; simp only [AR.std, bBG, sG, reduceCtorEq] at *; try simp (disch := omega) only [AR.std, bBG, sG, reduceCtorEq] at *)
  refine aD hA rfl (iX C hgl hyl) ?_; rintro _ rfl
  clear hgl
  iterate 2 all_goals try cbv; with_reducible repeat' first | exact ⟨⟩ | apply And.intro | intro _
  all_goals try exact oG
  obtain ⟨y1, hy1⟩ : ∃ y, y = i + 1 := ⟨_, rfl⟩
  refine ⟨⟨y1, ?_⟩, ?_, ?_⟩
  rotate_left
  ·cbv
   exact nG
  ·exact eG
  ·rw [hy1]; exact eG

theorem eK (C : Cx P gl) {ys : List aC} {p : List PV} {n : Int} (hp : p = aB ys) (hl : ys.length ≤ 2000000) (hy : ∀ y ∈ ys, y.2.1.length ≤ 2000000) : FS P gl 27 [.agg [I n, .lst p], .agg [I n, .lst p]] (· = B true) := by
 refine gS C func27 rfl rfl rfl fun A hA hI => ?_
 iterate 2 all_goals try cbv; with_reducible repeat' first | exact ⟨⟩ | apply And.intro | intro _
 all_goals try exact oG
 refine aD hA rfl (aQO C hp hl hy) ?_; rintro _ rfl
 iterate 2 all_goals try cbv; with_reducible repeat' first | exact ⟨⟩ | apply And.intro | intro _
 all_goals try exact oG

end Tryz
end Go.Proofs

