/- Contracts: the law's own helpers on lists of dyadic numbers: copies as trees of one's own. -/
import Derived.Test.YtlkiofkkjbodjaaGreatDoorDL2
import Derived.Test.YtlkiofkkjbodjaaGreatDoorDEvD
set_option maxHeartbeats 1000000
set_option maxRecDepth 100000
namespace Go.Proofs
open Go Go.Pe Go.Dg
namespace Tryz
set_option linter.unusedSimpArgs false
set_option linter.unusedVariables false
variable {P : Program} {gl : List (Nat × Obj)}

def mkI (l : List Int) (k : Int) (i q : Int) (o : List Int) : Prop := 0 ≤ i ∧ i ≤ l.length ∧ q = k + i ∧ o.length = l.length ∧ ∀ j : Nat, j < i.toNat → o.getD j 0 = k + j

theorem mkI_zero (l : List Int) (k : Int) : mkI l k 0 k l := ⟨Int.le_refl _, by omega, by omega, rfl, fun j hj => by simp at hj⟩

theorem mkI_next {l : List Int} {k i q : Int} {o : List Int} (h : mkI l k i q o) (hi : i < l.length) : mkI l k (i + 1) (q + 1) (o.set i.toNat q) := by
 obtain ⟨a, b, c, d, e⟩ := h
 refine ⟨by omega, by omega, by omega, by rw [List.length_set]; exact d, fun j hj => ?_⟩
 by_cases he : j = i.toNat
 ·subst he; rw [Go.Dg.getD_set_eq (by omega)]; omega
 ·rw [Go.Dg.getD_set_ne (by omega)]; exact e j (by omega)

theorem mkI_exit {l : List Int} {k i q : Int} {o : List Int} (h : mkI l k i q o) (hi : l.length ≤ i) : o = up1 k l.length ∧ q = k + l.length := by
 obtain ⟨a, b, c, d, e⟩ := h
 refine ⟨?_, by omega⟩
 apply ext_getD (by rw [up1_len]; exact d)
 intro j hj
 rw [up1_get k _ j (by omega)]
 exact e j (by omega)

theorem markIntS_fx (C : Cx P gl) {l : List Int} {p r : List PV} {k z : Int} (hp : p = intsL l) (hr : r = intsL (up1 k l.length)) (hz : z = k + l.length) (hl : l.length ≤ 2000000) (hk0 : 0 ≤ k) (hk : k ≤ 1000000000) :
  FX P gl 88 [.row 3 1 p] [.own 0, .pv (I k)] (fun own rr => own = [.row 3 1 r] ∧ rr = .pv (I z)) := by
 refine gX C func88 rfl rfl rfl fun A hA hI => ?_
 iterate 2 all_goals try cbv; with_reducible repeat' first | exact ⟨⟩ | apply And.intro | intro _
 all_goals try exact oH
 refine loopI hA [] (ι := Int × Int × List Int) (fun x => [(0, .own 0), (1, .pv (I x.2.1)), (5, .pv (I x.1))]) (fun x => [(0, .row 3 1 (A.ints x.2.2))]) (fun x => (l.length - x.1).toNat) (fun x => mkI l k x.1 x.2.1 x.2.2) (0, k, l) (by rfl) ?_ ?_ ?_
 all_goals try exact tH
 ·exact mkI_zero l k
 rintro ⟨i, q, o⟩ hinv
 simp only at hinv
 have hnext := fun hi => mkI_next hinv hi
 have hexit := fun hi => mkI_exit hinv hi
 obtain ⟨hi0, hi1, hq, hol, _⟩ := id hinv
 clear hinv
 iterate 2 all_goals try cbv; with_reducible repeat' first | exact ⟨⟩ | apply And.intro | intro _
 all_goals try exact oH
 iterate 2 all_goals try cbv; with_reducible repeat' first | exact ⟨⟩ | apply And.intro | intro _
 all_goals try exact oH
 ·obtain ⟨y1, hy1⟩ : ∃ y, y = i + 1 := ⟨_, rfl⟩
  obtain ⟨y2, hy2⟩ : ∃ y, y = q + 1 := ⟨_, rfl⟩
  obtain ⟨y3, hy3⟩ : ∃ y, y = o.set i.toNat q := ⟨_, rfl⟩
  refine ⟨⟨(y1, y2, y3), ?_⟩, ?_, ?_⟩
  rotate_left
  ·cbv
   exact nH
  ·exact eH
  ·rw [hy1, hy2, hy3]; exact hnext (by clear hnext hexit; exact eH)
 ·have e := hexit (by clear hnext hexit; exact eH)
  have e1 : A.ints o = r := by rw [hr, ← e.1]; subst hA; rfl
  have e2 : q = z := by rw [hz]; exact e.2
  simp only [e1, e2]
  subst hA
  exact ⟨[0], _, _, by decide, Nat.le_refl _, rfl, rfl, rfl, rfl, rfl, rfl⟩

theorem heldIntS_fs (C : Cx P gl) {n : Nat} {p : List PV} {k z : Int} (hp : p = intsL (up1 k n)) (hz : z = k + n) (hn : n ≤ 2000000) (hk0 : 0 ≤ k) (hk : k ≤ 1000000000) : FS P gl 89 [.lst p, I k] (· = I z) := by
 obtain ⟨u, hu⟩ : ∃ u, u = up1 k n := ⟨_, rfl⟩
 have hg : ∀ j : Nat, j < n → u.getD j 0 = k + j := by rw [hu]; exact up1_get k n
 have hul : u.length = n := by rw [hu]; exact up1_len k n
 rw [← hu] at hp
 clear hu
 refine gS C func89 rfl rfl rfl fun A hA hI => ?_
 iterate 2 all_goals try cbv; with_reducible repeat' first | exact ⟨⟩ | apply And.intro | intro _
 all_goals try exact oH
 refine loopI hA [] (ι := Int × Int) (fun x => [(1, .pv (I x.2)), (5, .pv (I x.1))]) (fun x => []) (fun x => (n - x.1).toNat) (fun x => 0 ≤ x.1 ∧ x.1 ≤ n ∧ x.2 = k + x.1) (0, k) (by rfl) ?_ ?_ ?_
 all_goals try exact tH
 ·simp only; omega
 rintro ⟨i, q⟩ ⟨hi0, hi1, hq⟩
 simp only at hi0 hi1 hq
 have hgi : i < n → u.getD i.toNat 0 = q := fun h => by have h2 := hg i.toNat (by omega); simp only [natCast_eq] at h2 hi1; omega
 clear hg
 have hlt : A.lt i (A.cast (A.len p)) = true → A.ne (A.gi (A.el p (A.nat i)) 0) q = false := by
  intro h
  have h1 : A.gi (A.el p (A.nat i)) 0 = q := by
   have e : A.gi (A.el p (A.nat i)) 0 = u.getD i.toNat 0 := by clear hgi; (subst hA; subst_vars; simp only [AR.std, natCast_eq, sH, reduceCtorEq] at *; try simp (disch := omega) only [AR.std, natCast_eq, sH, reduceCtorEq] at *)
   rw [e, hgi (by clear hgi e; exact eH)]
  rw [h1]; subst hA; simp [AR.std]
 clear hgi
 iterate 2 all_goals try cbv; with_reducible repeat' first | exact ⟨⟩ | apply And.intro | intro _
 all_goals try exact oH
 iterate 2 all_goals try cbv; with_reducible repeat' first | exact ⟨⟩ | apply And.intro | intro _
 all_goals try exact oH
 ·clear hlt
  obtain ⟨y1, hy1⟩ : ∃ y, y = i + 1 := ⟨_, rfl⟩
  obtain ⟨y2, hy2⟩ : ∃ y, y = q + 1 := ⟨_, rfl⟩
  refine ⟨⟨(y1, y2), ?_⟩, ?_, ?_⟩
  rotate_left
  ·cbv
   exact nH
  ·exact eH
  ·rw [hy1, hy2]; simp only; exact eH
 ·have e : q = z := by clear hlt; exact eH
  simp only [e]

end Tryz
end Go.Proofs

set_option maxHeartbeats 1000000
set_option maxRecDepth 100000
namespace Go.Proofs
open Go Go.Pe Go.Dg
namespace Tryz
set_option linter.unusedSimpArgs false
set_option linter.unusedVariables false
variable {P : Program} {gl : List (Nat × Obj)}

theorem markIntS0_fs (C : Cx P gl) {k : Int} : FS P gl 88 [.lst [], I k] (· = I k) := by
 refine gS C func88 rfl rfl rfl fun A hA hI => ?_
 iterate 2 all_goals try cbv; with_reducible repeat' first | exact ⟨⟩ | apply And.intro | intro _
 all_goals try exact oH
 refine loopI hA [] (ι := Int) (fun x => [(1, .pv (I k)), (5, .pv (I x))]) (fun x => []) (fun x => 0) (fun x => x = 0) 0 (by rfl) ?_ ?_ ?_
 all_goals try exact tH
 rintro i rfl
 iterate 2 all_goals try cbv; with_reducible repeat' first | exact ⟨⟩ | apply And.intro | intro _
 all_goals try exact oH
 iterate 2 all_goals try cbv; with_reducible repeat' first | exact ⟨⟩ | apply And.intro | intro _
 all_goals try exact oH

end Tryz
end Go.Proofs

set_option maxHeartbeats 1000000
set_option maxRecDepth 100000
namespace Go.Proofs
open Go Go.Pe Go.Dg
namespace Tryz
set_option linter.unusedSimpArgs false
set_option linter.unusedVariables false
variable {P : Program} {gl : List (Nat × Obj)}

theorem toDyS_fx (C : Cx P gl) {ys : List Cell3} {p : List PV} (hp : p = cells3 ys) (hl : ys.length ≤ 2000000) (hy : ∀ y ∈ ys, y.2.1.length ≤ 2000000) :
  FX P gl 24 [] [.pv (.lst p)] (fun own r => own = [.tree 64 3 3 p] ∧ r = .own 0) := by
 refine gX C func24 rfl rfl rfl fun A hA hI => ?_
 iterate 2 all_goals try cbv; with_reducible repeat' first | exact ⟨⟩ | apply And.intro | intro _
 all_goals try exact oG
 have e0 : A.rep (A.cast (A.len p)) (.agg [B false, .lst [], I 0]) = cells3 (List.replicate ys.length noY) := by
  subst hA; subst hp
  show List.replicate ((cells3 ys).length : Int).toNat (cell3 noY) = _
  rw [c3len, Int.toNat_natCast, c3rep]
 simp only [e0]
 refine loopT hA [.tree 0 3] (ι := Int × List PV) (fun x => [(3, .own 0), (4, .pv (I x.1))]) (fun x => [(0, .tree 64 3 3 x.2)]) (fun x => (ys.length - x.1).toNat) (fun x => cpI3 ys x.1 x.2) (0, cells3 (List.replicate ys.length noY)) (by rfl) ?_ ?_ ?_ ?_
 all_goals try exact tG
 ·refine ⟨⟨Nat.zero_le _, ?_⟩, True.intro⟩
  intro x hx
  obtain ⟨y, hy, rfl⟩ := List.mem_map.1 hx
  rw [(List.mem_replicate.1 hy).2]; rfl
 ·exact ⟨Int.le_refl _, by omega, by simp⟩
 rintro ⟨i, q⟩ hinv
 simp only at hinv
 have hnext := fun hi => cpI3_next hinv hi
 have hexit := fun hi => cpI3_exit hinv hi
 obtain ⟨hi0, hi1, hq⟩ := id hinv
 clear hinv
 iterate 2 all_goals try cbv; with_reducible repeat' first | exact ⟨⟩ | apply And.intro | intro _
 all_goals try exact oG
 ·rename_i g
  have gi : i < ys.length := by clear hnext hexit; exact eG
  have hyl := hy _ (getY_mem (show i.toNat < ys.length by omega))
  have hgl : A.gl (A.el p (A.nat i)) 1 = intsL (ys.getD i.toNat noY).2.1 := by clear hnext hexit; (subst hA; subst_vars; simp only [AR.std, natCast_eq, sG, reduceCtorEq] at *; try simp (disch := omega) only [AR.std, natCast_eq, sG, reduceCtorEq] at *)
  have hgb : A.gb (A.el p (A.nat i)) 0 = (ys.getD i.toNat noY).1 := by clear hnext hexit hgl; (subst hA; subst_vars; simp only [AR.std, natCast_eq, sG, reduceCtorEq] at *; try simp (disch := omega) only [AR.std, natCast_eq, sG, reduceCtorEq] at *)
  have hge : A.gi (A.el p (A.nat i)) 2 = (ys.getD i.toNat noY).2.2 := by clear hnext hexit hgl hgb; (subst hA; subst_vars; simp only [AR.std, natCast_eq, sG, reduceCtorEq] at *; try simp (disch := omega) only [AR.std, natCast_eq, sG, reduceCtorEq] at *)
  refine callN hA rfl (toDy_fn C hgl hyl) ?_; rintro _ _ ⟨rfl, rfl⟩; refine ⟨rfl, ?_⟩
  iterate 2 all_goals try cbv; with_reducible repeat' first | exact ⟨⟩ | apply And.intro | intro _
  all_goals try exact oG
  ·exact vals_of hA (by simp only [hgl]; exact vals_ints)
  ·clear hgl hgb hge
   obtain ⟨y1, hy1⟩ : ∃ y, y = i + 1 := ⟨_, rfl⟩
   obtain ⟨y2, hy2⟩ : ∃ y, y = q.set i.toNat (cell3 (ys.getD i.toNat noY)) := ⟨_, rfl⟩
   refine ⟨⟨(y1, y2), ?_⟩, ?_, ?_⟩
   rotate_left
   ·cbv
    exact nG
   ·exact eG
   ·rw [hy1, hy2]; exact hnext gi
 ·have e : q = p := by rw [hexit (by clear hnext hexit; exact eG), hp]
  simp only [e]
  subst hA
  exact ⟨[0], _, _, by decide, Nat.zero_le _, rfl, rfl, rfl, rfl, rfl, rfl⟩

theorem toDyS_fn (C : Cx P gl) {ys : List Cell3} {p : List PV} (hp : p = cells3 ys) (hl : ys.length ≤ 2000000) (hy : ∀ y ∈ ys, y.2.1.length ≤ 2000000) :
  FN P gl 24 [.lst p] (fun own r => own = [.tree 64 3 3 p] ∧ r = .own 0) :=
 FN_of (toDyS_fx C hp hl hy) (by rintro _ _ ⟨rfl, rfl⟩; exact ⟨by simp [closedB], rfl⟩)

theorem toMat_fx (C : Cx P gl) {ys : List Cell3} {p : List PV} {n : Int} (hp : p = cells3 ys) (hl : ys.length ≤ 2000000) (hy : ∀ y ∈ ys, y.2.1.length ≤ 2000000) :
  FX P gl 23 [] [.pv (.agg [I n, .lst p])] (fun own r => own = [.tree 64 3 3 p] ∧ r = .agg [.pv (I n), .own 0]) := by
 refine gX C func23 rfl rfl rfl fun A hA hI => ?_
 iterate 2 all_goals try cbv; with_reducible repeat' first | exact ⟨⟩ | apply And.intro | intro _
 all_goals try exact oG
 refine callN hA rfl (toDyS_fn C hp hl hy) ?_; rintro _ _ ⟨rfl, rfl⟩; refine ⟨rfl, ?_⟩
 iterate 2 all_goals try cbv; with_reducible repeat' first | exact ⟨⟩ | apply And.intro | intro _
 all_goals try exact oG
 subst hA
 exact ⟨[3], _, _, by decide, Nat.zero_le _, rfl, rfl, rfl, rfl, rfl, rfl⟩

theorem toMat_fn (C : Cx P gl) {ys : List Cell3} {p : List PV} {n : Int} (hp : p = cells3 ys) (hl : ys.length ≤ 2000000) (hy : ∀ y ∈ ys, y.2.1.length ≤ 2000000) :
  FN P gl 23 [.agg [I n, .lst p]] (fun own r => own = [.tree 64 3 3 p] ∧ r = .agg [.pv (I n), .own 0]) :=
 FN_of (toMat_fx C hp hl hy) (by rintro _ _ ⟨rfl, rfl⟩; exact ⟨by simp [closedB], rfl⟩)

theorem toDyS_fs (C : Cx P gl) {ys : List Cell3} {p : List PV} (hp : p = cells3 ys) (hl : ys.length ≤ 2000000) (hy : ∀ y ∈ ys, y.2.1.length ≤ 2000000) :
  FS P gl 24 [.lst p] (· = .lst p) := FS_ofFN (toDyS_fn C hp hl hy) (by rintro _ _ ⟨rfl, rfl⟩; rfl)

theorem toMat_fs (C : Cx P gl) {ys : List Cell3} {p : List PV} {n : Int} (hp : p = cells3 ys) (hl : ys.length ≤ 2000000) (hy : ∀ y ∈ ys, y.2.1.length ≤ 2000000) :
  FS P gl 23 [.agg [I n, .lst p]] (· = .agg [I n, .lst p]) := FS_ofFN (toMat_fn C hp hl hy) (by rintro _ _ ⟨rfl, rfl⟩; rfl)

end Tryz
end Go.Proofs

