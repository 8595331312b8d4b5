/- Contracts: the least and the greatest of a list of numbers, the ends of two intervals. -/
import Derived.Test.YtlkiofkkjbodjaaGreatDoorDN12
import Derived.Test.YtlkiofkkjbodjaaGreatDoorDPeFl
set_option maxHeartbeats 1000000
set_option maxRecDepth 100000
namespace Go.Proofs
open Go Go.Pe Go.Dg
namespace Tryz
set_option linter.unusedSimpArgs false
set_option linter.unusedVariables false
variable {P : Program} {gl : List (Nat × Obj)}

theorem minN_fs (C : Cx P gl) {ys : List Cell3} {d : Nat → Dyadic} {L E : Nat} {p r : List PV} {s : Bool} {e : Int} (hp : p = cells3 ys) (hx : XL d L E ys) (hL : L ≤ 1000000) (hE : E ≤ 100000) (h1 : 1 ≤ ys.length) (h2 : ys.length ≤ 1000) (hs : s = (ys.getD (amin d (ys.length - 1)) noY).1) (hr : r = intsL (ys.getD (amin d (ys.length - 1)) noY).2.1) (he : e = (ys.getD (amin d (ys.length - 1)) noY).2.2) :
  FS P gl 224 [.lst p, .fn 225 []] (· = .agg [B s, .lst r, I e]) := by
 refine gS C func224 rfl rfl rfl fun A hA hI => ?_
 obtain ⟨t0, ht0⟩ : ∃ x, x = (ys.getD 0 noY).1 := ⟨_, rfl⟩
 obtain ⟨u0, hu0⟩ : ∃ x, x = intsL (ys.getD 0 noY).2.1 := ⟨_, rfl⟩
 obtain ⟨f0, hf0⟩ : ∃ x, x = (ys.getD 0 noY).2.2 := ⟨_, rfl⟩
 have a1 : A.gb (A.el p (A.nat 0)) 0 = t0 := by rw [ht0]; clear hx hs hr he ht0 hu0 hf0; (subst hA; subst_vars; simp only [AR.std, natCast_eq, sG, reduceCtorEq] at *; try simp (disch := omega) only [AR.std, natCast_eq, sG, reduceCtorEq] at *)
 have a2 : A.gl (A.el p (A.nat 0)) 1 = u0 := by rw [hu0]; clear hx hs hr he ht0 hu0 hf0 a1; (subst hA; subst_vars; simp only [AR.std, natCast_eq, sG, reduceCtorEq] at *; try simp (disch := omega) only [AR.std, natCast_eq, sG, reduceCtorEq] at *)
 have a3 : A.gi (A.el p (A.nat 0)) 2 = f0 := by rw [hf0]; clear hx hs hr he ht0 hu0 hf0 a1 a2; (subst hA; subst_vars; simp only [AR.std, natCast_eq, sG, reduceCtorEq] at *; try simp (disch := omega) only [AR.std, natCast_eq, sG, reduceCtorEq] at *)
 iterate 2 all_goals try cbv; with_reducible repeat' first | exact ⟨⟩ | apply And.intro | intro _
 all_goals try exact oG
 simp only [a1, a2, a3]
 clear a1 a2 a3
 refine loopI hA [] (ι := Int × Bool × List PV × Int) (fun x => [(6, .pv (I x.1))]) (fun x => [(1, .box [.pv (B x.2.1), .pv (.lst x.2.2.1), .pv (I x.2.2.2)])]) (fun x => (ys.length - x.1).toNat) (fun x => 1 ≤ x.1 ∧ x.1 ≤ ys.length ∧ x.2.1 = (ys.getD (amin d (x.1.toNat - 1)) noY).1 ∧ x.2.2.1 = intsL (ys.getD (amin d (x.1.toNat - 1)) noY).2.1 ∧ x.2.2.2 = (ys.getD (amin d (x.1.toNat - 1)) noY).2.2) (1, t0, u0, f0) (by rfl) ?_ ?_ ?_
 all_goals try exact tG
 ·exact ⟨by simp only; omega, by simp only; omega, ht0, hu0, hf0⟩
 rintro ⟨i, t, u, f⟩ ⟨hi0, hi1, ht, hu, hf⟩
 simp only at hi0 hi1 ht hu hf
 clear ht0 hu0 hf0
 have hj := amin_le d (i.toNat - 1)
 obtain ⟨j, hj'⟩ : ∃ j, j = amin d (i.toNat - 1) := ⟨_, rfl⟩
 rw [← hj'] at hj ht hu hf
 obtain ⟨z1, x1, x2, x3, x4, x5⟩ := hx j (by omega)
 have hxi := hx i.toNat
 rw [← ht] at x1
 rw [← hf] at x3 x5
 rw [x2] at hu
 have hfin : ys.length ≤ i → t = s ∧ u = r ∧ f = e := by
  intro h
  have e1 : i.toNat - 1 = ys.length - 1 := by omega
  rw [hs, hr, he, ← e1, ← hj']
  exact ⟨ht, by rw [hu, x2], hf⟩
 obtain ⟨c, hc⟩ : ∃ c, c = cmpD (d i.toNat) (d j) := ⟨_, rfl⟩
 have hnx : amin d ((i + 1).toNat - 1) = if c < 0 then i.toNat else j := by
  rw [show (i + 1).toNat - 1 = (i.toNat - 1) + 1 by omega, amin, show (i.toNat - 1) + 1 = i.toNat by omega, ← hj', ← hc]
 clear hx hs hr he
 iterate 2 all_goals try cbv; with_reducible repeat' first | exact ⟨⟩ | apply And.intro | intro _
 all_goals try exact oG
 ·rename_i g
  have gi : i < ys.length := by clear hxi hfin hnx hc hu hj' hf ht x1 x2 x3 x4 x5; exact eG
  obtain ⟨z2, y1, y2, y3, y4, y5⟩ := hxi (by omega)
  have k2 : A.gl (A.el p (A.nat i)) 1 = intsL (dg z2.natAbs) := by rw [← y2]; clear hxi hfin hnx hc hu hj' hf ht x1 x2 x3 x4 x5 y1 y2 y3 y4 y5; (subst hA; subst_vars; simp only [AR.std, natCast_eq, sG, reduceCtorEq] at *; try simp (disch := omega) only [AR.std, natCast_eq, sG, reduceCtorEq] at *)
  have k1 : A.gb (A.el p (A.nat i)) 0 = decide (z2 < 0) := by rw [← y1]; clear hxi hfin hnx hc hu hj' hf ht x1 x2 x3 x4 x5 y1 y2 y3 y4 y5 k2; (subst hA; subst_vars; simp only [AR.std, natCast_eq, sG, reduceCtorEq] at *; try simp (disch := omega) only [AR.std, natCast_eq, sG, reduceCtorEq] at *)
  have k3 : A.gi (A.el p (A.nat i)) 2 = (ys.getD i.toNat noY).2.2 := by clear hxi hfin hnx hc hu hj' hf ht x1 x2 x3 x4 x5 y1 y2 y3 y4 y5 k1 k2; (subst hA; subst_vars; simp only [AR.std, natCast_eq, sG, reduceCtorEq] at *; try simp (disch := omega) only [AR.std, natCast_eq, sG, reduceCtorEq] at *)
  have hc2 : c = cmpD (mk z2 (A.gi (A.el p (A.nat i)) 2)) (mk z1 f) := by rw [k3, ← y3, ← x3]; exact hc
  have hk3 : (A.gi (A.el p (A.nat i)) 2).natAbs ≤ 100000 := by rw [k3]; omega
  refine callS hA rfl (exactCompare_fs C k2 k1 hu x1 hc2 hk3 (by omega) (by omega) (by omega)) ?_; rintro _ rfl
  have kk1 : A.gb (A.el p (A.nat i)) 0 = (ys.getD i.toNat noY).1 := by rw [k1, y1]
  have kk2 : A.gl (A.el p (A.nat i)) 1 = intsL (ys.getD i.toNat noY).2.1 := by rw [k2, y2]
  rw [← x2] at hu
  have hi2 : i + 1 ≤ ys.length := by omega
  clear hxi hfin hc hc2 hk3 x1 x2 x3 x4 x5 y1 y2 y3 y4 y5 k1 k2
  iterate 2 all_goals try cbv; with_reducible repeat' first | exact ⟨⟩ | apply And.intro | intro _
  all_goals try exact oG
  ·rename_i g2
   have gc : c < 0 := by clear hnx hu ht hf kk1 kk2 k3; exact eG
   rw [if_pos gc] at hnx
   obtain ⟨y1, hy1⟩ : ∃ y, y = i + 1 := ⟨_, rfl⟩
   obtain ⟨y2, hy2⟩ : ∃ y, y = A.gb (A.el p (A.nat i)) 0 := ⟨_, rfl⟩
   obtain ⟨y3, hy3⟩ : ∃ y, y = A.gl (A.el p (A.nat i)) 1 := ⟨_, rfl⟩
   obtain ⟨y4, hy4⟩ : ∃ y, y = A.gi (A.el p (A.nat i)) 2 := ⟨_, rfl⟩
   refine ⟨⟨(y1, y2, y3, y4), ?_⟩, ?_, ?_⟩
   rotate_left
   ·cbv
    exact nG
   ·exact eG
   ·rw [hy1, hy2, hy3, hy4]
    refine ⟨by simp only; omega, hi2, ?_, ?_, ?_⟩ <;> simp only [hnx]
    ·exact kk1
    ·exact kk2
    ·exact k3
  ·rename_i g2
   have gc : ¬(c < 0) := by clear hnx hu ht hf kk1 kk2 k3; exact eG
   rw [if_neg gc] at hnx
   obtain ⟨y1, hy1⟩ : ∃ y, y = i + 1 := ⟨_, rfl⟩
   obtain ⟨y2, hy2⟩ : ∃ y, y = t := ⟨_, rfl⟩
   obtain ⟨y3, hy3⟩ : ∃ y, y = u := ⟨_, rfl⟩
   obtain ⟨y4, hy4⟩ : ∃ y, y = f := ⟨_, rfl⟩
   refine ⟨⟨(y1, y2, y3, y4), ?_⟩, ?_, ?_⟩
   rotate_left
   ·cbv
    exact nG
   ·exact eG
   ·rw [hy1, hy2, hy3, hy4]
    refine ⟨by simp only; omega, hi2, ?_, ?_, ?_⟩ <;> simp only [hnx]
    ·exact ht
    ·exact hu
    ·exact hf
 ·rename_i g
  obtain ⟨e1, e2, e3⟩ := hfin (by clear hxi hfin hnx hc hu hj' hf ht x1 x2 x3 x4 x5; exact eG)
  rw [e1, e2, e3]

theorem leastN_fs (C : Cx P gl) {ys : List Cell3} {d : Nat → Dyadic} {L E : Nat} {p r : List PV} {s : Bool} {e : Int} (hp : p = cells3 ys) (hx : XL d L E ys) (hL : L ≤ 1000000) (hE : E ≤ 100000) (h1 : 1 ≤ ys.length) (h2 : ys.length ≤ 1000) (hs : s = (ys.getD (amin d (ys.length - 1)) noY).1) (hr : r = intsL (ys.getD (amin d (ys.length - 1)) noY).2.1) (he : e = (ys.getD (amin d (ys.length - 1)) noY).2.2) :
  FS P gl 162 [.lst p] (· = .agg [B s, .lst r, I e]) := by
 have h := fun (P' : Program) (C' : Cx P' gl) => minN_fs C' hp hx hL hE h1 h2 hs hr he
 clear hp hx hs hr he
 refine gS C func162 rfl rfl rfl fun A hA hI => ?_
 iterate 2 all_goals try cbv; with_reducible repeat' first | exact ⟨⟩ | apply And.intro | intro _
 all_goals try exact oG
 refine callS hA rfl (h P C) ?_; rintro _ rfl
 iterate 2 all_goals try cbv; with_reducible repeat' first | exact ⟨⟩ | apply And.intro | intro _
 all_goals try exact oG

theorem maxN_fs (C : Cx P gl) {ys : List Cell3} {d : Nat → Dyadic} {L E : Nat} {p r : List PV} {s : Bool} {e : Int} (hp : p = cells3 ys) (hx : XL d L E ys) (hL : L ≤ 1000000) (hE : E ≤ 100000) (h1 : 1 ≤ ys.length) (h2 : ys.length ≤ 1000) (hs : s = (ys.getD (amax d (ys.length - 1)) noY).1) (hr : r = intsL (ys.getD (amax d (ys.length - 1)) noY).2.1) (he : e = (ys.getD (amax d (ys.length - 1)) noY).2.2) :
  FS P gl 226 [.lst p, .fn 225 []] (· = .agg [B s, .lst r, I e]) := by
 refine gS C func226 rfl rfl rfl fun A hA hI => ?_
 obtain ⟨t0, ht0⟩ : ∃ x, x = (ys.getD 0 noY).1 := ⟨_, rfl⟩
 obtain ⟨u0, hu0⟩ : ∃ x, x = intsL (ys.getD 0 noY).2.1 := ⟨_, rfl⟩
 obtain ⟨f0, hf0⟩ : ∃ x, x = (ys.getD 0 noY).2.2 := ⟨_, rfl⟩
 have a1 : A.gb (A.el p (A.nat 0)) 0 = t0 := by rw [ht0]; clear hx hs hr he ht0 hu0 hf0; (subst hA; subst_vars; simp only [AR.std, natCast_eq, sG, reduceCtorEq] at *; try simp (disch := omega) only [AR.std, natCast_eq, sG, reduceCtorEq] at *)
 have a2 : A.gl (A.el p (A.nat 0)) 1 = u0 := by rw [hu0]; clear hx hs hr he ht0 hu0 hf0 a1; (subst hA; subst_vars; simp only [AR.std, natCast_eq, sG, reduceCtorEq] at *; try simp (disch := omega) only [AR.std, natCast_eq, sG, reduceCtorEq] at *)
 have a3 : A.gi (A.el p (A.nat 0)) 2 = f0 := by rw [hf0]; clear hx hs hr he ht0 hu0 hf0 a1 a2; (subst hA; subst_vars; simp only [AR.std, natCast_eq, sG, reduceCtorEq] at *; try simp (disch := omega) only [AR.std, natCast_eq, sG, reduceCtorEq] at *)
 iterate 2 all_goals try cbv; with_reducible repeat' first | exact ⟨⟩ | apply And.intro | intro _
 all_goals try exact oG
 simp only [a1, a2, a3]
 clear a1 a2 a3
 refine loopI hA [] (ι := Int × Bool × List PV × Int) (fun x => [(6, .pv (I x.1))]) (fun x => [(1, .box [.pv (B x.2.1), .pv (.lst x.2.2.1), .pv (I x.2.2.2)])]) (fun x => (ys.length - x.1).toNat) (fun x => 1 ≤ x.1 ∧ x.1 ≤ ys.length ∧ x.2.1 = (ys.getD (amax d (x.1.toNat - 1)) noY).1 ∧ x.2.2.1 = intsL (ys.getD (amax d (x.1.toNat - 1)) noY).2.1 ∧ x.2.2.2 = (ys.getD (amax d (x.1.toNat - 1)) noY).2.2) (1, t0, u0, f0) (by rfl) ?_ ?_ ?_
 all_goals try exact tG
 ·exact ⟨by simp only; omega, by simp only; omega, ht0, hu0, hf0⟩
 rintro ⟨i, t, u, f⟩ ⟨hi0, hi1, ht, hu, hf⟩
 simp only at hi0 hi1 ht hu hf
 clear ht0 hu0 hf0
 have hj := amax_le d (i.toNat - 1)
 obtain ⟨j, hj'⟩ : ∃ j, j = amax d (i.toNat - 1) := ⟨_, rfl⟩
 rw [← hj'] at hj ht hu hf
 obtain ⟨z1, x1, x2, x3, x4, x5⟩ := hx j (by omega)
 have hxi := hx i.toNat
 rw [← ht] at x1
 rw [← hf] at x3 x5
 rw [x2] at hu
 have hfin : ys.length ≤ i → t = s ∧ u = r ∧ f = e := by
  intro h
  have e1 : i.toNat - 1 = ys.length - 1 := by omega
  rw [hs, hr, he, ← e1, ← hj']
  exact ⟨ht, by rw [hu, x2], hf⟩
 obtain ⟨c, hc⟩ : ∃ c, c = cmpD (d i.toNat) (d j) := ⟨_, rfl⟩
 have hnx : amax d ((i + 1).toNat - 1) = if 0 < c then i.toNat else j := by
  rw [show (i + 1).toNat - 1 = (i.toNat - 1) + 1 by omega, amax, show (i.toNat - 1) + 1 = i.toNat by omega, ← hj', ← hc]
 clear hx hs hr he
 iterate 2 all_goals try cbv; with_reducible repeat' first | exact ⟨⟩ | apply And.intro | intro _
 all_goals try exact oG
 ·rename_i g
  have gi : i < ys.length := by clear hxi hfin hnx hc hu hj' hf ht x1 x2 x3 x4 x5; exact eG
  obtain ⟨z2, y1, y2, y3, y4, y5⟩ := hxi (by omega)
  have k2 : A.gl (A.el p (A.nat i)) 1 = intsL (dg z2.natAbs) := by rw [← y2]; clear hxi hfin hnx hc hu hj' hf ht x1 x2 x3 x4 x5 y1 y2 y3 y4 y5; (subst hA; subst_vars; simp only [AR.std, natCast_eq, sG, reduceCtorEq] at *; try simp (disch := omega) only [AR.std, natCast_eq, sG, reduceCtorEq] at *)
  have k1 : A.gb (A.el p (A.nat i)) 0 = decide (z2 < 0) := by rw [← y1]; clear hxi hfin hnx hc hu hj' hf ht x1 x2 x3 x4 x5 y1 y2 y3 y4 y5 k2; (subst hA; subst_vars; simp only [AR.std, natCast_eq, sG, reduceCtorEq] at *; try simp (disch := omega) only [AR.std, natCast_eq, sG, reduceCtorEq] at *)
  have k3 : A.gi (A.el p (A.nat i)) 2 = (ys.getD i.toNat noY).2.2 := by clear hxi hfin hnx hc hu hj' hf ht x1 x2 x3 x4 x5 y1 y2 y3 y4 y5 k1 k2; (subst hA; subst_vars; simp only [AR.std, natCast_eq, sG, reduceCtorEq] at *; try simp (disch := omega) only [AR.std, natCast_eq, sG, reduceCtorEq] at *)
  have hc2 : c = cmpD (mk z2 (A.gi (A.el p (A.nat i)) 2)) (mk z1 f) := by rw [k3, ← y3, ← x3]; exact hc
  have hk3 : (A.gi (A.el p (A.nat i)) 2).natAbs ≤ 100000 := by rw [k3]; omega
  refine callS hA rfl (exactCompare_fs C k2 k1 hu x1 hc2 hk3 (by omega) (by omega) (by omega)) ?_; rintro _ rfl
  have kk1 : A.gb (A.el p (A.nat i)) 0 = (ys.getD i.toNat noY).1 := by rw [k1, y1]
  have kk2 : A.gl (A.el p (A.nat i)) 1 = intsL (ys.getD i.toNat noY).2.1 := by rw [k2, y2]
  rw [← x2] at hu
  have hi2 : i + 1 ≤ ys.length := by omega
  clear hxi hfin hc hc2 hk3 x1 x2 x3 x4 x5 y1 y2 y3 y4 y5 k1 k2
  iterate 2 all_goals try cbv; with_reducible repeat' first | exact ⟨⟩ | apply And.intro | intro _
  all_goals try exact oG
  ·rename_i g2
   have gc : 0 < c := by clear hnx hu ht hf kk1 kk2 k3; exact eG
   rw [if_pos gc] at hnx
   obtain ⟨y1, hy1⟩ : ∃ y, y = i + 1 := ⟨_, rfl⟩
   obtain ⟨y2, hy2⟩ : ∃ y, y = A.gb (A.el p (A.nat i)) 0 := ⟨_, rfl⟩
   obtain ⟨y3, hy3⟩ : ∃ y, y = A.gl (A.el p (A.nat i)) 1 := ⟨_, rfl⟩
   obtain ⟨y4, hy4⟩ : ∃ y, y = A.gi (A.el p (A.nat i)) 2 := ⟨_, rfl⟩
   refine ⟨⟨(y1, y2, y3, y4), ?_⟩, ?_, ?_⟩
   rotate_left
   ·cbv
    exact nG
   ·exact eG
   ·rw [hy1, hy2, hy3, hy4]
    refine ⟨by simp only; omega, hi2, ?_, ?_, ?_⟩ <;> simp only [hnx]
    ·exact kk1
    ·exact kk2
    ·exact k3
  ·rename_i g2
   have gc : ¬(0 < c) := by clear hnx hu ht hf kk1 kk2 k3; exact eG
   rw [if_neg gc] at hnx
   obtain ⟨y1, hy1⟩ : ∃ y, y = i + 1 := ⟨_, rfl⟩
   obtain ⟨y2, hy2⟩ : ∃ y, y = t := ⟨_, rfl⟩
   obtain ⟨y3, hy3⟩ : ∃ y, y = u := ⟨_, rfl⟩
   obtain ⟨y4, hy4⟩ : ∃ y, y = f := ⟨_, rfl⟩
   refine ⟨⟨(y1, y2, y3, y4), ?_⟩, ?_, ?_⟩
   rotate_left
   ·cbv
    exact nG
   ·exact eG
   ·rw [hy1, hy2, hy3, hy4]
    refine ⟨by simp only; omega, hi2, ?_, ?_, ?_⟩ <;> simp only [hnx]
    ·exact ht
    ·exact hu
    ·exact hf
 ·rename_i g
  obtain ⟨e1, e2, e3⟩ := hfin (by clear hxi hfin hnx hc hu hj' hf ht x1 x2 x3 x4 x5; exact eG)
  rw [e1, e2, e3]

theorem mostN_fs (C : Cx P gl) {ys : List Cell3} {d : Nat → Dyadic} {L E : Nat} {p r : List PV} {s : Bool} {e : Int} (hp : p = cells3 ys) (hx : XL d L E ys) (hL : L ≤ 1000000) (hE : E ≤ 100000) (h1 : 1 ≤ ys.length) (h2 : ys.length ≤ 1000) (hs : s = (ys.getD (amax d (ys.length - 1)) noY).1) (hr : r = intsL (ys.getD (amax d (ys.length - 1)) noY).2.1) (he : e = (ys.getD (amax d (ys.length - 1)) noY).2.2) :
  FS P gl 163 [.lst p] (· = .agg [B s, .lst r, I e]) := by
 have h := fun (P' : Program) (C' : Cx P' gl) => maxN_fs C' hp hx hL hE h1 h2 hs hr he
 clear hp hx hs hr he
 refine gS C func163 rfl rfl rfl fun A hA hI => ?_
 iterate 2 all_goals try cbv; with_reducible repeat' first | exact ⟨⟩ | apply And.intro | intro _
 all_goals try exact oG
 refine callS hA rfl (h P C) ?_; rintro _ rfl
 iterate 2 all_goals try cbv; with_reducible repeat' first | exact ⟨⟩ | apply And.intro | intro _
 all_goals try exact oG

theorem ends2_fs (C : Cx P gl) {f : FuncId} {a0 a1 : List PV} {s1 s2 t1 t2 u0 u1 u2 u3 : Bool} {p1 p2 q1 q2 r0 r1 r2 r3 : List PV} {e1 e2 f1 f2 g0 g1 g2 g3 : Int}
  (h0 : ∀ P', Cx P' gl → FS P' gl f [.agg [B s1, .lst p1, I e1], .agg [B t1, .lst q1, I f1], .ptr a0 0, .ptr a1 0] (· = .agg [B u0, .lst r0, I g0])) (h1 : ∀ P', Cx P' gl → FS P' gl f [.agg [B s1, .lst p1, I e1], .agg [B t2, .lst q2, I f2], .ptr a0 0, .ptr a1 0] (· = .agg [B u1, .lst r1, I g1])) (h2 : ∀ P', Cx P' gl → FS P' gl f [.agg [B s2, .lst p2, I e2], .agg [B t1, .lst q1, I f1], .ptr a0 0, .ptr a1 0] (· = .agg [B u2, .lst r2, I g2])) (h3 : ∀ P', Cx P' gl → FS P' gl f [.agg [B s2, .lst p2, I e2], .agg [B t2, .lst q2, I f2], .ptr a0 0, .ptr a1 0] (· = .agg [B u3, .lst r3, I g3])) :
  FS P gl 160 [.agg [B s1, .lst p1, I e1, B s2, .lst p2, I e2], .agg [B t1, .lst q1, I f1, B t2, .lst q2, I f2], .fn f [.ptr a0 0, .ptr a1 0]] (· = .lst [.agg [B u0, .lst r0, I g0], .agg [B u1, .lst r1, I g1], .agg [B u2, .lst r2, I g2], .agg [B u3, .lst r3, I g3]]) := by
 refine gS C func160 rfl rfl rfl fun A hA hI => ?_
 iterate 2 all_goals try cbv; with_reducible repeat' first | exact ⟨⟩ | apply And.intro | intro _
 all_goals try exact oG
 first | (refine callS hA rfl (h0 P C) ?_; rintro _ rfl) | refine ⟨_, h0 P C, ?_⟩
 iterate 2 all_goals try cbv; with_reducible repeat' first | exact ⟨⟩ | apply And.intro | intro _
 all_goals try exact oG
 first | (refine callS hA rfl (h1 P C) ?_; rintro _ rfl) | refine ⟨_, h1 P C, ?_⟩
 iterate 2 all_goals try cbv; with_reducible repeat' first | exact ⟨⟩ | apply And.intro | intro _
 all_goals try exact oG
 first | (refine callS hA rfl (h2 P C) ?_; rintro _ rfl) | refine ⟨_, h2 P C, ?_⟩
 iterate 2 all_goals try cbv; with_reducible repeat' first | exact ⟨⟩ | apply And.intro | intro _
 all_goals try exact oG
 first | (refine callS hA rfl (h3 P C) ?_; rintro _ rfl) | refine ⟨_, h3 P C, ?_⟩
 iterate 2 all_goals try cbv; with_reducible repeat' first | exact ⟨⟩ | apply And.intro | intro _
 all_goals try exact oG
 all_goals try exact okA_of hA (by intro x hx; simp only [List.mem_cons, List.not_mem_nil, or_false] at hx; rcases hx with rfl | rfl | rfl | rfl <;> exact ⟨rfl, rfl⟩)

end Tryz
end Go.Proofs
