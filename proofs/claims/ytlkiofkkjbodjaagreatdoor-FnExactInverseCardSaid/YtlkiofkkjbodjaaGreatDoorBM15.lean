/- Contracts: products of numbers and of matrices in the reference. -/
import Derived.Test.YtlkiofkkjbodjaaGreatDoorBM10
import Derived.Test.YtlkiofkkjbodjaaGreatDoorBEvD
set_option maxHeartbeats 1000000
set_option maxRecDepth 100000
namespace Go.Proofs
open Go Go.Pe Go.Dg
namespace Tryz
set_option linter.unusedSimpArgs false
set_option linter.unusedVariables false
variable {P : Program} {gl : List (Nat × Obj)}

theorem aQJ (C : Cx P gl) {z1 z2 w : Int} {p q r : List PV} {s t u : Bool} (hp : p = aA (dg z1.natAbs)) (hs : s = decide (z1 < 0)) (hq : q = aA (dg z2.natAbs)) (ht : t = decide (z2 < 0))
  (hw : w = z1 * z2) (hr : r = aA (dg w.natAbs)) (hu : u = decide (w < 0)) (hl : (dg z1.natAbs).length ≤ 1000000) (hm : (dg z2.natAbs).length ≤ 1000000) :
  FS P gl 145 [.agg [B s, .lst p], .agg [B t, .lst q]] (· = .agg [B u, .lst r]) := by
 have hv : val (dg z1.natAbs) * val (dg z2.natAbs) = ((w.natAbs : Nat) : Int) := by
  rw [aQ, aQ, hw, Int.natAbs_mul, Int.natCast_mul]
 have hc := fun (P' : Program) (C' : Cx P' gl) => tL C' hp hq (aI _) (aI _) hv hr (by omega)
 have hlw : (dg w.natAbs).length ≤ 2000000 := by rw [hw, Int.natAbs_mul]; have := rO hl hm; omega
 obtain ⟨b, hb⟩ : ∃ b, b = xor s t := ⟨_, rfl⟩
 have hsg : u = (b && decide (w.natAbs ≠ 0)) := by
  rw [hb, hu, hs, ht, hw]
  rcases Int.lt_trichotomy z1 0 with a | a | a <;> rcases Int.lt_trichotomy z2 0 with b | b | b
  ·have := Int.mul_pos_of_neg_of_neg a b
   simp [a, b]; omega
  ·simp [b]
  ·have := Int.mul_neg_of_neg_of_pos a b
   simp [a, Int.not_lt.2 (Int.le_of_lt b), this]; omega
  ·simp [a]
  ·simp [a]
  ·simp [a]
  ·have := Int.mul_neg_of_pos_of_neg a b
   simp [b, Int.not_lt.2 (Int.le_of_lt a), this]; omega
  ·simp [b]
  ·have := Int.mul_pos a b
   simp [Int.not_lt.2 (Int.le_of_lt a), Int.not_lt.2 (Int.le_of_lt b)]; omega
 have hk := fun (P' : Program) (C' : Cx P' gl) => dG C' hr hsg (by omega)
 clear hp hs hq ht hw hr hu hv hsg hlw
 refine gS C func145 rfl rfl rfl fun A hA hI => ?_
 have hb2 : A.bnot (A.beq s t) = b := by
  clear hc hk
  subst hA hb
  cases s <;> cases t <;> rfl
 iterate 2 all_goals try cbv; with_reducible repeat' first | exact ⟨⟩ | apply And.intro | intro _
 all_goals try exact oG
 all_goals try simp only [hb2]
 refine ⟨_, hc P C, ?_⟩
 iterate 2 all_goals try cbv; with_reducible repeat' first | exact ⟨⟩ | apply And.intro | intro _
 all_goals try exact oG
 all_goals try simp only [hb2]
 refine aD hA rfl (hk P C) ?_; rintro _ rfl
 iterate 2 all_goals try cbv; with_reducible repeat' first | exact ⟨⟩ | apply And.intro | intro _
 all_goals try exact oG

theorem aF3 (C : Cx P gl) {z1 e1 z2 e2 f : Int} {p q r : List PV} {s t u : Bool} {d : Dyadic} (hp : p = aA (dg z1.natAbs)) (hs : s = decide (z1 < 0)) (hq : q = aA (dg z2.natAbs)) (ht : t = decide (z2 < 0))
  (hd : d = mk z1 e1 * mk z2 e2) (hr : r = aA (dg (cZ d).natAbs)) (hu : u = decide (cZ d < 0)) (hf : f = cE d)
  (h1 : e1.natAbs ≤ 100000) (h2 : e2.natAbs ≤ 100000) (hl : (dg z1.natAbs).length ≤ 1000000) (hm : (dg z2.natAbs).length ≤ 1000000) :
  FS P gl 71 [.agg [B s, .lst p, I e1], .agg [B t, .lst q, I e2]] (· = .agg [B u, .lst r, I f]) := by
 obtain ⟨w, hw⟩ : ∃ w, w = z1 * z2 := ⟨_, rfl⟩
 obtain ⟨g, hg⟩ : ∃ g, g = e1 + e2 := ⟨_, rfl⟩
 obtain ⟨r', hr'⟩ : ∃ r', r' = aA (dg w.natAbs) := ⟨_, rfl⟩
 obtain ⟨u', hu'⟩ : ∃ u', u' = decide (w < 0) := ⟨_, rfl⟩
 have hlw : (dg w.natAbs).length ≤ 2000000 := by rw [hw, Int.natAbs_mul]; have := rO hl hm; omega
 have c1 := fun (P' : Program) (C' : Cx P' gl) => aQJ C' hp hs hq ht hw hr' hu' hl hm
 have c2 := fun (P' : Program) (C' : Cx P' gl) => mN C' hr' hu' (show d = mk w g by rw [hd, aHW, hw, hg]) hr hu hf (by omega) (by omega)
 have hg1 : g.natAbs ≤ 200000 := by omega
 clear hp hs hq ht hd hr hu hf hr' hu' hw hlw hl hm
 refine gS C func71 rfl rfl rfl fun A hA hI => ?_
 have he : A.add .i64 e1 e2 = g := by clear c1 c2; (subst hA; subst_vars; simp only [AR.std, bBG, sG, reduceCtorEq] at *; try simp (disch := omega) only [AR.std, bBG, sG, reduceCtorEq] at *)
 iterate 2 all_goals try cbv; with_reducible repeat' first | exact ⟨⟩ | apply And.intro | intro _
 all_goals try exact oG
 refine ⟨_, c1 P C, ?_⟩
 iterate 2 all_goals try cbv; with_reducible repeat' first | exact ⟨⟩ | apply And.intro | intro _
 all_goals try exact oG
 all_goals try simp only [he]
 refine aD hA rfl (c2 P C) ?_; rintro _ rfl
 iterate 2 all_goals try cbv; with_reducible repeat' first | exact ⟨⟩ | apply And.intro | intro _
 all_goals try exact oG

end Tryz
end Go.Proofs
