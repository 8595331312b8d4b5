/- Contracts: quotients of intervals, in the reference. -/
import Derived.Test.YtlkiofkkjbodjaaGreatDoorAN35
import Derived.Test.YtlkiofkkjbodjaaGreatDoorAN11
import Derived.Test.YtlkiofkkjbodjaaGreatDoorAPeTk
set_option maxHeartbeats 1000000
set_option maxRecDepth 100000
namespace Go.Proofs
open Go Go.Pe Go.Dg
namespace Tryz
set_option linter.unusedSimpArgs false
set_option linter.unusedVariables false
variable {P : Program} {gl : List (Nat × Obj)}

theorem l7less_fs (C : Cx P gl) {z1 z2 e f c g : Int} {p q r : List PV} {s t u : Bool} (hp : p = intsL (dg z1.natAbs)) (hs : s = decide (z1 < 0)) (hq : q = intsL (dg z2.natAbs)) (ht : t = decide (z2 < 0)) (hc : c = cmpD (mk z1 e) (mk z2 f))
  (h1 : c ≤ 0 → u = s ∧ r = p ∧ g = e) (h2 : ¬(c ≤ 0) → u = t ∧ r = q ∧ g = f) (b1 : e.natAbs ≤ 100000) (b2 : f.natAbs ≤ 100000) (l1 : (dg z1.natAbs).length ≤ 1000000) (l2 : (dg z2.natAbs).length ≤ 1000000) :
  FS P gl 204 [.agg [B s, .lst p, I e], .agg [B t, .lst q, I f]] (· = .agg [B u, .lst r, I g]) := by
 have h := fun (P' : Program) (C' : Cx P' gl) => l4cmp_fs C' hp hs hq ht hc b1 b2 l1 l2
 clear hp hs hq ht hc
 obtain ⟨rfl, hG⟩ := C
 refine FS_ofT (args := fun A => [.agg [B s, .lst p, I e], .agg [B t, .lst q, I f]]) (R := fun A rr => rr = .agg [B u, .lst r, I g]) Tryz.hT Tryz.mix Tryz.func204 rfl rfl (Nat.le_of_ble_eq_true rfl) ?_
 generalize hP : Tryz.prog = P
 intro A hA
 have C : Tryz.Cx P gl := ⟨hP.symm, hG⟩
 have hI : intsL = A.ints := by subst hA; rfl
 iterate 2 (all_goals try cbv; all_goals with_reducible repeat' first | exact True.intro | refine And.intro ?_ ?_ | intro _)
 all_goals try exact oG
 refine callS hA rfl (h P C) ?_; rintro _ rfl
 iterate 2 (all_goals try cbv; all_goals with_reducible repeat' first | exact True.intro | refine And.intro ?_ ?_ | intro _)
 all_goals try exact oG
 ·rename_i gg
  obtain ⟨rfl, rfl, rfl⟩ := h1 (by clear h1 h2 h; (subst hA; subst_vars; simp only [AR.std, natCast_eq, sG, reduceCtorEq] at *; try simp (disch := omega) only [AR.std, natCast_eq, sG, reduceCtorEq] at *); omega)
  iterate 2 (all_goals try cbv; all_goals with_reducible repeat' first | exact True.intro | refine And.intro ?_ ?_ | intro _)
  all_goals try exact oG
 ·rename_i gg
  obtain ⟨rfl, rfl, rfl⟩ := h2 (by clear h1 h2 h; (subst hA; subst_vars; simp only [AR.std, natCast_eq, sG, reduceCtorEq] at *; try simp (disch := omega) only [AR.std, natCast_eq, sG, reduceCtorEq] at *); omega)
  iterate 2 (all_goals try cbv; all_goals with_reducible repeat' first | exact True.intro | refine And.intro ?_ ?_ | intro _)
  all_goals try exact oG

theorem l7more_fs (C : Cx P gl) {z1 z2 e f c g : Int} {p q r : List PV} {s t u : Bool} (hp : p = intsL (dg z1.natAbs)) (hs : s = decide (z1 < 0)) (hq : q = intsL (dg z2.natAbs)) (ht : t = decide (z2 < 0)) (hc : c = cmpD (mk z1 e) (mk z2 f))
  (h1 : 0 ≤ c → u = s ∧ r = p ∧ g = e) (h2 : ¬(0 ≤ c) → u = t ∧ r = q ∧ g = f) (b1 : e.natAbs ≤ 100000) (b2 : f.natAbs ≤ 100000) (l1 : (dg z1.natAbs).length ≤ 1000000) (l2 : (dg z2.natAbs).length ≤ 1000000) :
  FS P gl 205 [.agg [B s, .lst p, I e], .agg [B t, .lst q, I f]] (· = .agg [B u, .lst r, I g]) := by
 have h := fun (P' : Program) (C' : Cx P' gl) => l4cmp_fs C' hp hs hq ht hc b1 b2 l1 l2
 clear hp hs hq ht hc
 obtain ⟨rfl, hG⟩ := C
 refine FS_ofT (args := fun A => [.agg [B s, .lst p, I e], .agg [B t, .lst q, I f]]) (R := fun A rr => rr = .agg [B u, .lst r, I g]) Tryz.hT Tryz.mix Tryz.func205 rfl rfl (Nat.le_of_ble_eq_true rfl) ?_
 generalize hP : Tryz.prog = P
 intro A hA
 have C : Tryz.Cx P gl := ⟨hP.symm, hG⟩
 have hI : intsL = A.ints := by subst hA; rfl
 iterate 2 (all_goals try cbv; all_goals with_reducible repeat' first | exact True.intro | refine And.intro ?_ ?_ | intro _)
 all_goals try exact oG
 refine callS hA rfl (h P C) ?_; rintro _ rfl
 iterate 2 (all_goals try cbv; all_goals with_reducible repeat' first | exact True.intro | refine And.intro ?_ ?_ | intro _)
 all_goals try exact oG
 ·rename_i gg
  obtain ⟨rfl, rfl, rfl⟩ := h1 (by clear h1 h2 h; (subst hA; subst_vars; simp only [AR.std, natCast_eq, sG, reduceCtorEq] at *; try simp (disch := omega) only [AR.std, natCast_eq, sG, reduceCtorEq] at *); omega)
  iterate 2 (all_goals try cbv; all_goals with_reducible repeat' first | exact True.intro | refine And.intro ?_ ?_ | intro _)
  all_goals try exact oG
 ·rename_i gg
  obtain ⟨rfl, rfl, rfl⟩ := h2 (by clear h1 h2 h; (subst hA; subst_vars; simp only [AR.std, natCast_eq, sG, reduceCtorEq] at *; try simp (disch := omega) only [AR.std, natCast_eq, sG, reduceCtorEq] at *); omega)
  iterate 2 (all_goals try cbv; all_goals with_reducible repeat' first | exact True.intro | refine And.intro ?_ ?_ | intro _)
  all_goals try exact oG

end Tryz
end Go.Proofs
