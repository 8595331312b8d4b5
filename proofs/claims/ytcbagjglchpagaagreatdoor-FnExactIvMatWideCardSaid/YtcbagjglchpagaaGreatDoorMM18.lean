/- Contracts: sizes and greatest sums in the reference. -/
import Derived.Test.YtcbagjglchpagaaGreatDoorMM10
import Derived.Test.YtcbagjglchpagaaGreatDoorMEvD
namespace Go.Proofs
open Go Go.Pe Go.Dg
namespace Tryz
set_option linter.unusedSimpArgs false
set_option linter.unusedVariables false
variable {P : Program} {gl : List (Nat × Obj)}

end Tryz
end Go.Proofs

namespace Go.Proofs
open Go Go.Pe Go.Dg
namespace Tryz
set_option linter.unusedSimpArgs false
set_option linter.unusedVariables false
variable {P : Program} {gl : List (Nat × Obj)}

set_option maxHeartbeats 1000000 in
set_option maxRecDepth 100000 in
theorem l8abs_fs (C : Cx P gl) {n : Nat} {e : Int} {p : List PV} {s : Bool} (hp : p = intsL (dg n)) (hl : (dg n).length ≤ 1000000000) : FS P gl 183 [.agg [B s, .lst p, I e]] (· = .agg [B false, .lst p, I e]) := by
  have hm := fun (P' : Program) (C' : Cx P' gl) => l3make_fs C' (s := false) (s' := false) hp rfl hl
  clear hp
  obtain ⟨rfl, hG⟩ := C
  refine FS_ofT (args := fun A => [.agg [B s, .lst p, I e]]) (R := fun A rr => rr = .agg [B false, .lst p, I e]) Tryz.hT Tryz.mix Tryz.func183 rfl rfl (Nat.le_of_ble_eq_true rfl) ?_
  generalize hP : Tryz.prog = P
  intro A hA
  have C : Tryz.Cx P gl := ⟨hP.symm, hG⟩
  have hI : intsL = A.ints := by subst hA; rfl
  iterate 2 (all_goals try cbv; all_goals repeat' (first | with_reducible exact True.intro | with_reducible refine And.intro ?_ ?_ | intro _))
  all_goals try exact oG
  refine ⟨_, hm P C, ?_⟩
  iterate 2 (all_goals try cbv; all_goals repeat' (first | with_reducible exact True.intro | with_reducible refine And.intro ?_ ?_ | intro _))
  all_goals try exact oG

set_option maxHeartbeats 1000000 in
set_option maxRecDepth 100000 in
theorem l7more_fs (C : Cx P gl) {z1 e1 z2 e2 f : Int} {p q r : List PV} {s t u : Bool} (hp : p = intsL (dg z1.natAbs)) (hs : s = decide (z1 < 0)) (hq : q = intsL (dg z2.natAbs)) (ht : t = decide (z2 < 0))
    (hlt : cmpD (mk z1 e1) (mk z2 e2) < 0 → u = t ∧ r = q ∧ f = e2) (hge : ¬ cmpD (mk z1 e1) (mk z2 e2) < 0 → u = s ∧ r = p ∧ f = e1)
    (h1 : e1.natAbs ≤ 100000) (h2 : e2.natAbs ≤ 100000) (hl : (dg z1.natAbs).length ≤ 1000000) (hm : (dg z2.natAbs).length ≤ 1000000) :
    FS P gl 110 [.agg [B s, .lst p, I e1], .agg [B t, .lst q, I e2]] (· = .agg [B u, .lst r, I f]) := by
  obtain ⟨c, hc⟩ : ∃ c, c = cmpD (mk z1 e1) (mk z2 e2) := ⟨_, rfl⟩
  have hm := fun (P' : Program) (C' : Cx P' gl) => l4cmp_fs C' hp hs hq ht hc h1 h2 hl hm
  rw [← hc] at hlt hge
  clear hp hs hq ht hc
  obtain ⟨rfl, hG⟩ := C
  refine FS_ofT (args := fun A => [.agg [B s, .lst p, I e1], .agg [B t, .lst q, I e2]]) (R := fun A rr => rr = .agg [B u, .lst r, I f]) Tryz.hT Tryz.mix Tryz.func110 rfl rfl (Nat.le_of_ble_eq_true rfl) ?_
  generalize hP : Tryz.prog = P
  intro A hA
  have C : Tryz.Cx P gl := ⟨hP.symm, hG⟩
  have hI : intsL = A.ints := by subst hA; rfl
  iterate 2 (all_goals try cbv; all_goals repeat' (first | with_reducible exact True.intro | with_reducible refine And.intro ?_ ?_ | intro _))
  all_goals try exact oG
  refine callS hA rfl (hm P C) ?_; rintro _ rfl
  iterate 2 (all_goals try cbv; all_goals repeat' (first | with_reducible exact True.intro | with_reducible refine And.intro ?_ ?_ | intro _))
  all_goals try exact oG
  · rename_i g
    obtain ⟨g1, g2, g3⟩ := hge (by clear hlt hge hm; (subst hA; subst_vars; simp only [AR.std, natCast_eq, sG, reduceCtorEq] at *; try simp (disch := omega) only [AR.std, natCast_eq, sG, reduceCtorEq] at *); omega)
    rw [g1, g2, g3]
  · rename_i g
    obtain ⟨g1, g2, g3⟩ := hlt (by clear hlt hge hm; (subst hA; subst_vars; simp only [AR.std, natCast_eq, sG, reduceCtorEq] at *; try simp (disch := omega) only [AR.std, natCast_eq, sG, reduceCtorEq] at *); omega)
    rw [g1, g2, g3]

end Tryz
end Go.Proofs

