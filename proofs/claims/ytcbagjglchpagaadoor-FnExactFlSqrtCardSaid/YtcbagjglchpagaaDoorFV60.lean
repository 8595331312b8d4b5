/- The law FnExactFlSqrt at all arguments. -/
import Derived.Test.YtcbagjglchpagaaDoorFK14
namespace Go.Proofs
open Go Go.Pe Go.Dg
namespace Tryd
set_option linter.unusedSimpArgs false
set_option linter.unusedVariables false
variable {P : Program} {gl : List (Nat × Obj)}

set_option maxHeartbeats 4000000 in
set_option maxRecDepth 100000 in
theorem law_fs (C : Cx P gl) {k0 m0 e0 n1 : Int} {s0 : Bool} :
    FS P gl 3 [.agg [I k0, B s0, I m0, I e0], I n1] (· = B true) := by
  obtain ⟨k, m, e, fl, s, hs, hi⟩ := flSqrt_both (gl := gl) (k1 := k0) (m1 := m0) (e1 := e0) (s1 := s0) (mode := n1)
  obtain ⟨rfl, hG⟩ := C
  refine FS_ofT (args := fun A => [.agg [I k0, B s0, I m0, I e0], I n1]) (R := fun A rr => rr = B true) Tryd.hT Tryd.mix Tryd.func3 rfl rfl (Nat.le_of_ble_eq_true rfl) ?_
  generalize hP : Tryd.prog = P
  intro A hA
  have C : Tryd.Cx P gl := ⟨hP.symm, hG⟩
  have hI : intsL = A.ints := by subst hA; rfl
  have ht : ∀ {k m e : Int} {s : Bool} (P' : Program) (C' : Cx P' gl), FS P' gl 8 [.agg [I k, B s, I m, I e]] (· = .agg [I k, B s, I m, I e]) := fun P' C' => toFl_fs C'
  have he := fun (P' : Program) (C' : Cx P' gl) => @eqFl_fs P' gl C' k m e s
  iterate 2 (all_goals try cbv; all_goals repeat' (first | with_reducible exact True.intro | with_reducible refine And.intro ?_ ?_ | intro _))
  all_goals try exact oH
  first | (refine callS hA rfl (ht P C) ?_; rintro _ rfl) | refine ⟨_, ht P C, ?_⟩
  iterate 2 (all_goals try cbv; all_goals repeat' (first | with_reducible exact True.intro | with_reducible refine And.intro ?_ ?_ | intro _))
  all_goals try exact oH
  first | (refine callS hA rfl (hs P C) ?_; rintro _ rfl) | refine ⟨_, hs P C, ?_⟩
  iterate 2 (all_goals try cbv; all_goals repeat' (first | with_reducible exact True.intro | with_reducible refine And.intro ?_ ?_ | intro _))
  all_goals try exact oH
  first | (refine callS hA rfl (ht P C) ?_; rintro _ rfl) | refine ⟨_, ht P C, ?_⟩
  iterate 2 (all_goals try cbv; all_goals repeat' (first | with_reducible exact True.intro | with_reducible refine And.intro ?_ ?_ | intro _))
  all_goals try exact oH
  first | (refine callS hA rfl (hi P C) ?_; rintro _ rfl) | refine ⟨_, hi P C, ?_⟩
  iterate 2 (all_goals try cbv; all_goals repeat' (first | with_reducible exact True.intro | with_reducible refine And.intro ?_ ?_ | intro _))
  all_goals try exact oH
  first | (refine callS hA rfl (he P C) ?_; rintro _ rfl) | refine ⟨_, he P C, ?_⟩
  all_goals try cbv
  all_goals repeat' (first | with_reducible exact True.intro | with_reducible refine And.intro ?_ ?_ | intro _)
  all_goals try exact oH
  all_goals try (first | (cbv; done) | (cbv; exact True.intro) | (cbv; exact beq_ff hA (by assumption)) | (cbv; exact beq_tt hA (by assumption)))

end Tryd
end Go.Proofs
