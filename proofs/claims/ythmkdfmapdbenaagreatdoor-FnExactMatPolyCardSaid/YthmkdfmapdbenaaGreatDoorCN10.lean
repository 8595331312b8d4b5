/- Contracts: the reference's intervals. -/
import Derived.Test.YthmkdfmapdbenaaGreatDoorCN9
namespace Go.Proofs
open Go Go.Pe Go.Dg
namespace Tryz
set_option linter.unusedSimpArgs false
set_option linter.unusedVariables false
variable {P : Program} {gl : List (Nat × Obj)}

theorem add_len {z1 e1 z2 e2 : Int} {L E : Nat} (h1 : (dg z1.natAbs).length ≤ L) (h2 : (dg z2.natAbs).length ≤ L) (b1 : e1.natAbs ≤ E) (b2 : e2.natAbs ≤ E) :
    (dg (cZ (mk z1 e1 + mk z2 e2)).natAbs).length ≤ 2 * (L + E + 1) + 1 := by
  obtain ⟨x, y, e, ha⟩ := align_ex z1 e1 z2 e2
  obtain ⟨v1, v2⟩ := align_mk ha
  obtain ⟨c1, c2, c3⟩ := align_len ha h1 h2 b1 b2
  rw [← v1, ← v2, mk_add]
  refine Nat.le_trans (dg_len_mono (cZ_le _ _)) ?_
  have g1 := dg_len_add x.natAbs y.natAbs
  have g2 : (dg (x + y).natAbs).length ≤ (dg (x.natAbs + y.natAbs)).length := dg_len_mono (by omega)
  omega

end Tryz
end Go.Proofs
