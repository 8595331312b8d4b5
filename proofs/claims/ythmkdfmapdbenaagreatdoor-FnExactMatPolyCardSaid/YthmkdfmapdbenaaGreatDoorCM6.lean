/- Contracts: sums and differences of numbers in any form, and of matrices of them. -/
import Derived.Test.YthmkdfmapdbenaaGreatDoorCM7
namespace Go.Proofs
open Go Go.Pe Go.Dg
namespace Tryz
set_option linter.unusedSimpArgs false
set_option linter.unusedVariables false
variable {P : Program} {gl : List (Nat × Obj)}

theorem xPlus {d1 d2 : Dyadic} {L E : Nat} {y1 y2 : Cell3} (h1 : X d1 L E y1) (h2 : X d2 L E y2) (hL : L ≤ 1000000) (hE : E ≤ 100000) : ∃ y, X (d1 + d2) (L + E + 2) E y ∧
    ∀ (P : Program) (gl : List (Nat × Obj)) (p q r : List PV), Cx P gl → p = intsL y1.2.1 → q = intsL y2.2.1 → r = intsL y.2.1 → FS P gl 102 [.agg [B y1.1, .lst p, I y1.2.2], .agg [B y2.1, .lst q, I y2.2.2]] (· = .agg [B y.1, .lst r, I y.2.2]) := by
  obtain ⟨z1, a1, a2, a3, a4, a5⟩ := h1
  obtain ⟨z2, b1, b2, b3, b4, b5⟩ := h2
  obtain ⟨w, f, hd⟩ := sumD_ex z1 y1.2.2 z2 y2.2.2
  have hlen : (dg w.natAbs).length ≤ L + E + 2 ∧ f.natAbs ≤ E := by
    obtain ⟨x, y, ha, rfl⟩ := hd
    obtain ⟨c2, c1, c3⟩ := align_len ha b4 a4 b5 a5
    exact ⟨by have := Go.Pe.dg_len_add c1 c2; omega, c3⟩
  refine ⟨(decide (w < 0), dg w.natAbs, f), ⟨w, rfl, rfl, by rw [sumD_mk hd, a3, b3], hlen.1, hlen.2⟩, ?_⟩
  intro P gl p q r C hp hq hr
  exact exactPlus_fs C (by rw [hp, a2]) a1 (by rw [hq, b2]) b1 hd hr rfl (by omega) (by omega) (by omega) (by omega)

end Tryz
end Go.Proofs
