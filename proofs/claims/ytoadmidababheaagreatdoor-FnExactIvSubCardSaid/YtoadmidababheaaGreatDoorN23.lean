/- Contracts: how wide an interval is, as the program tells it. -/
import Derived.Test.YtoadmidababheaaGreatDoorN22
namespace Go.Proofs
open Go Go.Pe Go.Dg
namespace Tryz
set_option linter.unusedSimpArgs false
set_option linter.unusedVariables false
variable {P : Program} {gl : List (Nat × Obj)}

theorem sumD_len {z1 e1 z2 e2 w f : Int} {L E : Nat} (h : sumD z1 e1 z2 e2 w f) (h1 : (dg z1.natAbs).length ≤ L) (h2 : (dg z2.natAbs).length ≤ L) (b1 : e1.natAbs ≤ E) (b2 : e2.natAbs ≤ E) :
    (dg w.natAbs).length ≤ 2 * (L + E + 1) + 1 ∧ f.natAbs ≤ E := by
  obtain ⟨x, y, ha, rfl⟩ := h
  obtain ⟨c1, c2, c3⟩ := align_len ha h2 h1 b2 b1
  refine ⟨?_, c3⟩
  have g1 := dg_len_add x.natAbs y.natAbs
  have g2 : (dg (x + y).natAbs).length ≤ (dg (x.natAbs + y.natAbs)).length := dg_len_mono (by omega)
  omega

theorem dg_zero : dg 0 = [] := List.eq_nil_of_length_eq_zero (dg_len0.2 rfl)

theorem fits_zero : fits 0 := by
  have : cZ (0 : Dyadic) = 0 := cZ_eq_zero.2 rfl
  refine ⟨by rw [this, show Int.natAbs 0 = 0 from rfl, dg_zero]; decide, by decide, by decide⟩

/-- what the end points of an interval in form are -/
theorem ivOk_val {l m : List Int} {e f : Int} {p q : List PV} {s t : Bool} (hp : p = intsL l) (hq : q = intsL m) (hok : ivOk s l e t m f) :
    ∃ z1 z2 : Int, p = intsL (dg z1.natAbs) ∧ s = decide (z1 < 0) ∧ q = intsL (dg z2.natAbs) ∧ t = decide (z2 < 0) ∧ dval s l e = mk z1 e ∧ dval t m f = mk z2 f ∧ e.natAbs ≤ 3000 ∧ f.natAbs ≤ 3000 ∧
      (dg z1.natAbs).length ≤ 100 ∧ (dg z2.natAbs).length ≤ 100 := by
  obtain ⟨⟨x1, x2, x3⟩, y1, y2, y3⟩ := dyOk_val hok.1
  obtain ⟨⟨x4, x5, x6⟩, y4, y5, y6⟩ := dyOk_val hok.2.1
  generalize dval s l e = d1 at *
  generalize dval t m f = d2 at *
  exact ⟨cZ d1, cZ d2, by rw [hp, ← x2], x1, by rw [hq, ← x5], x4, by rw [x3, mk_canon], by rw [x6, mk_canon], by omega, by omega, by omega, by omega⟩

end Tryz
end Go.Proofs
