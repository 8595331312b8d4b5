/- Contracts: IvOut, as the reference and the program have it. -/
import Derived.Test.YtcbagjglchpagaaGreatDoorHN24
import Derived.Test.YtcbagjglchpagaaGreatDoorHN26
import Derived.Test.YtcbagjglchpagaaGreatDoorHR30
import Derived.Test.YtcbagjglchpagaaGreatDoorHN32
namespace Go.Proofs
open Go Go.Pe Go.Dg
namespace Tryz
set_option linter.unusedSimpArgs false
set_option linter.unusedVariables false
variable {P : Program} {gl : List (Nat × Obj)}

/-- the ends of an interval in form, as canonical numbers -/
theorem ivOk_can {l m : List Int} {e f : Int} {p q : List PV} {s t : Bool} (hp : p = intsL l) (hq : q = intsL m) (hok : ivOk s l e t m f) :
    ∃ d1 d2 : Dyadic, dval s l e = d1 ∧ dval t m f = d2 ∧ s = decide (cZ d1 < 0) ∧ p = intsL (dg (cZ d1).natAbs) ∧ e = cE d1 ∧ t = decide (cZ d2 < 0) ∧ q = intsL (dg (cZ d2).natAbs) ∧ f = cE d2 ∧ fits d1 ∧ fits d2 := by
  obtain ⟨⟨x1, x2, x3⟩, y1, y2, y3⟩ := dyOk_val hok.1
  obtain ⟨⟨x4, x5, x6⟩, y4, y5, y6⟩ := dyOk_val hok.2.1
  exact ⟨_, _, rfl, rfl, x1, by rw [hp, ← x2], x3, x4, by rw [hq, ← x5], x6, ⟨y1, y2, y3⟩, y4, y5, y6⟩

set_option maxHeartbeats 2000000 in
set_option maxRecDepth 100000 in
theorem l7low_fs (C : Cx P gl) {n : Int} {b : Bool} (hb : b = (decide (-200 ≤ n) && decide (n ≤ 200))) : FS P gl 46 [I n] (· = B b) := by
  obtain ⟨rfl, hG⟩ := C
  refine FS_ofT (args := fun A => [I n]) (R := fun A rr => rr = B b) Tryz.hT Tryz.mix Tryz.func46 rfl rfl (Nat.le_of_ble_eq_true rfl) ?_
  generalize hP : Tryz.prog = P
  intro A hA
  have C : Tryz.Cx P gl := ⟨hP.symm, hG⟩
  have hI : intsL = A.ints := by subst hA; rfl
  iterate 2 (all_goals try cbv; all_goals repeat' (first | with_reducible exact True.intro | with_reducible refine And.intro ?_ ?_ | intro _))
  all_goals try exact pH
  rw [hb]
  subst hA
  show PV.val (.bool (bif decide (-200 ≤ n) then decide (n ≤ 200) else false)) = _
  cases decide (-200 ≤ n) <;> rfl

set_option maxHeartbeats 2000000 in
set_option maxRecDepth 100000 in
theorem isFine_fs (C : Cx P gl) {n : Int} {b : Bool} (hb : b = (decide (-200 ≤ n) && decide (n ≤ 200))) : FS P gl 50 [I n] (· = B b) := by
  obtain ⟨rfl, hG⟩ := C
  refine FS_ofT (args := fun A => [I n]) (R := fun A rr => rr = B b) Tryz.hT Tryz.mix Tryz.func50 rfl rfl (Nat.le_of_ble_eq_true rfl) ?_
  generalize hP : Tryz.prog = P
  intro A hA
  have C : Tryz.Cx P gl := ⟨hP.symm, hG⟩
  have hI : intsL = A.ints := by subst hA; rfl
  iterate 2 (all_goals try cbv; all_goals repeat' (first | with_reducible exact True.intro | with_reducible refine And.intro ?_ ?_ | intro _))
  all_goals try exact oH
  refine callS hA rfl (within_fs C hb) ?_; rintro _ rfl
  iterate 2 (all_goals try cbv; all_goals repeat' (first | with_reducible exact True.intro | with_reducible refine And.intro ?_ ?_ | intro _))
  all_goals try exact oH

end Tryz
end Go.Proofs
