/- Contracts: results that own nothing. -/
import Derived.Test.YtcbagjglchpagaaDoorFN13
namespace Go.Proofs
open Go Go.Pe Go.Dg
namespace Tryd
set_option linter.unusedSimpArgs false
set_option linter.unusedVariables false
variable {P : Program} {gl : List (Nat × Obj)}

set_option maxHeartbeats 1000000 in
set_option maxRecDepth 100000 in
/-- a copy that is one's own -/
theorem clone_fx (C : Cx P gl) {l : List Int} {p : List PV} (hp : p = intsL l) (h : 0 < l.length) (h1 : l.length ≤ 1000000) : FX P gl 172 [] [.pv (.lst p)] (fun own r => own = [.row 3 1 p] ∧ r = .own 0) := by
  obtain ⟨rfl, hG⟩ := C
  refine FX_ofT (own := fun A => []) (args := fun A => [.pv (.lst p)]) (R := fun A ow rr => ow = [.row 3 1 p] ∧ rr = .own 0) Tryd.hT Tryd.mix Tryd.func172 rfl rfl (Nat.le_of_ble_eq_true rfl) ?_
  generalize hP : Tryd.prog = P
  intro A hA
  have C : Tryd.Cx P gl := ⟨hP.symm, hG⟩
  have hI : intsL = A.ints := by subst hA; rfl
  iterate 2 (all_goals try cbv; all_goals repeat' (first | with_reducible exact True.intro | with_reducible refine And.intro ?_ ?_ | intro _))
  all_goals try exact oH
  · rename_i hb hbt
    exfalso
    have := hb hbt
    rw [this] at hp
    have h2 := congrArg List.length hp
    rw [ints_len] at h2
    simp at h2
    simp [h2] at h
  iterate 2 (all_goals try cbv; all_goals repeat' (first | with_reducible exact True.intro | with_reducible refine And.intro ?_ ?_ | intro _))
  all_goals try exact oH
  · subst hA; intro p hp; cases hp
  · subst hA
    exact ⟨[0], _, _, by decide, Nat.zero_le _, rfl, rfl, rfl, rfl, rfl, rfl⟩

end Tryd
end Go.Proofs

namespace Go.Proofs
open Go Go.Pe Go.Dg
namespace Tryd
set_option linter.unusedSimpArgs false
set_option linter.unusedVariables false
variable {P : Program} {gl : List (Nat × Obj)}

set_option maxHeartbeats 1000000 in
set_option maxRecDepth 100000 in
theorem clone0_fs (C : Cx P gl) : FS P gl 172 [.lst []] (· = .lst []) := by
  obtain ⟨rfl, hG⟩ := C
  refine FS_ofT (args := fun A => [.lst []]) (R := fun A rr => rr = .lst []) Tryd.hT Tryd.mix Tryd.func172 rfl rfl (Nat.le_of_ble_eq_true rfl) ?_
  generalize hP : Tryd.prog = P
  intro A hA
  have C : Tryd.Cx P gl := ⟨hP.symm, hG⟩
  have hI : intsL = A.ints := by subst hA; rfl
  iterate 2 (all_goals try cbv; all_goals repeat' (first | with_reducible exact True.intro | with_reducible refine And.intro ?_ ?_ | intro _))
  all_goals try exact oH
  iterate 2 (all_goals try cbv; all_goals repeat' (first | with_reducible exact True.intro | with_reducible refine And.intro ?_ ?_ | intro _))
  all_goals try exact oH
  · subst hA; intro p hp; cases hp
  · subst hA; intro p hp; cases hp
  · subst hA; rfl

end Tryd
end Go.Proofs

