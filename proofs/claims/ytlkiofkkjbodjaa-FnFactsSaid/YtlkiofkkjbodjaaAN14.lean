/- Contracts: results that are one's own. -/
import Derived.Test.YtlkiofkkjbodjaaAN13
set_option maxHeartbeats 1000000
set_option maxRecDepth 100000
namespace Go.Proofs
open Go Go.Pe Go.Dg
namespace Try
set_option linter.unusedSimpArgs false
set_option linter.unusedVariables false
variable {P : Program} {gl : List (Nat × Obj)}

theorem clone_fx (C : Cx P gl) {l : List Int} {p : List PV} (hp : p = intsL l) (h : 0 < l.length) (h1 : l.length ≤ 1000000) : FX P gl 24 [] [.pv (.lst p)] (fun own r => own = [.row 3 1 p] ∧ r = .own 0) := by
 obtain ⟨rfl, hG⟩ := C
 refine FX_ofT (own := fun A => []) (args := fun A => [.pv (.lst p)]) (R := fun A ow rr => ow = [.row 3 1 p] ∧ rr = .own 0) Try.hT Try.mix Try.func24 rfl rfl (Nat.le_of_ble_eq_true rfl) ?_
 generalize hP : Try.prog = P
 intro A hA
 have C : Try.Cx P gl := ⟨hP.symm, hG⟩
 have hI : intsL = A.ints := by subst hA; rfl
 iterate 2 (all_goals try cbv; all_goals with_reducible repeat' first | exact True.intro | refine And.intro ?_ ?_ | intro _)
 all_goals try exact oH
 ·rename_i hb hbt
  exfalso
  have := hb hbt
  rw [this] at hp
  have h2 := congrArg List.length hp
  rw [ints_len] at h2
  simp at h2
  simp [h2] at h
 iterate 2 (all_goals try cbv; all_goals with_reducible repeat' first | exact True.intro | refine And.intro ?_ ?_ | intro _)
 all_goals try exact oH
 ·subst hA; intro p hp; cases hp
 ·subst hA
  exact ⟨[0], _, _, by decide, Nat.zero_le _, rfl, rfl, rfl, rfl, rfl, rfl⟩

theorem natOf_fx (C : Cx P gl) {l : List Int} {p : List PV} (hp : p = intsL l) (h : 0 < l.length) (h1 : l.length ≤ 100) : FX P gl 15 [] [.pv (.lst p)] (fun own r => own = [.row 3 1 p] ∧ r = .tup [.agg [.own 0], .pv (B true)]) := by
 obtain ⟨rfl, hG⟩ := C
 refine FX_ofT (own := fun A => []) (args := fun A => [.pv (.lst p)]) (R := fun A ow rr => ow = [.row 3 1 p] ∧ rr = .tup [.agg [.own 0], .pv (B true)]) Try.hT Try.mix Try.func15 rfl rfl (Nat.le_of_ble_eq_true rfl) ?_
 generalize hP : Try.prog = P
 intro A hA
 have C : Try.Cx P gl := ⟨hP.symm, hG⟩
 have hI : intsL = A.ints := by subst hA; rfl
 iterate 2 (all_goals try cbv; all_goals with_reducible repeat' first | exact True.intro | refine And.intro ?_ ?_ | intro _)
 all_goals try exact oH
 refine callX hA [] List.nodup_nil rfl rfl rfl (clone_fx C hp h (by omega)) ?_; rintro _ _ ⟨rfl, rfl⟩; refine ⟨rfl, ?_⟩
 iterate 2 (all_goals try cbv; all_goals with_reducible repeat' first | exact True.intro | refine And.intro ?_ ?_ | intro _)
 all_goals try exact oH
 subst hA
 exact ⟨[1], _, _, by decide, Nat.zero_le _, rfl, rfl, rfl, rfl, rfl, rfl⟩

end Try
end Go.Proofs
