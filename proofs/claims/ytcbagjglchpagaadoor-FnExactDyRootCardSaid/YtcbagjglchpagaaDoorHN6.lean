/- Contracts: the reference's signed numbers. -/
import Derived.Test.YtcbagjglchpagaaDoorHN5
namespace Go.Proofs
open Go Go.Pe Go.Dg
namespace Tryd
set_option linter.unusedSimpArgs false
set_option linter.unusedVariables false
variable {P : Program} {gl : List (Nat × Obj)}

theorem dg_pos {n : Nat} (h : n ≠ 0) : 0 < (dg n).length := by
  rcases Nat.eq_zero_or_pos (dg n).length with e | e
  · have := List.eq_nil_of_length_eq_zero e
    rw [← dg_zero] at this
    exact absurd (dg_inj this) h
  · exact e

set_option maxHeartbeats 1000000 in
set_option maxRecDepth 100000 in
theorem l3make_fs (C : Cx P gl) {n : Nat} {p : List PV} {s s' : Bool} (hp : p = intsL (dg n)) (hs : s' = (s && decide (n ≠ 0))) (hl : (dg n).length ≤ 1000000000) :
    FS P gl 70 [B s, .agg [.lst p]] (· = .agg [B s', .lst p]) := by
  have h0 : n = 0 → s' = false := fun h => by rw [hs, h]; simp
  have h1 : n ≠ 0 → s' = s := fun h => by rw [hs]; simp [h]
  have h2 : n ≠ 0 → 0 < (dg n).length := dg_pos
  have h3 : n = 0 → (dg n).length = 0 := fun h => by rw [h, dg_zero]; rfl
  have ht : p = intsL (trimL (dg n)) := by rw [hp, trim_dg (valid_dg n), val_dg]; rfl
  clear hs
  obtain ⟨rfl, hG⟩ := C
  refine FS_ofT (args := fun A => [B s, .agg [.lst p]]) (R := fun A rr => rr = .agg [B s', .lst p]) Tryd.hT Tryd.mix Tryd.func70 rfl rfl (Nat.le_of_ble_eq_true rfl) ?_
  generalize hP : Tryd.prog = P
  intro A hA
  have C : Tryd.Cx P gl := ⟨hP.symm, hG⟩
  have hI : intsL = A.ints := by subst hA; rfl
  iterate 2 (all_goals try cbv; all_goals repeat' (first | with_reducible exact True.intro | with_reducible refine And.intro ?_ ?_ | intro _))
  all_goals try exact oH
  refine ⟨_, l2norm_fs C hp ht hl, ?_⟩
  iterate 2 (all_goals try cbv; all_goals repeat' (first | with_reducible exact True.intro | with_reducible refine And.intro ?_ ?_ | intro _))
  all_goals try exact oH
  have e0 : A.lt 0 (A.cast (A.len p)) = decide (n ≠ 0) := by
    by_cases h : n = 0
    · have e2 := h3 h
      rw [decide_eq_false (by simpa using h)]
      (subst hA; subst_vars; simp only [AR.std, natCast_eq, sH, reduceCtorEq] at *; try simp (disch := omega) only [AR.std, natCast_eq, sH, reduceCtorEq] at *); omega
    · have e2 := h2 h
      rw [decide_eq_true h]
      (subst hA; subst_vars; simp only [AR.std, natCast_eq, sH, reduceCtorEq] at *; try simp (disch := omega) only [AR.std, natCast_eq, sH, reduceCtorEq] at *); omega
  have e : A.pick s (decide (n ≠ 0)) false = s' := by
    subst hA
    by_cases h : n = 0
    · rw [h0 h, decide_eq_false (by simpa using h)]; cases s <;> rfl
    · rw [h1 h, decide_eq_true h]; cases s <;> rfl
  simp only [e0, e]

end Tryd
end Go.Proofs
