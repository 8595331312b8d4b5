/- Contracts of functions of the program (F1), each under the conditions that its own statement names. -/
import Derived.Test.YtoiomklhpleceaaSx
namespace Go.Proofs
open Go Go.Pe Go.Dg
namespace Try

set_option maxRecDepth 100000 in
theorem trim_fs (els : List Int) (he : els.length ≤ 2000000000) : FS Try.prog [] 44 [.lst (intsL els)] (· = .lst (intsL (trimL els))) := by
  refine FS_ofT (args := fun A => [.lst (A.ints els)]) (R := fun A r => r = .lst (A.ints (trimL els))) Try.hT Try.mix Try.func44 rfl rfl (Nat.le_of_ble_eq_true rfl) ?_
  generalize hP : Try.prog = P
  generalize hout : trimL els = out
  intro A hA
  cbv
  refine ⟨[], [0], 0, { l : List Int // trimL l = out ∧ l.length ≤ els.length}, fun l => ⟨[(0, .pv (.lst (A.ints l.1)))], [], 21, 0⟩, fun l => l.1.length, ⟨els, hout, Nat.le_refl _⟩, rfl, ?_⟩
  rintro ⟨l, hl, hll⟩
  cbv
  repeat' (first | exact True.intro | refine And.intro ?_ ?_ | intro _)
  all_goals try cbv
  all_goals repeat' (first | exact True.intro | refine And.intro ?_ ?_ | intro _)
  all_goals subst hA
  all_goals simp (disch := omega) only [AR.std, ints_getI, ints_clen, ints_len, ints_take, ints_drop, wrapi, beq_iff_eq, decide_eq_true_eq, Bool.cond_false_right, Bool.and_eq_true, Bool.and_eq_false_iff, beq_eq_false_iff_ne, decide_eq_false_iff_not] at *
  all_goals try omega
  · exact ints_part l _ _ (by omega) rfl
  · exact ints_all l
  · rename_i hz
    have e1 : ((l.length : Int) - 1).toNat = l.length - 1 := by omega
    rw [e1] at hz ⊢
    refine ⟨⟨_, ?_, ?_⟩, rfl, ?_⟩
    · show trimL (List.drop 0 (List.take _ l)) = out
      rw [List.drop_zero, trimL_take (by omega) hz.2]; exact hl
    · simp; omega
    · simp; omega
  · rename_i hz
    congr 2
    rw [← hl]
    rcases hz with hz | hz
    · exact (trimL_len0 (by omega)).symm
    · by_cases h0 : l.length = 0
      · exact (trimL_len0 h0).symm
      · have e1 : ((l.length : Int) - 1).toNat = l.length - 1 := by omega
        rw [e1] at hz
        exact (trimL_last (by omega) hz).symm
end Try
end Go.Proofs
