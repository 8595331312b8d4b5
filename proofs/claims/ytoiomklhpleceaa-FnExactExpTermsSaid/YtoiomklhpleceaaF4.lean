/- Contracts of functions of the program (F4), each under the conditions that its own statement names. -/
import Derived.Test.YtoiomklhpleceaaSx
import Derived.Test.YtoiomklhpleceaaF1
import Derived.Test.YtoiomklhpleceaaF2
import Derived.Test.YtoiomklhpleceaaF3
namespace Go.Proofs
open Go Go.Pe Go.Dg
namespace Try
set_option linter.unusedSimpArgs false

set_option maxHeartbeats 1000000 in
set_option maxRecDepth 100000 in
theorem l2norm_fs (els : List Int) (he : els.length ≤ 1000000000) : FS Try.prog [] 48 [.lst (intsL els)] (· = .agg [.lst (intsL (trimL els))]) := by
  refine FS_ofT (args := fun A => [.lst (A.ints els)]) (R := fun A r => r = .agg [.lst (A.ints (trimL els))]) Try.hT Try.mix Try.func48 rfl rfl (Nat.le_of_ble_eq_true rfl) ?_
  generalize hP : Try.prog = P
  generalize hout : trimL els = out
  intro A hA
  cbv
  repeat' (first | with_reducible exact True.intro | with_reducible refine And.intro ?_ ?_ | intro _)
  refine ⟨[], [0, 2, 3], 1, { n : Int // 0 ≤ n ∧ n ≤ els.length ∧ trimL (els.take n.toNat) = out }, fun n => ⟨[(0, .pv (.lst (A.ints els))), (2, .box 0 0), (3, .pv (I n.1))], [.box [.pv (.val (.slice none 0 0))]], 24, 0⟩, fun n => n.1.toNat, ⟨(els.length : Int), by omega, Int.le_refl _, ?_⟩, ?_, ?_⟩
  · rw [← hout]; simp
  · subst hA; simp only [AR.std, ints_getI, ints_clen, ints_len, ints_take, ints_drop, ints_app1, ints_app, ints_nil, ints_nil_app, ints_one, ints_set, ints_rep, wrapi, beq_iff_eq, decide_eq_true_eq, Bool.cond_false_right, Bool.and_eq_true, Bool.and_eq_false_iff, beq_eq_false_iff_ne, decide_eq_false_iff_not, Int.toNat_natCast, Bool.cond_true_left, Bool.or_eq_true, Bool.or_eq_false_iff, bne_iff_ne, bne_eq_false_iff_eq, Bool.not_eq_true', Bool.not_eq_false', Int.tdiv_eq_ediv_of_nonneg, Int.tmod_eq_emod_of_nonneg, List.length_cons, List.length_nil, List.length_append, List.length_set, List.length_replicate, List.drop_zero, Int.toNat_zero, ne_eq, natCast_eq, Bool.not_true, Bool.not_false, Bool.true_eq_false, Bool.false_eq_true, reduceCtorEq, eq_self, not_true_eq_false, not_false_eq_true, or_self, or_false, false_or, or_true, true_or, and_self, and_true, true_and, and_false, false_and]; rfl
  rintro ⟨n, hn0, hn1, hn2⟩
  cbv
  repeat' (first | with_reducible exact True.intro | with_reducible refine And.intro ?_ ?_ | intro _)
  all_goals try cbv
  all_goals repeat' (first | with_reducible exact True.intro | with_reducible refine And.intro ?_ ?_ | intro _)
  all_goals try (subst hA; simp only [AR.std, ints_getI, ints_clen, ints_len, ints_take, ints_drop, ints_app1, ints_app, ints_nil, ints_nil_app, ints_one, ints_set, ints_rep, wrapi, beq_iff_eq, decide_eq_true_eq, Bool.cond_false_right, Bool.and_eq_true, Bool.and_eq_false_iff, beq_eq_false_iff_ne, decide_eq_false_iff_not, Int.toNat_natCast, Bool.cond_true_left, Bool.or_eq_true, Bool.or_eq_false_iff, bne_iff_ne, bne_eq_false_iff_eq, Bool.not_eq_true', Bool.not_eq_false', Int.tdiv_eq_ediv_of_nonneg, Int.tmod_eq_emod_of_nonneg, List.length_cons, List.length_nil, List.length_append, List.length_set, List.length_replicate, List.drop_zero, Int.toNat_zero, ne_eq, natCast_eq, Bool.not_true, Bool.not_false, Bool.true_eq_false, Bool.false_eq_true, reduceCtorEq, eq_self, not_true_eq_false, not_false_eq_true, or_self, or_false, false_or, or_true, true_or, and_self, and_true, true_and, and_false, false_and] at *; (try simp (disch := omega) only [AR.std, ints_getI, ints_clen, ints_len, ints_take, ints_drop, ints_app1, ints_app, ints_nil, ints_nil_app, ints_one, ints_set, ints_rep, wrapi, beq_iff_eq, decide_eq_true_eq, Bool.cond_false_right, Bool.and_eq_true, Bool.and_eq_false_iff, beq_eq_false_iff_ne, decide_eq_false_iff_not, Int.toNat_natCast, Bool.cond_true_left, Bool.or_eq_true, Bool.or_eq_false_iff, bne_iff_ne, bne_eq_false_iff_eq, Bool.not_eq_true', Bool.not_eq_false', Int.tdiv_eq_ediv_of_nonneg, Int.tmod_eq_emod_of_nonneg, List.length_cons, List.length_nil, List.length_append, List.length_set, List.length_replicate, List.drop_zero, Int.toNat_zero, ne_eq, natCast_eq, Bool.not_true, Bool.not_false, Bool.true_eq_false, Bool.false_eq_true, reduceCtorEq, eq_self, not_true_eq_false, not_false_eq_true, or_self, or_false, false_or, or_true, true_or, and_self, and_true, true_and, and_false, false_and] at *); first | done | omega | exact ints_ok _ | exact ints_all _ | (apply ints_part <;> first | omega | rfl))
  · rename_i hh
    subst hA
    simp only [AR.std, ints_getI, ints_clen, ints_len, ints_take, ints_drop, ints_app1, ints_app, ints_nil, ints_nil_app, ints_one, ints_set, ints_rep, wrapi, beq_iff_eq, decide_eq_true_eq, Bool.cond_false_right, Bool.and_eq_true, Bool.and_eq_false_iff, beq_eq_false_iff_ne, decide_eq_false_iff_not, Int.toNat_natCast, Bool.cond_true_left, Bool.or_eq_true, Bool.or_eq_false_iff, bne_iff_ne, bne_eq_false_iff_eq, Bool.not_eq_true', Bool.not_eq_false', Int.tdiv_eq_ediv_of_nonneg, Int.tmod_eq_emod_of_nonneg, List.length_cons, List.length_nil, List.length_append, List.length_set, List.length_replicate, List.drop_zero, Int.toNat_zero, ne_eq, natCast_eq, Bool.not_true, Bool.not_false, Bool.true_eq_false, Bool.false_eq_true, reduceCtorEq, eq_self, not_true_eq_false, not_false_eq_true, or_self, or_false, false_or, or_true, true_or, and_self, and_true, true_and, and_false, false_and] at *
    simp (disch := omega) only [AR.std, ints_getI, ints_clen, ints_len, ints_take, ints_drop, ints_app1, ints_app, ints_nil, ints_nil_app, ints_one, ints_set, ints_rep, wrapi, beq_iff_eq, decide_eq_true_eq, Bool.cond_false_right, Bool.and_eq_true, Bool.and_eq_false_iff, beq_eq_false_iff_ne, decide_eq_false_iff_not, Int.toNat_natCast, Bool.cond_true_left, Bool.or_eq_true, Bool.or_eq_false_iff, bne_iff_ne, bne_eq_false_iff_eq, Bool.not_eq_true', Bool.not_eq_false', Int.tdiv_eq_ediv_of_nonneg, Int.tmod_eq_emod_of_nonneg, List.length_cons, List.length_nil, List.length_append, List.length_set, List.length_replicate, List.drop_zero, Int.toNat_zero, ne_eq, natCast_eq, Bool.not_true, Bool.not_false, Bool.true_eq_false, Bool.false_eq_true, reduceCtorEq, eq_self, not_true_eq_false, not_false_eq_true, or_self, or_false, false_or, or_true, true_or, and_self, and_true, true_and, and_false, false_and] at *
    refine ⟨⟨n - 1, by omega, by omega, ?_⟩, rfl, by simp only; omega⟩
    have e1 : (n - 1).toNat = n.toNat - 1 := by omega
    have hw : IntKind.i64.wrap (n - 1) = n - 1 := wrapi (by omega) (by omega)
    rw [hw, e1] at hh
    rw [e1]
    rw [← hn2, ← trimL_take (l := els.take n.toNat)]
    · rw [List.length_take, Nat.min_eq_left (by omega), List.take_take, Nat.min_eq_left (by omega)]
    · rw [List.length_take]; omega
    · rw [List.length_take, Nat.min_eq_left (by omega)]
      rw [List.getD, List.getElem?_take, if_pos (by omega)]
      exact hh.2
  · subst hA; intro p hp; simp at hp
  · subst hA; simp only [AR.std, ints_getI, ints_clen, ints_len, ints_take, ints_drop, ints_app1, ints_app, ints_nil, ints_nil_app, ints_one, ints_set, ints_rep, wrapi, beq_iff_eq, decide_eq_true_eq, Bool.cond_false_right, Bool.and_eq_true, Bool.and_eq_false_iff, beq_eq_false_iff_ne, decide_eq_false_iff_not, Int.toNat_natCast, Bool.cond_true_left, Bool.or_eq_true, Bool.or_eq_false_iff, bne_iff_ne, bne_eq_false_iff_eq, Bool.not_eq_true', Bool.not_eq_false', Int.tdiv_eq_ediv_of_nonneg, Int.tmod_eq_emod_of_nonneg, List.length_cons, List.length_nil, List.length_append, List.length_set, List.length_replicate, List.drop_zero, Int.toNat_zero, ne_eq, natCast_eq, Bool.not_true, Bool.not_false, Bool.true_eq_false, Bool.false_eq_true, reduceCtorEq, eq_self, not_true_eq_false, not_false_eq_true, or_self, or_false, false_or, or_true, true_or, and_self, and_true, true_and, and_false, false_and] at *; simp only [List.length_take]; omega
  · rename_i hh
    subst hA
    simp only [AR.std, ints_getI, ints_clen, ints_len, ints_take, ints_drop, ints_app1, ints_app, ints_nil, ints_nil_app, ints_one, ints_set, ints_rep, wrapi, beq_iff_eq, decide_eq_true_eq, Bool.cond_false_right, Bool.and_eq_true, Bool.and_eq_false_iff, beq_eq_false_iff_ne, decide_eq_false_iff_not, Int.toNat_natCast, Bool.cond_true_left, Bool.or_eq_true, Bool.or_eq_false_iff, bne_iff_ne, bne_eq_false_iff_eq, Bool.not_eq_true', Bool.not_eq_false', Int.tdiv_eq_ediv_of_nonneg, Int.tmod_eq_emod_of_nonneg, List.length_cons, List.length_nil, List.length_append, List.length_set, List.length_replicate, List.drop_zero, Int.toNat_zero, ne_eq, natCast_eq, Bool.not_true, Bool.not_false, Bool.true_eq_false, Bool.false_eq_true, reduceCtorEq, eq_self, not_true_eq_false, not_false_eq_true, or_self, or_false, false_or, or_true, true_or, and_self, and_true, true_and, and_false, false_and] at *
    have hw : IntKind.i64.wrap (n - 1) = n - 1 := wrapi (by omega) (by omega)
    rw [hw] at hh
    have e1 : (n - 1).toNat = n.toNat - 1 := by omega
    rw [e1] at hh
    congr 4
    rw [← hn2]
    rcases hh with hh | hh
    · have e0 : n.toNat = 0 := by omega
      rw [e0]; rfl
    · by_cases h0 : n.toNat = 0
      · rw [h0]; rfl
      · refine (trimL_last (l := els.take n.toNat) (by rw [List.length_take]; omega) ?_).symm
        rw [List.length_take, Nat.min_eq_left (by omega)]
        rw [List.getD, List.getElem?_take, if_pos (by omega)]
        exact hh
end Try
end Go.Proofs
