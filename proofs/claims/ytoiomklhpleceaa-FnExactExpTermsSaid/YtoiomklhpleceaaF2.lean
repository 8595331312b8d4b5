/- Contracts of functions of the program (F2), each under the conditions that its own statement names. -/
import Derived.Test.YtoiomklhpleceaaSx
namespace Go.Proofs
open Go Go.Pe Go.Dg
namespace Try
set_option linter.unusedSimpArgs false

set_option maxRecDepth 100000 in
theorem small_fs (n : Int) (h0 : n ≤ 9223372036854775807) (h1 : -9223372036854775808 ≤ n) : FS Try.prog [] 39 [I n] (· = .lst (intsL (dg n.toNat))) := by
  refine FS_ofT (args := fun A => [I n]) (R := fun A r => r = .lst (A.ints (dg n.toNat))) Try.hT Try.mix Try.func39 rfl rfl (Nat.le_of_ble_eq_true rfl) ?_
  generalize hP : Try.prog = P
  generalize hout : dg n.toNat = out
  intro A hA
  cbv
  refine ⟨[.slot 3 3 1], [0, 3], 1, { l : Int × List Int // l.2 ++ dg l.1.toNat = out ∧ -9223372036854775808 ≤ l.1 ∧ l.1 ≤ n ∧ l.2.length + (dg l.1.toNat).length ≤ 100 }, fun l => ⟨[(0, .pv (I l.1.1)), (3, .own 0)], [.row 3 1 (A.ints l.1.2)], 14, 0⟩, fun l => l.1.1.toNat, ⟨(n, []), hout, h1, Int.le_refl _, ?_⟩, ?_, ?_⟩
  · have := dg_len n.toNat (by omega)
    simp only [List.length_nil]; omega
  · subst hA; rfl
  rintro ⟨⟨n', l⟩, hl, hn0, hn1, hlen⟩
  cbv
  repeat' (first | with_reducible exact True.intro | with_reducible refine And.intro ?_ ?_ | intro _)
  all_goals try cbv
  all_goals repeat' (first | with_reducible exact True.intro | with_reducible refine And.intro ?_ ?_ | intro _)
  all_goals subst hA
  all_goals simp only [AR.std, ints_getI, ints_clen, ints_len, ints_take, ints_drop, ints_app1, ints_app, ints_nil, ints_nil_app, ints_one, ints_set, ints_rep, wrapi, beq_iff_eq, decide_eq_true_eq, Bool.cond_false_right, Bool.and_eq_true, Bool.and_eq_false_iff, beq_eq_false_iff_ne, decide_eq_false_iff_not, Int.toNat_natCast, Bool.cond_true_left, Bool.or_eq_true, Bool.or_eq_false_iff, bne_iff_ne, bne_eq_false_iff_eq, Bool.not_eq_true', Bool.not_eq_false', Int.tdiv_eq_ediv_of_nonneg, Int.tmod_eq_emod_of_nonneg, List.length_cons, List.length_nil, List.length_append, List.length_set, List.length_replicate, List.drop_zero, Int.toNat_zero, ne_eq, natCast_eq, Bool.not_true, Bool.not_false, Bool.true_eq_false, Bool.false_eq_true, reduceCtorEq, eq_self, not_true_eq_false, not_false_eq_true, or_self, or_false, false_or, or_true, true_or, and_self, and_true, true_and, and_false, false_and] at *
  all_goals try simp (disch := omega) only [AR.std, ints_getI, ints_clen, ints_len, ints_take, ints_drop, ints_app1, ints_app, ints_nil, ints_nil_app, ints_one, ints_set, ints_rep, wrapi, beq_iff_eq, decide_eq_true_eq, Bool.cond_false_right, Bool.and_eq_true, Bool.and_eq_false_iff, beq_eq_false_iff_ne, decide_eq_false_iff_not, Int.toNat_natCast, Bool.cond_true_left, Bool.or_eq_true, Bool.or_eq_false_iff, bne_iff_ne, bne_eq_false_iff_eq, Bool.not_eq_true', Bool.not_eq_false', Int.tdiv_eq_ediv_of_nonneg, Int.tmod_eq_emod_of_nonneg, List.length_cons, List.length_nil, List.length_append, List.length_set, List.length_replicate, List.drop_zero, Int.toNat_zero, ne_eq, natCast_eq, Bool.not_true, Bool.not_false, Bool.true_eq_false, Bool.false_eq_true, reduceCtorEq, eq_self, not_true_eq_false, not_false_eq_true, or_self, or_false, false_or, or_true, true_or, and_self, and_true, true_and, and_false, false_and] at *
  all_goals first | omega | exact ints_ok _ | exact ints_all _ | skip
  · refine ⟨⟨(n' / 65536, l ++ [n' % 65536]), ?_, ?_, ?_, ?_⟩, rfl, ?_⟩
    · rw [← hl, List.append_assoc]
      congr 1
      have e0 : n'.toNat ≠ 0 := by omega
      rw [dg_pos e0]
      have e1 : (n' / 65536).toNat = n'.toNat / 65536 := by omega
      have e2 : ((n'.toNat % 65536 : Nat) : Int) = n' % 65536 := by omega
      simp only [e1, e2, List.singleton_append]
    · simp only; omega
    · simp only; omega
    · have e0 : n'.toNat ≠ 0 := by omega
      rw [dg_pos e0] at hlen
      have e1 : (n' / 65536).toNat = n'.toNat / 65536 := by omega
      simp only [e1, List.length_append, List.length_cons, List.length_nil] at hlen ⊢
      omega
    · simp only; omega
  · have e0 : n'.toNat = 0 := by omega
    rw [e0, dg_zero, List.append_nil] at hl
    rw [hl]
end Try
end Go.Proofs
