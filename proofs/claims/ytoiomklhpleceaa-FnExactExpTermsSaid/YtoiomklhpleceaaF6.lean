/- Contracts of functions of the program (F6), each under the conditions that its own statement names. -/
import Derived.Test.YtoiomklhpleceaaSx
import Derived.Test.YtoiomklhpleceaaF1
import Derived.Test.YtoiomklhpleceaaF2
import Derived.Test.YtoiomklhpleceaaF3
import Derived.Test.YtoiomklhpleceaaF4
import Derived.Test.YtoiomklhpleceaaF5
namespace Go.Proofs
open Go Go.Pe Go.Dg
namespace Try
set_option linter.unusedSimpArgs false

set_option maxRecDepth 100000 in
theorem within_fs (n l h : Int) : FS Try.prog [] 21 [I n, I l, I h] (· = B (decide (l ≤ n) && decide (n ≤ h))) := by
  refine FS_ofT (args := fun A => [I n, I l, I h]) (R := fun A r => r = B (decide (l ≤ n) && decide (n ≤ h))) Try.hT Try.mix Try.func21 rfl rfl (Nat.le_of_ble_eq_true rfl) ?_
  generalize hP : Try.prog = P
  generalize hout : (decide (l ≤ n) && decide (n ≤ h)) = out
  intro A hA
  have hI : intsL = A.ints := by subst hA; rfl
  cbv
  repeat' (first | with_reducible exact True.intro | with_reducible refine And.intro ?_ ?_ | intro _)
  all_goals try cbv
  all_goals repeat' (first | with_reducible exact True.intro | with_reducible refine And.intro ?_ ?_ | intro _)
  all_goals try (subst hA; simp only [AR.std, ints_getI, ints_clen, ints_len, ints_take, ints_drop, ints_app1, ints_app, ints_nil, ints_nil_app, ints_one, ints_set, ints_rep, wrapi, beq_iff_eq, decide_eq_true_eq, Bool.cond_false_right, Bool.and_eq_true, Bool.and_eq_false_iff, beq_eq_false_iff_ne, decide_eq_false_iff_not, Int.toNat_natCast, Bool.cond_true_left, Bool.or_eq_true, Bool.or_eq_false_iff, bne_iff_ne, bne_eq_false_iff_eq, Bool.not_eq_true', Bool.not_eq_false', Int.tdiv_eq_ediv_of_nonneg, Int.tmod_eq_emod_of_nonneg, List.length_cons, List.length_nil, List.length_append, List.length_set, List.length_replicate, List.drop_zero, Int.toNat_zero, ne_eq, natCast_eq, Bool.not_true, Bool.not_false, Bool.true_eq_false, Bool.false_eq_true, reduceCtorEq, eq_self, not_true_eq_false, not_false_eq_true, or_self, or_false, false_or, or_true, true_or, and_self, and_true, true_and, and_false, false_and] at *; (try simp (disch := omega) only [AR.std, ints_getI, ints_clen, ints_len, ints_take, ints_drop, ints_app1, ints_app, ints_nil, ints_nil_app, ints_one, ints_set, ints_rep, wrapi, beq_iff_eq, decide_eq_true_eq, Bool.cond_false_right, Bool.and_eq_true, Bool.and_eq_false_iff, beq_eq_false_iff_ne, decide_eq_false_iff_not, Int.toNat_natCast, Bool.cond_true_left, Bool.or_eq_true, Bool.or_eq_false_iff, bne_iff_ne, bne_eq_false_iff_eq, Bool.not_eq_true', Bool.not_eq_false', Int.tdiv_eq_ediv_of_nonneg, Int.tmod_eq_emod_of_nonneg, List.length_cons, List.length_nil, List.length_append, List.length_set, List.length_replicate, List.drop_zero, Int.toNat_zero, ne_eq, natCast_eq, Bool.not_true, Bool.not_false, Bool.true_eq_false, Bool.false_eq_true, reduceCtorEq, eq_self, not_true_eq_false, not_false_eq_true, or_self, or_false, false_or, or_true, true_or, and_self, and_true, true_and, and_false, false_and] at *); first | done | omega | exact ints_ok _ | exact ints_all _ | (apply ints_part <;> first | omega | rfl))
  subst hA
  simp only [AR.std, ints_getI, ints_clen, ints_len, ints_take, ints_drop, ints_app1, ints_app, ints_nil, ints_nil_app, ints_one, ints_set, ints_rep, wrapi, beq_iff_eq, decide_eq_true_eq, Bool.cond_false_right, Bool.and_eq_true, Bool.and_eq_false_iff, beq_eq_false_iff_ne, decide_eq_false_iff_not, Int.toNat_natCast, Bool.cond_true_left, Bool.or_eq_true, Bool.or_eq_false_iff, bne_iff_ne, bne_eq_false_iff_eq, Bool.not_eq_true', Bool.not_eq_false', Int.tdiv_eq_ediv_of_nonneg, Int.tmod_eq_emod_of_nonneg, List.length_cons, List.length_nil, List.length_append, List.length_set, List.length_replicate, List.drop_zero, Int.toNat_zero, ne_eq, natCast_eq, Bool.not_true, Bool.not_false, Bool.true_eq_false, Bool.false_eq_true, reduceCtorEq, eq_self, not_true_eq_false, not_false_eq_true, or_self, or_false, false_or, or_true, true_or, and_self, and_true, true_and, and_false, false_and]
  rw [← hout]

set_option maxHeartbeats 1000000 in
set_option maxRecDepth 100000 in
theorem fact_fs (n : Int) (h0 : 0 ≤ n) (h1 : n ≤ 200) : FS Try.prog [] 23 [I n] (· = .lst (intsL (dg (fac n.toNat)))) := by
  refine FS_ofT (args := fun A => [I n]) (R := fun A r => r = .lst (A.ints (dg (fac n.toNat)))) Try.hT Try.mix Try.func23 rfl rfl (Nat.le_of_ble_eq_true rfl) ?_
  have hc0 := small_fs
  have hc1 := times_fs
  generalize hP : Try.prog = P
  rw [hP] at hc0 hc1
  generalize hout : dg (fac n.toNat) = out
  intro A hA
  have hI : intsL = A.ints := by subst hA; rfl
  cbv
  repeat' (first | with_reducible exact True.intro | with_reducible refine And.intro ?_ ?_ | intro _)
  have hc2 := hc0 1 (by omega) (by omega)
  rw [hI] at hc2
  generalize hone : dg (1 : Int).toNat = one at hc2
  refine .inl ⟨_, _, rfl, hc2, ?_⟩
  rintro _ rfl
  cbv
  repeat' (first | with_reducible exact True.intro | with_reducible refine And.intro ?_ ?_ | intro _)
  refine ⟨[], [0, 3, 4], 0, { p : Int × List Int // 2 ≤ p.1 ∧ p.1 ≤ max (n + 1) 2 ∧ p.2 = dg (fac (p.1 - 1).toNat) }, fun p => ⟨[(0, .pv (I n)), (3, .pv (.lst (A.ints p.1.2))), (4, .pv (I p.1.1))], [], 16, 0⟩, fun p => (n + 1 - p.1.1).toNat, ⟨(2, one), by simp only; omega, by simp only; omega, ?_⟩, rfl, ?_⟩
  · rw [← hone]; rfl
  rintro ⟨⟨k, o⟩, hk0, hk1, ho⟩
  simp only at hk0 hk1 ho
  cbv
  repeat' (first | with_reducible exact True.intro | with_reducible refine And.intro ?_ ?_ | intro _)
  all_goals try cbv
  all_goals repeat' (first | with_reducible exact True.intro | with_reducible refine And.intro ?_ ?_ | intro _)
  all_goals try (subst hA; simp only [AR.std, ints_getI, ints_clen, ints_len, ints_take, ints_drop, ints_app1, ints_app, ints_nil, ints_nil_app, ints_one, ints_set, ints_rep, wrapi, beq_iff_eq, decide_eq_true_eq, Bool.cond_false_right, Bool.and_eq_true, Bool.and_eq_false_iff, beq_eq_false_iff_ne, decide_eq_false_iff_not, Int.toNat_natCast, Bool.cond_true_left, Bool.or_eq_true, Bool.or_eq_false_iff, bne_iff_ne, bne_eq_false_iff_eq, Bool.not_eq_true', Bool.not_eq_false', Int.tdiv_eq_ediv_of_nonneg, Int.tmod_eq_emod_of_nonneg, List.length_cons, List.length_nil, List.length_append, List.length_set, List.length_replicate, List.drop_zero, Int.toNat_zero, ne_eq, natCast_eq, Bool.not_true, Bool.not_false, Bool.true_eq_false, Bool.false_eq_true, reduceCtorEq, eq_self, not_true_eq_false, not_false_eq_true, or_self, or_false, false_or, or_true, true_or, and_self, and_true, true_and, and_false, false_and] at *; (try simp (disch := omega) only [AR.std, ints_getI, ints_clen, ints_len, ints_take, ints_drop, ints_app1, ints_app, ints_nil, ints_nil_app, ints_one, ints_set, ints_rep, wrapi, beq_iff_eq, decide_eq_true_eq, Bool.cond_false_right, Bool.and_eq_true, Bool.and_eq_false_iff, beq_eq_false_iff_ne, decide_eq_false_iff_not, Int.toNat_natCast, Bool.cond_true_left, Bool.or_eq_true, Bool.or_eq_false_iff, bne_iff_ne, bne_eq_false_iff_eq, Bool.not_eq_true', Bool.not_eq_false', Int.tdiv_eq_ediv_of_nonneg, Int.tmod_eq_emod_of_nonneg, List.length_cons, List.length_nil, List.length_append, List.length_set, List.length_replicate, List.drop_zero, Int.toNat_zero, ne_eq, natCast_eq, Bool.not_true, Bool.not_false, Bool.true_eq_false, Bool.false_eq_true, reduceCtorEq, eq_self, not_true_eq_false, not_false_eq_true, or_self, or_false, false_or, or_true, true_or, and_self, and_true, true_and, and_false, false_and] at *); first | done | omega | exact ints_ok _ | exact ints_all _ | (apply ints_part <;> first | omega | rfl))
  · rename_i hh
    have hk : k ≤ n := by subst hA; simpa only [AR.std, ints_getI, ints_clen, ints_len, ints_take, ints_drop, ints_app1, ints_app, ints_nil, ints_nil_app, ints_one, ints_set, ints_rep, wrapi, beq_iff_eq, decide_eq_true_eq, Bool.cond_false_right, Bool.and_eq_true, Bool.and_eq_false_iff, beq_eq_false_iff_ne, decide_eq_false_iff_not, Int.toNat_natCast, Bool.cond_true_left, Bool.or_eq_true, Bool.or_eq_false_iff, bne_iff_ne, bne_eq_false_iff_eq, Bool.not_eq_true', Bool.not_eq_false', Int.tdiv_eq_ediv_of_nonneg, Int.tmod_eq_emod_of_nonneg, List.length_cons, List.length_nil, List.length_append, List.length_set, List.length_replicate, List.drop_zero, Int.toNat_zero, ne_eq, natCast_eq, Bool.not_true, Bool.not_false, Bool.true_eq_false, Bool.false_eq_true, reduceCtorEq, eq_self, not_true_eq_false, not_false_eq_true, or_self, or_false, false_or, or_true, true_or, and_self, and_true, true_and, and_false, false_and] using hh
    have hc3 := hc0 k (by omega) (by omega)
    rw [hI] at hc3
    generalize hd : dg k.toNat = d at hc3
    refine .inl ⟨_, _, rfl, hc3, ?_⟩
    rintro _ rfl
    cbv
    repeat' (first | with_reducible exact True.intro | with_reducible refine And.intro ?_ ?_ | intro _)
    have hl1 := fac_len (n := (k - 1).toNat) (by omega)
    have hl2 := dg_len k.toNat (by omega)
    have hc4 := hc1 o d (by rw [ho]; exact valid_dg _) (by rw [← hd]; exact valid_dg _) (by rw [ho, ← hd]; omega)
    rw [hI] at hc4
    have hv : dg (val o * val d).toNat = dg (fac k.toNat) := by
      rw [ho, ← hd, val_dg, val_dg]
      congr 1
      have e1 : k.toNat = (k - 1).toNat + 1 := by omega
      rw [e1]
      simp only [fac]
      rw [← Int.natCast_mul, Int.toNat_natCast, Nat.mul_comm]
    rw [hv] at hc4
    generalize he : dg (fac k.toNat) = e at hc4
    refine .inl ⟨_, _, rfl, hc4, ?_⟩
    rintro _ rfl
    cbv
    repeat' (first | with_reducible exact True.intro | with_reducible refine And.intro ?_ ?_ | intro _)
    subst hA
    simp only [AR.std, ints_getI, ints_clen, ints_len, ints_take, ints_drop, ints_app1, ints_app, ints_nil, ints_nil_app, ints_one, ints_set, ints_rep, wrapi, beq_iff_eq, decide_eq_true_eq, Bool.cond_false_right, Bool.and_eq_true, Bool.and_eq_false_iff, beq_eq_false_iff_ne, decide_eq_false_iff_not, Int.toNat_natCast, Bool.cond_true_left, Bool.or_eq_true, Bool.or_eq_false_iff, bne_iff_ne, bne_eq_false_iff_eq, Bool.not_eq_true', Bool.not_eq_false', Int.tdiv_eq_ediv_of_nonneg, Int.tmod_eq_emod_of_nonneg, List.length_cons, List.length_nil, List.length_append, List.length_set, List.length_replicate, List.drop_zero, Int.toNat_zero, ne_eq, natCast_eq, Bool.not_true, Bool.not_false, Bool.true_eq_false, Bool.false_eq_true, reduceCtorEq, eq_self, not_true_eq_false, not_false_eq_true, or_self, or_false, false_or, or_true, true_or, and_self, and_true, true_and, and_false, false_and] at *
    simp (disch := omega) only [AR.std, ints_getI, ints_clen, ints_len, ints_take, ints_drop, ints_app1, ints_app, ints_nil, ints_nil_app, ints_one, ints_set, ints_rep, wrapi, beq_iff_eq, decide_eq_true_eq, Bool.cond_false_right, Bool.and_eq_true, Bool.and_eq_false_iff, beq_eq_false_iff_ne, decide_eq_false_iff_not, Int.toNat_natCast, Bool.cond_true_left, Bool.or_eq_true, Bool.or_eq_false_iff, bne_iff_ne, bne_eq_false_iff_eq, Bool.not_eq_true', Bool.not_eq_false', Int.tdiv_eq_ediv_of_nonneg, Int.tmod_eq_emod_of_nonneg, List.length_cons, List.length_nil, List.length_append, List.length_set, List.length_replicate, List.drop_zero, Int.toNat_zero, ne_eq, natCast_eq, Bool.not_true, Bool.not_false, Bool.true_eq_false, Bool.false_eq_true, reduceCtorEq, eq_self, not_true_eq_false, not_false_eq_true, or_self, or_false, false_or, or_true, true_or, and_self, and_true, true_and, and_false, false_and] at *
    refine ⟨⟨(k + 1, e), ?_, ?_, ?_⟩, rfl, ?_⟩
    · simp only; omega
    · simp only; omega
    · simp only; rw [← he]; congr 2; omega
    · simp only; omega
  · rename_i hh
    subst hA
    simp only [AR.std, ints_getI, ints_clen, ints_len, ints_take, ints_drop, ints_app1, ints_app, ints_nil, ints_nil_app, ints_one, ints_set, ints_rep, wrapi, beq_iff_eq, decide_eq_true_eq, Bool.cond_false_right, Bool.and_eq_true, Bool.and_eq_false_iff, beq_eq_false_iff_ne, decide_eq_false_iff_not, Int.toNat_natCast, Bool.cond_true_left, Bool.or_eq_true, Bool.or_eq_false_iff, bne_iff_ne, bne_eq_false_iff_eq, Bool.not_eq_true', Bool.not_eq_false', Int.tdiv_eq_ediv_of_nonneg, Int.tmod_eq_emod_of_nonneg, List.length_cons, List.length_nil, List.length_append, List.length_set, List.length_replicate, List.drop_zero, Int.toNat_zero, ne_eq, natCast_eq, Bool.not_true, Bool.not_false, Bool.true_eq_false, Bool.false_eq_true, reduceCtorEq, eq_self, not_true_eq_false, not_false_eq_true, or_self, or_false, false_or, or_true, true_or, and_self, and_true, true_and, and_false, false_and] at *
    try simp (disch := omega) only [AR.std, ints_getI, ints_clen, ints_len, ints_take, ints_drop, ints_app1, ints_app, ints_nil, ints_nil_app, ints_one, ints_set, ints_rep, wrapi, beq_iff_eq, decide_eq_true_eq, Bool.cond_false_right, Bool.and_eq_true, Bool.and_eq_false_iff, beq_eq_false_iff_ne, decide_eq_false_iff_not, Int.toNat_natCast, Bool.cond_true_left, Bool.or_eq_true, Bool.or_eq_false_iff, bne_iff_ne, bne_eq_false_iff_eq, Bool.not_eq_true', Bool.not_eq_false', Int.tdiv_eq_ediv_of_nonneg, Int.tmod_eq_emod_of_nonneg, List.length_cons, List.length_nil, List.length_append, List.length_set, List.length_replicate, List.drop_zero, Int.toNat_zero, ne_eq, natCast_eq, Bool.not_true, Bool.not_false, Bool.true_eq_false, Bool.false_eq_true, reduceCtorEq, eq_self, not_true_eq_false, not_false_eq_true, or_self, or_false, false_or, or_true, true_or, and_self, and_true, true_and, and_false, false_and] at *
    congr 2
    rw [ho, ← hout]
    by_cases h2 : 2 ≤ n
    · congr 2; omega
    · have e1 : (k - 1).toNat = 1 := by omega
      rw [e1]
      rcases (by omega : n = 0 ∨ n = 1) with rfl | rfl <;> rfl
end Try
end Go.Proofs
