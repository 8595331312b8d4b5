/- Contracts of functions of the program (F7), each under the conditions that its own statement names. -/
import Derived.Test.YtoiomklhpleceaaSx
import Derived.Test.YtoiomklhpleceaaF1
import Derived.Test.YtoiomklhpleceaaF2
import Derived.Test.YtoiomklhpleceaaF3
import Derived.Test.YtoiomklhpleceaaF4
import Derived.Test.YtoiomklhpleceaaF5
import Derived.Test.YtoiomklhpleceaaF6
namespace Go.Proofs
open Go Go.Pe Go.Dg
namespace Try
set_option linter.unusedSimpArgs false

set_option maxHeartbeats 1000000 in
set_option maxRecDepth 100000 in
theorem l11fact_fs (n : Int) (h0 : 0 ≤ n) (h1 : n ≤ 200) : FS Try.prog [] 20 [I n] (· = .agg [.lst (intsL (dg (fac n.toNat)))]) := by
  refine FS_ofT (args := fun A => [I n]) (R := fun A r => r = .agg [.lst (A.ints (dg (fac n.toNat)))]) Try.hT Try.mix Try.func20 rfl rfl (Nat.le_of_ble_eq_true rfl) ?_
  have hc0 := l2of_fs
  have hc1 := l2mul_fs
  generalize hP : Try.prog = P
  rw [hP] at hc0 hc1
  generalize hout : dg (fac n.toNat) = out
  intro A hA
  have hI : intsL = A.ints := by subst hA; rfl
  cbv
  repeat' (first | with_reducible exact True.intro | with_reducible refine And.intro ?_ ?_ | intro _)
  have hc2 := hc0 1 (by omega) (by omega)
  rw [hI] at hc2
  generalize hone : dg (1 : Int).toNat = one at hc2
  refine .inl ⟨_, _, rfl, hc2, ?_⟩
  rintro _ rfl
  cbv
  repeat' (first | with_reducible exact True.intro | with_reducible refine And.intro ?_ ?_ | intro _)
  refine ⟨[], [0, 2, 3, 4], 2, { p : Int × List Int // 2 ≤ p.1 ∧ p.1 ≤ max (n + 1) 2 ∧ p.2 = dg (fac (p.1 - 1).toNat) }, fun p => ⟨[(0, .pv (I n)), (2, .box 0 0), (3, .box 1 0), (4, .pv (I p.1.1))], [.box [.pv (.val (.slice none 0 0))], .box [.pv (.lst (A.ints p.1.2))]], 16, 0⟩, fun p => (n + 1 - p.1.1).toNat, ⟨(2, one), by simp only; omega, by simp only; omega, ?_⟩, rfl, ?_⟩
  · rw [← hone]; rfl
  rintro ⟨⟨k, o⟩, hk0, hk1, ho⟩
  simp only at hk0 hk1 ho
  cbv
  repeat' (first | with_reducible exact True.intro | with_reducible refine And.intro ?_ ?_ | intro _)
  all_goals try cbv
  all_goals repeat' (first | with_reducible exact True.intro | with_reducible refine And.intro ?_ ?_ | intro _)
  all_goals try (subst hA; simp only [AR.std, ints_getI, ints_clen, ints_len, ints_take, ints_drop, ints_app1, ints_app, ints_nil, ints_nil_app, ints_one, ints_set, ints_rep, wrapi, beq_iff_eq, decide_eq_true_eq, Bool.cond_false_right, Bool.and_eq_true, Bool.and_eq_false_iff, beq_eq_false_iff_ne, decide_eq_false_iff_not, Int.toNat_natCast, Bool.cond_true_left, Bool.or_eq_true, Bool.or_eq_false_iff, bne_iff_ne, bne_eq_false_iff_eq, Bool.not_eq_true', Bool.not_eq_false', Int.tdiv_eq_ediv_of_nonneg, Int.tmod_eq_emod_of_nonneg, List.length_cons, List.length_nil, List.length_append, List.length_set, List.length_replicate, List.drop_zero, Int.toNat_zero, ne_eq, natCast_eq, Bool.not_true, Bool.not_false, Bool.true_eq_false, Bool.false_eq_true, reduceCtorEq, eq_self, not_true_eq_false, not_false_eq_true, or_self, or_false, false_or, or_true, true_or, and_self, and_true, true_and, and_false, false_and] at *; (try simp (disch := omega) only [AR.std, ints_getI, ints_clen, ints_len, ints_take, ints_drop, ints_app1, ints_app, ints_nil, ints_nil_app, ints_one, ints_set, ints_rep, wrapi, beq_iff_eq, decide_eq_true_eq, Bool.cond_false_right, Bool.and_eq_true, Bool.and_eq_false_iff, beq_eq_false_iff_ne, decide_eq_false_iff_not, Int.toNat_natCast, Bool.cond_true_left, Bool.or_eq_true, Bool.or_eq_false_iff, bne_iff_ne, bne_eq_false_iff_eq, Bool.not_eq_true', Bool.not_eq_false', Int.tdiv_eq_ediv_of_nonneg, Int.tmod_eq_emod_of_nonneg, List.length_cons, List.length_nil, List.length_append, List.length_set, List.length_replicate, List.drop_zero, Int.toNat_zero, ne_eq, natCast_eq, Bool.not_true, Bool.not_false, Bool.true_eq_false, Bool.false_eq_true, reduceCtorEq, eq_self, not_true_eq_false, not_false_eq_true, or_self, or_false, false_or, or_true, true_or, and_self, and_true, true_and, and_false, false_and] at *); first | done | omega | exact ints_ok _ | exact ints_all _ | (apply ints_part <;> first | omega | rfl))
  · rename_i hh
    have hk : k ≤ n := by subst hA; simpa only [AR.std, ints_getI, ints_clen, ints_len, ints_take, ints_drop, ints_app1, ints_app, ints_nil, ints_nil_app, ints_one, ints_set, ints_rep, wrapi, beq_iff_eq, decide_eq_true_eq, Bool.cond_false_right, Bool.and_eq_true, Bool.and_eq_false_iff, beq_eq_false_iff_ne, decide_eq_false_iff_not, Int.toNat_natCast, Bool.cond_true_left, Bool.or_eq_true, Bool.or_eq_false_iff, bne_iff_ne, bne_eq_false_iff_eq, Bool.not_eq_true', Bool.not_eq_false', Int.tdiv_eq_ediv_of_nonneg, Int.tmod_eq_emod_of_nonneg, List.length_cons, List.length_nil, List.length_append, List.length_set, List.length_replicate, List.drop_zero, Int.toNat_zero, ne_eq, natCast_eq, Bool.not_true, Bool.not_false, Bool.true_eq_false, Bool.false_eq_true, reduceCtorEq, eq_self, not_true_eq_false, not_false_eq_true, or_self, or_false, false_or, or_true, true_or, and_self, and_true, true_and, and_false, false_and] using hh
    have hc3 := hc0 k (by omega) (by omega)
    rw [hI] at hc3
    generalize hd : dg k.toNat = d at hc3
    first | (refine .inl ⟨_, _, rfl, hc3, ?_⟩; rintro _ rfl) | refine ⟨_, hc3, ?_⟩
    cbv
    repeat' (first | with_reducible exact True.intro | with_reducible refine And.intro ?_ ?_ | intro _)
    have hl1 := fac_len (n := (k - 1).toNat) (by omega)
    have hl2 := dg_len k.toNat (by omega)
    have hc4 := hc1 o d (by rw [ho]; exact valid_dg _) (by rw [← hd]; exact valid_dg _) (by rw [ho, ← hd]; omega)
    rw [hI] at hc4
    have hv : dg (val o * val d).toNat = dg (fac k.toNat) := by
      rw [ho, ← hd, val_dg, val_dg]
      congr 1
      have e1 : k.toNat = (k - 1).toNat + 1 := by omega
      rw [e1]
      simp only [fac]
      rw [← Int.natCast_mul, Int.toNat_natCast, Nat.mul_comm]
    rw [hv] at hc4
    generalize he : dg (fac k.toNat) = e at hc4
    first | (refine .inl ⟨_, _, rfl, hc4, ?_⟩; rintro _ rfl) | refine ⟨_, hc4, ?_⟩
    cbv
    repeat' (first | with_reducible exact True.intro | with_reducible refine And.intro ?_ ?_ | intro _)
    all_goals try (subst hA; simp only [AR.std, ints_getI, ints_clen, ints_len, ints_take, ints_drop, ints_app1, ints_app, ints_nil, ints_nil_app, ints_one, ints_set, ints_rep, wrapi, beq_iff_eq, decide_eq_true_eq, Bool.cond_false_right, Bool.and_eq_true, Bool.and_eq_false_iff, beq_eq_false_iff_ne, decide_eq_false_iff_not, Int.toNat_natCast, Bool.cond_true_left, Bool.or_eq_true, Bool.or_eq_false_iff, bne_iff_ne, bne_eq_false_iff_eq, Bool.not_eq_true', Bool.not_eq_false', Int.tdiv_eq_ediv_of_nonneg, Int.tmod_eq_emod_of_nonneg, List.length_cons, List.length_nil, List.length_append, List.length_set, List.length_replicate, List.drop_zero, Int.toNat_zero, ne_eq, natCast_eq, Bool.not_true, Bool.not_false, Bool.true_eq_false, Bool.false_eq_true, reduceCtorEq, eq_self, not_true_eq_false, not_false_eq_true, or_self, or_false, false_or, or_true, true_or, and_self, and_true, true_and, and_false, false_and] at *; (try simp (disch := omega) only [AR.std, ints_getI, ints_clen, ints_len, ints_take, ints_drop, ints_app1, ints_app, ints_nil, ints_nil_app, ints_one, ints_set, ints_rep, wrapi, beq_iff_eq, decide_eq_true_eq, Bool.cond_false_right, Bool.and_eq_true, Bool.and_eq_false_iff, beq_eq_false_iff_ne, decide_eq_false_iff_not, Int.toNat_natCast, Bool.cond_true_left, Bool.or_eq_true, Bool.or_eq_false_iff, bne_iff_ne, bne_eq_false_iff_eq, Bool.not_eq_true', Bool.not_eq_false', Int.tdiv_eq_ediv_of_nonneg, Int.tmod_eq_emod_of_nonneg, List.length_cons, List.length_nil, List.length_append, List.length_set, List.length_replicate, List.drop_zero, Int.toNat_zero, ne_eq, natCast_eq, Bool.not_true, Bool.not_false, Bool.true_eq_false, Bool.false_eq_true, reduceCtorEq, eq_self, not_true_eq_false, not_false_eq_true, or_self, or_false, false_or, or_true, true_or, and_self, and_true, true_and, and_false, false_and] at *); first | done | omega | exact ints_ok _ | exact ints_all _ | (apply ints_part <;> first | omega | rfl))
    subst hA
    simp only [AR.std, ints_getI, ints_clen, ints_len, ints_take, ints_drop, ints_app1, ints_app, ints_nil, ints_nil_app, ints_one, ints_set, ints_rep, wrapi, beq_iff_eq, decide_eq_true_eq, Bool.cond_false_right, Bool.and_eq_true, Bool.and_eq_false_iff, beq_eq_false_iff_ne, decide_eq_false_iff_not, Int.toNat_natCast, Bool.cond_true_left, Bool.or_eq_true, Bool.or_eq_false_iff, bne_iff_ne, bne_eq_false_iff_eq, Bool.not_eq_true', Bool.not_eq_false', Int.tdiv_eq_ediv_of_nonneg, Int.tmod_eq_emod_of_nonneg, List.length_cons, List.length_nil, List.length_append, List.length_set, List.length_replicate, List.drop_zero, Int.toNat_zero, ne_eq, natCast_eq, Bool.not_true, Bool.not_false, Bool.true_eq_false, Bool.false_eq_true, reduceCtorEq, eq_self, not_true_eq_false, not_false_eq_true, or_self, or_false, false_or, or_true, true_or, and_self, and_true, true_and, and_false, false_and] at *
    simp (disch := omega) only [AR.std, ints_getI, ints_clen, ints_len, ints_take, ints_drop, ints_app1, ints_app, ints_nil, ints_nil_app, ints_one, ints_set, ints_rep, wrapi, beq_iff_eq, decide_eq_true_eq, Bool.cond_false_right, Bool.and_eq_true, Bool.and_eq_false_iff, beq_eq_false_iff_ne, decide_eq_false_iff_not, Int.toNat_natCast, Bool.cond_true_left, Bool.or_eq_true, Bool.or_eq_false_iff, bne_iff_ne, bne_eq_false_iff_eq, Bool.not_eq_true', Bool.not_eq_false', Int.tdiv_eq_ediv_of_nonneg, Int.tmod_eq_emod_of_nonneg, List.length_cons, List.length_nil, List.length_append, List.length_set, List.length_replicate, List.drop_zero, Int.toNat_zero, ne_eq, natCast_eq, Bool.not_true, Bool.not_false, Bool.true_eq_false, Bool.false_eq_true, reduceCtorEq, eq_self, not_true_eq_false, not_false_eq_true, or_self, or_false, false_or, or_true, true_or, and_self, and_true, true_and, and_false, false_and] at *
    refine ⟨⟨(k + 1, e), ?_, ?_, ?_⟩, rfl, ?_⟩
    · simp only; omega
    · simp only; omega
    · simp only; rw [← he]; congr 2; omega
    · simp only; omega
  · rename_i hh
    subst hA
    simp only [AR.std, ints_getI, ints_clen, ints_len, ints_take, ints_drop, ints_app1, ints_app, ints_nil, ints_nil_app, ints_one, ints_set, ints_rep, wrapi, beq_iff_eq, decide_eq_true_eq, Bool.cond_false_right, Bool.and_eq_true, Bool.and_eq_false_iff, beq_eq_false_iff_ne, decide_eq_false_iff_not, Int.toNat_natCast, Bool.cond_true_left, Bool.or_eq_true, Bool.or_eq_false_iff, bne_iff_ne, bne_eq_false_iff_eq, Bool.not_eq_true', Bool.not_eq_false', Int.tdiv_eq_ediv_of_nonneg, Int.tmod_eq_emod_of_nonneg, List.length_cons, List.length_nil, List.length_append, List.length_set, List.length_replicate, List.drop_zero, Int.toNat_zero, ne_eq, natCast_eq, Bool.not_true, Bool.not_false, Bool.true_eq_false, Bool.false_eq_true, reduceCtorEq, eq_self, not_true_eq_false, not_false_eq_true, or_self, or_false, false_or, or_true, true_or, and_self, and_true, true_and, and_false, false_and] at *
    try simp (disch := omega) only [AR.std, ints_getI, ints_clen, ints_len, ints_take, ints_drop, ints_app1, ints_app, ints_nil, ints_nil_app, ints_one, ints_set, ints_rep, wrapi, beq_iff_eq, decide_eq_true_eq, Bool.cond_false_right, Bool.and_eq_true, Bool.and_eq_false_iff, beq_eq_false_iff_ne, decide_eq_false_iff_not, Int.toNat_natCast, Bool.cond_true_left, Bool.or_eq_true, Bool.or_eq_false_iff, bne_iff_ne, bne_eq_false_iff_eq, Bool.not_eq_true', Bool.not_eq_false', Int.tdiv_eq_ediv_of_nonneg, Int.tmod_eq_emod_of_nonneg, List.length_cons, List.length_nil, List.length_append, List.length_set, List.length_replicate, List.drop_zero, Int.toNat_zero, ne_eq, natCast_eq, Bool.not_true, Bool.not_false, Bool.true_eq_false, Bool.false_eq_true, reduceCtorEq, eq_self, not_true_eq_false, not_false_eq_true, or_self, or_false, false_or, or_true, true_or, and_self, and_true, true_and, and_false, false_and] at *
    congr 4
    rw [ho, ← hout]
    by_cases h2 : 2 ≤ n
    · congr 2; omega
    · have e1 : (k - 1).toNat = 1 := by omega
      rw [e1]
      rcases (by omega : n = 0 ∨ n = 1) with rfl | rfl <;> rfl

set_option maxRecDepth 100000 in
theorem l2fits_fs (l : List Int) (h : l.length ≤ 100) : FS Try.prog [] 19 [.agg [.lst (intsL l)]] (· = .tup [.agg [.lst (intsL l)], B true]) := by
  refine FS_ofT (args := fun A => [.agg [.lst (A.ints l)]]) (R := fun A r => r = .tup [.agg [.lst (A.ints l)], B true]) Try.hT Try.mix Try.func19 rfl rfl (Nat.le_of_ble_eq_true rfl) ?_
  generalize hP : Try.prog = P
  intro A hA
  have hI : intsL = A.ints := by subst hA; rfl
  cbv
  repeat' (first | with_reducible exact True.intro | with_reducible refine And.intro ?_ ?_ | intro _)
  all_goals try cbv
  all_goals repeat' (first | with_reducible exact True.intro | with_reducible refine And.intro ?_ ?_ | intro _)
  all_goals try (subst hA; simp only [AR.std, ints_getI, ints_clen, ints_len, ints_take, ints_drop, ints_app1, ints_app, ints_nil, ints_nil_app, ints_one, ints_set, ints_rep, wrapi, beq_iff_eq, decide_eq_true_eq, Bool.cond_false_right, Bool.and_eq_true, Bool.and_eq_false_iff, beq_eq_false_iff_ne, decide_eq_false_iff_not, Int.toNat_natCast, Bool.cond_true_left, Bool.or_eq_true, Bool.or_eq_false_iff, bne_iff_ne, bne_eq_false_iff_eq, Bool.not_eq_true', Bool.not_eq_false', Int.tdiv_eq_ediv_of_nonneg, Int.tmod_eq_emod_of_nonneg, List.length_cons, List.length_nil, List.length_append, List.length_set, List.length_replicate, List.drop_zero, Int.toNat_zero, ne_eq, natCast_eq, Bool.not_true, Bool.not_false, Bool.true_eq_false, Bool.false_eq_true, reduceCtorEq, eq_self, not_true_eq_false, not_false_eq_true, or_self, or_false, false_or, or_true, true_or, and_self, and_true, true_and, and_false, false_and] at *; (try simp (disch := omega) only [AR.std, ints_getI, ints_clen, ints_len, ints_take, ints_drop, ints_app1, ints_app, ints_nil, ints_nil_app, ints_one, ints_set, ints_rep, wrapi, beq_iff_eq, decide_eq_true_eq, Bool.cond_false_right, Bool.and_eq_true, Bool.and_eq_false_iff, beq_eq_false_iff_ne, decide_eq_false_iff_not, Int.toNat_natCast, Bool.cond_true_left, Bool.or_eq_true, Bool.or_eq_false_iff, bne_iff_ne, bne_eq_false_iff_eq, Bool.not_eq_true', Bool.not_eq_false', Int.tdiv_eq_ediv_of_nonneg, Int.tmod_eq_emod_of_nonneg, List.length_cons, List.length_nil, List.length_append, List.length_set, List.length_replicate, List.drop_zero, Int.toNat_zero, ne_eq, natCast_eq, Bool.not_true, Bool.not_false, Bool.true_eq_false, Bool.false_eq_true, reduceCtorEq, eq_self, not_true_eq_false, not_false_eq_true, or_self, or_false, false_or, or_true, true_or, and_self, and_true, true_and, and_false, false_and] at *); first | done | omega | exact ints_ok _ | exact ints_all _ | (apply ints_part <;> first | omega | rfl))

set_option maxRecDepth 100000 in
theorem Factw_fs (n : Int) (h0 : 0 ≤ n) (h1 : n ≤ 200) : FS Try.prog [] 6 [I n] (· = .tup [.agg [.lst (intsL (dg (fac n.toNat)))], B true]) := by
  refine FS_ofT (args := fun A => [I n]) (R := fun A r => r = .tup [.agg [.lst (A.ints (dg (fac n.toNat)))], B true]) Try.hT Try.mix Try.func6 rfl rfl (Nat.le_of_ble_eq_true rfl) ?_
  have hc0 := l11fact_fs n h0 h1
  have hc1 := l2fits_fs (dg (fac n.toNat)) (by have := fac_len (n := n.toNat) (by omega); omega)
  generalize hP : Try.prog = P
  rw [hP] at hc0 hc1
  generalize hout : dg (fac n.toNat) = out
  intro A hA
  have hI : intsL = A.ints := by subst hA; rfl
  rw [hout, hI] at hc0 hc1
  cbv
  repeat' (first | with_reducible exact True.intro | with_reducible refine And.intro ?_ ?_ | intro _)
  all_goals try cbv
  all_goals repeat' (first | with_reducible exact True.intro | with_reducible refine And.intro ?_ ?_ | intro _)
  all_goals try (subst hA; simp only [AR.std, ints_getI, ints_clen, ints_len, ints_take, ints_drop, ints_app1, ints_app, ints_nil, ints_nil_app, ints_one, ints_set, ints_rep, wrapi, beq_iff_eq, decide_eq_true_eq, Bool.cond_false_right, Bool.and_eq_true, Bool.and_eq_false_iff, beq_eq_false_iff_ne, decide_eq_false_iff_not, Int.toNat_natCast, Bool.cond_true_left, Bool.or_eq_true, Bool.or_eq_false_iff, bne_iff_ne, bne_eq_false_iff_eq, Bool.not_eq_true', Bool.not_eq_false', Int.tdiv_eq_ediv_of_nonneg, Int.tmod_eq_emod_of_nonneg, List.length_cons, List.length_nil, List.length_append, List.length_set, List.length_replicate, List.drop_zero, Int.toNat_zero, ne_eq, natCast_eq, Bool.not_true, Bool.not_false, Bool.true_eq_false, Bool.false_eq_true, reduceCtorEq, eq_self, not_true_eq_false, not_false_eq_true, or_self, or_false, false_or, or_true, true_or, and_self, and_true, true_and, and_false, false_and] at *; (try simp (disch := omega) only [AR.std, ints_getI, ints_clen, ints_len, ints_take, ints_drop, ints_app1, ints_app, ints_nil, ints_nil_app, ints_one, ints_set, ints_rep, wrapi, beq_iff_eq, decide_eq_true_eq, Bool.cond_false_right, Bool.and_eq_true, Bool.and_eq_false_iff, beq_eq_false_iff_ne, decide_eq_false_iff_not, Int.toNat_natCast, Bool.cond_true_left, Bool.or_eq_true, Bool.or_eq_false_iff, bne_iff_ne, bne_eq_false_iff_eq, Bool.not_eq_true', Bool.not_eq_false', Int.tdiv_eq_ediv_of_nonneg, Int.tmod_eq_emod_of_nonneg, List.length_cons, List.length_nil, List.length_append, List.length_set, List.length_replicate, List.drop_zero, Int.toNat_zero, ne_eq, natCast_eq, Bool.not_true, Bool.not_false, Bool.true_eq_false, Bool.false_eq_true, reduceCtorEq, eq_self, not_true_eq_false, not_false_eq_true, or_self, or_false, false_or, or_true, true_or, and_self, and_true, true_and, and_false, false_and] at *); first | done | omega | exact ints_ok _ | exact ints_all _ | (apply ints_part <;> first | omega | rfl))
  first | (refine .inl ⟨_, _, rfl, hc0, ?_⟩; rintro _ rfl) | refine ⟨_, hc0, ?_⟩
  cbv
  repeat' (first | with_reducible exact True.intro | with_reducible refine And.intro ?_ ?_ | intro _)
  first | (refine .inl ⟨_, _, rfl, hc1, ?_⟩; rintro _ rfl) | refine ⟨_, hc1, ?_⟩
  cbv
  repeat' (first | with_reducible exact True.intro | with_reducible refine And.intro ?_ ?_ | intro _)
  all_goals try cbv
  all_goals repeat' (first | with_reducible exact True.intro | with_reducible refine And.intro ?_ ?_ | intro _)
  all_goals try (subst hA; simp only [AR.std, ints_getI, ints_clen, ints_len, ints_take, ints_drop, ints_app1, ints_app, ints_nil, ints_nil_app, ints_one, ints_set, ints_rep, wrapi, beq_iff_eq, decide_eq_true_eq, Bool.cond_false_right, Bool.and_eq_true, Bool.and_eq_false_iff, beq_eq_false_iff_ne, decide_eq_false_iff_not, Int.toNat_natCast, Bool.cond_true_left, Bool.or_eq_true, Bool.or_eq_false_iff, bne_iff_ne, bne_eq_false_iff_eq, Bool.not_eq_true', Bool.not_eq_false', Int.tdiv_eq_ediv_of_nonneg, Int.tmod_eq_emod_of_nonneg, List.length_cons, List.length_nil, List.length_append, List.length_set, List.length_replicate, List.drop_zero, Int.toNat_zero, ne_eq, natCast_eq, Bool.not_true, Bool.not_false, Bool.true_eq_false, Bool.false_eq_true, reduceCtorEq, eq_self, not_true_eq_false, not_false_eq_true, or_self, or_false, false_or, or_true, true_or, and_self, and_true, true_and, and_false, false_and] at *; (try simp (disch := omega) only [AR.std, ints_getI, ints_clen, ints_len, ints_take, ints_drop, ints_app1, ints_app, ints_nil, ints_nil_app, ints_one, ints_set, ints_rep, wrapi, beq_iff_eq, decide_eq_true_eq, Bool.cond_false_right, Bool.and_eq_true, Bool.and_eq_false_iff, beq_eq_false_iff_ne, decide_eq_false_iff_not, Int.toNat_natCast, Bool.cond_true_left, Bool.or_eq_true, Bool.or_eq_false_iff, bne_iff_ne, bne_eq_false_iff_eq, Bool.not_eq_true', Bool.not_eq_false', Int.tdiv_eq_ediv_of_nonneg, Int.tmod_eq_emod_of_nonneg, List.length_cons, List.length_nil, List.length_append, List.length_set, List.length_replicate, List.drop_zero, Int.toNat_zero, ne_eq, natCast_eq, Bool.not_true, Bool.not_false, Bool.true_eq_false, Bool.false_eq_true, reduceCtorEq, eq_self, not_true_eq_false, not_false_eq_true, or_self, or_false, false_or, or_true, true_or, and_self, and_true, true_and, and_false, false_and] at *); first | done | omega | exact ints_ok _ | exact ints_all _ | (apply ints_part <;> first | omega | rfl))

set_option maxRecDepth 100000 in
theorem Factwn_fs (n : Int) (h0 : n < 0 ∨ 200 < n) : FS Try.prog [] 6 [I n] (· = .tup [.agg [.lst []], B false]) := by
  refine FS_ofT (args := fun A => [I n]) (R := fun A r => r = .tup [.agg [.lst []], B false]) Try.hT Try.mix Try.func6 rfl rfl (Nat.le_of_ble_eq_true rfl) ?_
  generalize hP : Try.prog = P
  intro A hA
  have hI : intsL = A.ints := by subst hA; rfl
  cbv
  repeat' (first | with_reducible exact True.intro | with_reducible refine And.intro ?_ ?_ | intro _)
  all_goals try cbv
  all_goals repeat' (first | with_reducible exact True.intro | with_reducible refine And.intro ?_ ?_ | intro _)
  all_goals try (subst hA; simp only [AR.std, ints_getI, ints_clen, ints_len, ints_take, ints_drop, ints_app1, ints_app, ints_nil, ints_nil_app, ints_one, ints_set, ints_rep, wrapi, beq_iff_eq, decide_eq_true_eq, Bool.cond_false_right, Bool.and_eq_true, Bool.and_eq_false_iff, beq_eq_false_iff_ne, decide_eq_false_iff_not, Int.toNat_natCast, Bool.cond_true_left, Bool.or_eq_true, Bool.or_eq_false_iff, bne_iff_ne, bne_eq_false_iff_eq, Bool.not_eq_true', Bool.not_eq_false', Int.tdiv_eq_ediv_of_nonneg, Int.tmod_eq_emod_of_nonneg, List.length_cons, List.length_nil, List.length_append, List.length_set, List.length_replicate, List.drop_zero, Int.toNat_zero, ne_eq, natCast_eq, Bool.not_true, Bool.not_false, Bool.true_eq_false, Bool.false_eq_true, reduceCtorEq, eq_self, not_true_eq_false, not_false_eq_true, or_self, or_false, false_or, or_true, true_or, and_self, and_true, true_and, and_false, false_and] at *; (try simp (disch := omega) only [AR.std, ints_getI, ints_clen, ints_len, ints_take, ints_drop, ints_app1, ints_app, ints_nil, ints_nil_app, ints_one, ints_set, ints_rep, wrapi, beq_iff_eq, decide_eq_true_eq, Bool.cond_false_right, Bool.and_eq_true, Bool.and_eq_false_iff, beq_eq_false_iff_ne, decide_eq_false_iff_not, Int.toNat_natCast, Bool.cond_true_left, Bool.or_eq_true, Bool.or_eq_false_iff, bne_iff_ne, bne_eq_false_iff_eq, Bool.not_eq_true', Bool.not_eq_false', Int.tdiv_eq_ediv_of_nonneg, Int.tmod_eq_emod_of_nonneg, List.length_cons, List.length_nil, List.length_append, List.length_set, List.length_replicate, List.drop_zero, Int.toNat_zero, ne_eq, natCast_eq, Bool.not_true, Bool.not_false, Bool.true_eq_false, Bool.false_eq_true, reduceCtorEq, eq_self, not_true_eq_false, not_false_eq_true, or_self, or_false, false_or, or_true, true_or, and_self, and_true, true_and, and_false, false_and] at *); first | done | omega | exact ints_ok _ | exact ints_all _ | (apply ints_part <;> first | omega | rfl))

set_option maxRecDepth 100000 in
/-- a copy that is one's own -/
theorem clone_fx (l : List Int) (h : 0 < l.length) (h1 : l.length ≤ 100) : FX Try.prog [] 38 [] [.pv (.lst (intsL l))] (fun own r => own = [.row 3 1 (intsL l)] ∧ r = .own 0) := by
  refine FX_ofT (own := fun A => []) (args := fun A => [.pv (.lst (A.ints l))]) (R := fun A own r => own = [.row 3 1 (A.ints l)] ∧ r = .own 0) Try.hT Try.mix Try.func38 rfl rfl (Nat.le_of_ble_eq_true rfl) ?_
  generalize hP : Try.prog = P
  intro A hA
  have hI : intsL = A.ints := by subst hA; rfl
  cbv
  repeat' (first | with_reducible exact True.intro | with_reducible refine And.intro ?_ ?_ | intro _)
  all_goals try cbv
  all_goals repeat' (first | with_reducible exact True.intro | with_reducible refine And.intro ?_ ?_ | intro _)
  · rename_i hb hbt
    exfalso
    have := hb hbt
    subst hA
    have h2 := congrArg List.length this
    rw [show AR.std.ints = intsL from rfl, ints_len] at h2
    simp at h2
    simp [h2] at h
  cbv
  repeat' (first | with_reducible exact True.intro | with_reducible refine And.intro ?_ ?_ | intro _)
  all_goals try cbv
  all_goals repeat' (first | with_reducible exact True.intro | with_reducible refine And.intro ?_ ?_ | intro _)
  all_goals try (subst hA; simp only [AR.std, ints_getI, ints_clen, ints_len, ints_take, ints_drop, ints_app1, ints_app, ints_nil, ints_nil_app, ints_one, ints_set, ints_rep, wrapi, beq_iff_eq, decide_eq_true_eq, Bool.cond_false_right, Bool.and_eq_true, Bool.and_eq_false_iff, beq_eq_false_iff_ne, decide_eq_false_iff_not, Int.toNat_natCast, Bool.cond_true_left, Bool.or_eq_true, Bool.or_eq_false_iff, bne_iff_ne, bne_eq_false_iff_eq, Bool.not_eq_true', Bool.not_eq_false', Int.tdiv_eq_ediv_of_nonneg, Int.tmod_eq_emod_of_nonneg, List.length_cons, List.length_nil, List.length_append, List.length_set, List.length_replicate, List.drop_zero, Int.toNat_zero, ne_eq, natCast_eq, Bool.not_true, Bool.not_false, Bool.true_eq_false, Bool.false_eq_true, reduceCtorEq, eq_self, not_true_eq_false, not_false_eq_true, or_self, or_false, false_or, or_true, true_or, and_self, and_true, true_and, and_false, false_and] at *; (try simp (disch := omega) only [AR.std, ints_getI, ints_clen, ints_len, ints_take, ints_drop, ints_app1, ints_app, ints_nil, ints_nil_app, ints_one, ints_set, ints_rep, wrapi, beq_iff_eq, decide_eq_true_eq, Bool.cond_false_right, Bool.and_eq_true, Bool.and_eq_false_iff, beq_eq_false_iff_ne, decide_eq_false_iff_not, Int.toNat_natCast, Bool.cond_true_left, Bool.or_eq_true, Bool.or_eq_false_iff, bne_iff_ne, bne_eq_false_iff_eq, Bool.not_eq_true', Bool.not_eq_false', Int.tdiv_eq_ediv_of_nonneg, Int.tmod_eq_emod_of_nonneg, List.length_cons, List.length_nil, List.length_append, List.length_set, List.length_replicate, List.drop_zero, Int.toNat_zero, ne_eq, natCast_eq, Bool.not_true, Bool.not_false, Bool.true_eq_false, Bool.false_eq_true, reduceCtorEq, eq_self, not_true_eq_false, not_false_eq_true, or_self, or_false, false_or, or_true, true_or, and_self, and_true, true_and, and_false, false_and] at *); first | done | omega | exact ints_ok _ | exact ints_all _ | (apply ints_part <;> first | omega | rfl))
  · subst hA; intro p hp; cases hp
  · subst hA
    exact ⟨[0], _, _, by decide, Nat.zero_le _, rfl, rfl, rfl, rfl, rfl, rfl⟩

set_option maxRecDepth 100000 in
theorem natOf_fx (l : List Int) (h : 0 < l.length) (h1 : l.length ≤ 100) : FX Try.prog [] 22 [] [.pv (.lst (intsL l))] (fun own r => own = [.row 3 1 (intsL l)] ∧ r = .tup [.agg [.own 0], .pv (B true)]) := by
  refine FX_ofT (own := fun A => []) (args := fun A => [.pv (.lst (A.ints l))]) (R := fun A own r => own = [.row 3 1 (A.ints l)] ∧ r = .tup [.agg [.own 0], .pv (B true)]) Try.hT Try.mix Try.func22 rfl rfl (Nat.le_of_ble_eq_true rfl) ?_
  have hc0 := clone_fx l h h1
  generalize hP : Try.prog = P
  rw [hP] at hc0
  intro A hA
  have hI : intsL = A.ints := by subst hA; rfl
  rw [hI] at hc0
  cbv
  repeat' (first | with_reducible exact True.intro | with_reducible refine And.intro ?_ ?_ | intro _)
  all_goals try cbv
  all_goals repeat' (first | with_reducible exact True.intro | with_reducible refine And.intro ?_ ?_ | intro _)
  all_goals try (subst hA; simp only [AR.std, ints_getI, ints_clen, ints_len, ints_take, ints_drop, ints_app1, ints_app, ints_nil, ints_nil_app, ints_one, ints_set, ints_rep, wrapi, beq_iff_eq, decide_eq_true_eq, Bool.cond_false_right, Bool.and_eq_true, Bool.and_eq_false_iff, beq_eq_false_iff_ne, decide_eq_false_iff_not, Int.toNat_natCast, Bool.cond_true_left, Bool.or_eq_true, Bool.or_eq_false_iff, bne_iff_ne, bne_eq_false_iff_eq, Bool.not_eq_true', Bool.not_eq_false', Int.tdiv_eq_ediv_of_nonneg, Int.tmod_eq_emod_of_nonneg, List.length_cons, List.length_nil, List.length_append, List.length_set, List.length_replicate, List.drop_zero, Int.toNat_zero, ne_eq, natCast_eq, Bool.not_true, Bool.not_false, Bool.true_eq_false, Bool.false_eq_true, reduceCtorEq, eq_self, not_true_eq_false, not_false_eq_true, or_self, or_false, false_or, or_true, true_or, and_self, and_true, true_and, and_false, false_and] at *; (try simp (disch := omega) only [AR.std, ints_getI, ints_clen, ints_len, ints_take, ints_drop, ints_app1, ints_app, ints_nil, ints_nil_app, ints_one, ints_set, ints_rep, wrapi, beq_iff_eq, decide_eq_true_eq, Bool.cond_false_right, Bool.and_eq_true, Bool.and_eq_false_iff, beq_eq_false_iff_ne, decide_eq_false_iff_not, Int.toNat_natCast, Bool.cond_true_left, Bool.or_eq_true, Bool.or_eq_false_iff, bne_iff_ne, bne_eq_false_iff_eq, Bool.not_eq_true', Bool.not_eq_false', Int.tdiv_eq_ediv_of_nonneg, Int.tmod_eq_emod_of_nonneg, List.length_cons, List.length_nil, List.length_append, List.length_set, List.length_replicate, List.drop_zero, Int.toNat_zero, ne_eq, natCast_eq, Bool.not_true, Bool.not_false, Bool.true_eq_false, Bool.false_eq_true, reduceCtorEq, eq_self, not_true_eq_false, not_false_eq_true, or_self, or_false, false_or, or_true, true_or, and_self, and_true, true_and, and_false, false_and] at *); first | done | omega | exact ints_ok _ | exact ints_all _ | (apply ints_part <;> first | omega | rfl))
  refine .inr (.inr ⟨[], [], _, _, List.nodup_nil, rfl, rfl, rfl, hc0, ?_⟩)
  rintro _ _ ⟨rfl, rfl⟩
  refine ⟨rfl, ?_⟩
  cbv
  repeat' (first | with_reducible exact True.intro | with_reducible refine And.intro ?_ ?_ | intro _)
  all_goals try cbv
  all_goals repeat' (first | with_reducible exact True.intro | with_reducible refine And.intro ?_ ?_ | intro _)
  all_goals try (subst hA; simp only [AR.std, ints_getI, ints_clen, ints_len, ints_take, ints_drop, ints_app1, ints_app, ints_nil, ints_nil_app, ints_one, ints_set, ints_rep, wrapi, beq_iff_eq, decide_eq_true_eq, Bool.cond_false_right, Bool.and_eq_true, Bool.and_eq_false_iff, beq_eq_false_iff_ne, decide_eq_false_iff_not, Int.toNat_natCast, Bool.cond_true_left, Bool.or_eq_true, Bool.or_eq_false_iff, bne_iff_ne, bne_eq_false_iff_eq, Bool.not_eq_true', Bool.not_eq_false', Int.tdiv_eq_ediv_of_nonneg, Int.tmod_eq_emod_of_nonneg, List.length_cons, List.length_nil, List.length_append, List.length_set, List.length_replicate, List.drop_zero, Int.toNat_zero, ne_eq, natCast_eq, Bool.not_true, Bool.not_false, Bool.true_eq_false, Bool.false_eq_true, reduceCtorEq, eq_self, not_true_eq_false, not_false_eq_true, or_self, or_false, false_or, or_true, true_or, and_self, and_true, true_and, and_false, false_and] at *; (try simp (disch := omega) only [AR.std, ints_getI, ints_clen, ints_len, ints_take, ints_drop, ints_app1, ints_app, ints_nil, ints_nil_app, ints_one, ints_set, ints_rep, wrapi, beq_iff_eq, decide_eq_true_eq, Bool.cond_false_right, Bool.and_eq_true, Bool.and_eq_false_iff, beq_eq_false_iff_ne, decide_eq_false_iff_not, Int.toNat_natCast, Bool.cond_true_left, Bool.or_eq_true, Bool.or_eq_false_iff, bne_iff_ne, bne_eq_false_iff_eq, Bool.not_eq_true', Bool.not_eq_false', Int.tdiv_eq_ediv_of_nonneg, Int.tmod_eq_emod_of_nonneg, List.length_cons, List.length_nil, List.length_append, List.length_set, List.length_replicate, List.drop_zero, Int.toNat_zero, ne_eq, natCast_eq, Bool.not_true, Bool.not_false, Bool.true_eq_false, Bool.false_eq_true, reduceCtorEq, eq_self, not_true_eq_false, not_false_eq_true, or_self, or_false, false_or, or_true, true_or, and_self, and_true, true_and, and_false, false_and] at *); first | done | omega | exact ints_ok _ | exact ints_all _ | (apply ints_part <;> first | omega | rfl))
  subst hA
  exact ⟨[1], _, _, by decide, Nat.zero_le _, rfl, rfl, rfl, rfl, rfl, rfl⟩

set_option maxRecDepth 100000 in
theorem Fact_fx (n : Int) (h0 : 0 ≤ n) (h1 : n ≤ 200) : FX Try.prog [] 7 [] [.pv (I n)] (fun own r => own = [.row 3 1 (intsL (dg (fac n.toNat)))] ∧ r = .tup [.agg [.own 0], .pv (B true)]) := by
  refine FX_ofT (own := fun A => []) (args := fun A => [.pv (I n)]) (R := fun A own r => own = [.row 3 1 (A.ints (dg (fac n.toNat)))] ∧ r = .tup [.agg [.own 0], .pv (B true)]) Try.hT Try.mix Try.func7 rfl rfl (Nat.le_of_ble_eq_true rfl) ?_
  have hc0 := within_fs n 0 200
  have hc1 := fact_fs n h0 h1
  have hc2 := natOf_fx (dg (fac n.toNat)) (dg_ne_nil (fac_pos _)) (by have := fac_len (n := n.toNat) (by omega); omega)
  generalize hP : Try.prog = P
  rw [hP] at hc0 hc1 hc2
  generalize hout : dg (fac n.toNat) = out
  intro A hA
  have hI : intsL = A.ints := by subst hA; rfl
  rw [hout, hI] at hc1 hc2
  have e1 : (decide (0 ≤ n) && decide (n ≤ 200)) = true := by simp; omega
  rw [e1] at hc0
  cbv
  repeat' (first | with_reducible exact True.intro | with_reducible refine And.intro ?_ ?_ | intro _)
  all_goals try cbv
  all_goals repeat' (first | with_reducible exact True.intro | with_reducible refine And.intro ?_ ?_ | intro _)
  first | (refine .inl ⟨_, _, rfl, hc0, ?_⟩; rintro _ rfl) | refine ⟨_, hc0, ?_⟩
  cbv
  repeat' (first | with_reducible exact True.intro | with_reducible refine And.intro ?_ ?_ | intro _)
  all_goals try cbv
  all_goals repeat' (first | with_reducible exact True.intro | with_reducible refine And.intro ?_ ?_ | intro _)
  all_goals try (subst hA; simp only [AR.std, ints_getI, ints_clen, ints_len, ints_take, ints_drop, ints_app1, ints_app, ints_nil, ints_nil_app, ints_one, ints_set, ints_rep, wrapi, beq_iff_eq, decide_eq_true_eq, Bool.cond_false_right, Bool.and_eq_true, Bool.and_eq_false_iff, beq_eq_false_iff_ne, decide_eq_false_iff_not, Int.toNat_natCast, Bool.cond_true_left, Bool.or_eq_true, Bool.or_eq_false_iff, bne_iff_ne, bne_eq_false_iff_eq, Bool.not_eq_true', Bool.not_eq_false', Int.tdiv_eq_ediv_of_nonneg, Int.tmod_eq_emod_of_nonneg, List.length_cons, List.length_nil, List.length_append, List.length_set, List.length_replicate, List.drop_zero, Int.toNat_zero, ne_eq, natCast_eq, Bool.not_true, Bool.not_false, Bool.true_eq_false, Bool.false_eq_true, reduceCtorEq, eq_self, not_true_eq_false, not_false_eq_true, or_self, or_false, false_or, or_true, true_or, and_self, and_true, true_and, and_false, false_and] at *; (try simp (disch := omega) only [AR.std, ints_getI, ints_clen, ints_len, ints_take, ints_drop, ints_app1, ints_app, ints_nil, ints_nil_app, ints_one, ints_set, ints_rep, wrapi, beq_iff_eq, decide_eq_true_eq, Bool.cond_false_right, Bool.and_eq_true, Bool.and_eq_false_iff, beq_eq_false_iff_ne, decide_eq_false_iff_not, Int.toNat_natCast, Bool.cond_true_left, Bool.or_eq_true, Bool.or_eq_false_iff, bne_iff_ne, bne_eq_false_iff_eq, Bool.not_eq_true', Bool.not_eq_false', Int.tdiv_eq_ediv_of_nonneg, Int.tmod_eq_emod_of_nonneg, List.length_cons, List.length_nil, List.length_append, List.length_set, List.length_replicate, List.drop_zero, Int.toNat_zero, ne_eq, natCast_eq, Bool.not_true, Bool.not_false, Bool.true_eq_false, Bool.false_eq_true, reduceCtorEq, eq_self, not_true_eq_false, not_false_eq_true, or_self, or_false, false_or, or_true, true_or, and_self, and_true, true_and, and_false, false_and] at *); first | done | omega | exact ints_ok _ | exact ints_all _ | (apply ints_part <;> first | omega | rfl))
  first | (refine .inl ⟨_, _, rfl, hc1, ?_⟩; rintro _ rfl) | refine ⟨_, hc1, ?_⟩
  cbv
  repeat' (first | with_reducible exact True.intro | with_reducible refine And.intro ?_ ?_ | intro _)
  all_goals try cbv
  all_goals repeat' (first | with_reducible exact True.intro | with_reducible refine And.intro ?_ ?_ | intro _)
  refine .inr (.inr ⟨[], [], _, _, List.nodup_nil, rfl, rfl, rfl, hc2, ?_⟩)
  rintro _ _ ⟨rfl, rfl⟩
  refine ⟨rfl, ?_⟩
  cbv
  repeat' (first | with_reducible exact True.intro | with_reducible refine And.intro ?_ ?_ | intro _)
  all_goals try cbv
  all_goals repeat' (first | with_reducible exact True.intro | with_reducible refine And.intro ?_ ?_ | intro _)
  all_goals try (subst hA; simp only [AR.std, ints_getI, ints_clen, ints_len, ints_take, ints_drop, ints_app1, ints_app, ints_nil, ints_nil_app, ints_one, ints_set, ints_rep, wrapi, beq_iff_eq, decide_eq_true_eq, Bool.cond_false_right, Bool.and_eq_true, Bool.and_eq_false_iff, beq_eq_false_iff_ne, decide_eq_false_iff_not, Int.toNat_natCast, Bool.cond_true_left, Bool.or_eq_true, Bool.or_eq_false_iff, bne_iff_ne, bne_eq_false_iff_eq, Bool.not_eq_true', Bool.not_eq_false', Int.tdiv_eq_ediv_of_nonneg, Int.tmod_eq_emod_of_nonneg, List.length_cons, List.length_nil, List.length_append, List.length_set, List.length_replicate, List.drop_zero, Int.toNat_zero, ne_eq, natCast_eq, Bool.not_true, Bool.not_false, Bool.true_eq_false, Bool.false_eq_true, reduceCtorEq, eq_self, not_true_eq_false, not_false_eq_true, or_self, or_false, false_or, or_true, true_or, and_self, and_true, true_and, and_false, false_and] at *; (try simp (disch := omega) only [AR.std, ints_getI, ints_clen, ints_len, ints_take, ints_drop, ints_app1, ints_app, ints_nil, ints_nil_app, ints_one, ints_set, ints_rep, wrapi, beq_iff_eq, decide_eq_true_eq, Bool.cond_false_right, Bool.and_eq_true, Bool.and_eq_false_iff, beq_eq_false_iff_ne, decide_eq_false_iff_not, Int.toNat_natCast, Bool.cond_true_left, Bool.or_eq_true, Bool.or_eq_false_iff, bne_iff_ne, bne_eq_false_iff_eq, Bool.not_eq_true', Bool.not_eq_false', Int.tdiv_eq_ediv_of_nonneg, Int.tmod_eq_emod_of_nonneg, List.length_cons, List.length_nil, List.length_append, List.length_set, List.length_replicate, List.drop_zero, Int.toNat_zero, ne_eq, natCast_eq, Bool.not_true, Bool.not_false, Bool.true_eq_false, Bool.false_eq_true, reduceCtorEq, eq_self, not_true_eq_false, not_false_eq_true, or_self, or_false, false_or, or_true, true_or, and_self, and_true, true_and, and_false, false_and] at *); first | done | omega | exact ints_ok _ | exact ints_all _ | (apply ints_part <;> first | omega | rfl))
  subst hA
  exact ⟨[1], _, _, by decide, Nat.zero_le _, rfl, rfl, rfl, rfl, rfl, rfl⟩

set_option maxRecDepth 100000 in
theorem Factn_fx (n : Int) (h0 : n < 0 ∨ 200 < n) : FX Try.prog [] 7 [] [.pv (I n)] (fun own r => own = [] ∧ r = .tup [.agg [.pv (.val (.slice none 0 0))], .pv (B false)]) := by
  refine FX_ofT (own := fun A => []) (args := fun A => [.pv (I n)]) (R := fun A own r => own = [] ∧ r = .tup [.agg [.pv (.val (.slice none 0 0))], .pv (B false)]) Try.hT Try.mix Try.func7 rfl rfl (Nat.le_of_ble_eq_true rfl) ?_
  have hc0 := within_fs n 0 200
  generalize hP : Try.prog = P
  rw [hP] at hc0
  intro A hA
  have hI : intsL = A.ints := by subst hA; rfl
  have e1 : (decide (0 ≤ n) && decide (n ≤ 200)) = false := by simp; omega
  rw [e1] at hc0
  cbv
  repeat' (first | with_reducible exact True.intro | with_reducible refine And.intro ?_ ?_ | intro _)
  all_goals try cbv
  all_goals repeat' (first | with_reducible exact True.intro | with_reducible refine And.intro ?_ ?_ | intro _)
  first | (refine .inl ⟨_, _, rfl, hc0, ?_⟩; rintro _ rfl) | refine ⟨_, hc0, ?_⟩
  cbv
  repeat' (first | with_reducible exact True.intro | with_reducible refine And.intro ?_ ?_ | intro _)
  all_goals try cbv
  all_goals repeat' (first | with_reducible exact True.intro | with_reducible refine And.intro ?_ ?_ | intro _)
  all_goals try (subst hA; simp only [AR.std, ints_getI, ints_clen, ints_len, ints_take, ints_drop, ints_app1, ints_app, ints_nil, ints_nil_app, ints_one, ints_set, ints_rep, wrapi, beq_iff_eq, decide_eq_true_eq, Bool.cond_false_right, Bool.and_eq_true, Bool.and_eq_false_iff, beq_eq_false_iff_ne, decide_eq_false_iff_not, Int.toNat_natCast, Bool.cond_true_left, Bool.or_eq_true, Bool.or_eq_false_iff, bne_iff_ne, bne_eq_false_iff_eq, Bool.not_eq_true', Bool.not_eq_false', Int.tdiv_eq_ediv_of_nonneg, Int.tmod_eq_emod_of_nonneg, List.length_cons, List.length_nil, List.length_append, List.length_set, List.length_replicate, List.drop_zero, Int.toNat_zero, ne_eq, natCast_eq, Bool.not_true, Bool.not_false, Bool.true_eq_false, Bool.false_eq_true, reduceCtorEq, eq_self, not_true_eq_false, not_false_eq_true, or_self, or_false, false_or, or_true, true_or, and_self, and_true, true_and, and_false, false_and] at *; (try simp (disch := omega) only [AR.std, ints_getI, ints_clen, ints_len, ints_take, ints_drop, ints_app1, ints_app, ints_nil, ints_nil_app, ints_one, ints_set, ints_rep, wrapi, beq_iff_eq, decide_eq_true_eq, Bool.cond_false_right, Bool.and_eq_true, Bool.and_eq_false_iff, beq_eq_false_iff_ne, decide_eq_false_iff_not, Int.toNat_natCast, Bool.cond_true_left, Bool.or_eq_true, Bool.or_eq_false_iff, bne_iff_ne, bne_eq_false_iff_eq, Bool.not_eq_true', Bool.not_eq_false', Int.tdiv_eq_ediv_of_nonneg, Int.tmod_eq_emod_of_nonneg, List.length_cons, List.length_nil, List.length_append, List.length_set, List.length_replicate, List.drop_zero, Int.toNat_zero, ne_eq, natCast_eq, Bool.not_true, Bool.not_false, Bool.true_eq_false, Bool.false_eq_true, reduceCtorEq, eq_self, not_true_eq_false, not_false_eq_true, or_self, or_false, false_or, or_true, true_or, and_self, and_true, true_and, and_false, false_and] at *); first | done | omega | exact ints_ok _ | exact ints_all _ | (apply ints_part <;> first | omega | rfl))
  subst hA
  exact ⟨[], _, _, by decide, Nat.zero_le _, rfl, rfl, rfl, rfl, rfl, rfl⟩

end Try
end Go.Proofs
