/- Contracts of functions of the program (F11), each under the conditions that its own statement names. -/
import Derived.Test.YtoiomklhpleceaaSx
import Derived.Test.YtoiomklhpleceaaPeDh
import Derived.Test.YtoiomklhpleceaaF1
import Derived.Test.YtoiomklhpleceaaF2
import Derived.Test.YtoiomklhpleceaaF3
import Derived.Test.YtoiomklhpleceaaF4
import Derived.Test.YtoiomklhpleceaaF5
import Derived.Test.YtoiomklhpleceaaF6
import Derived.Test.YtoiomklhpleceaaF7
import Derived.Test.YtoiomklhpleceaaF8
import Derived.Test.YtoiomklhpleceaaF9
import Derived.Test.YtoiomklhpleceaaF10
namespace Go.Proofs
open Go Go.Pe Go.Dg
namespace Try
set_option linter.unusedSimpArgs false

set_option maxHeartbeats 1000000 in
set_option maxRecDepth 100000 in
theorem terms_fs (w : Int) (t : Nat) (h0 : -400 ≤ w) (h1 : w ≤ 0) (ht : isT (-w).toNat t) : FS Try.prog [] 28 [I w] (· = I t) := by
  obtain ⟨ht1, ht2, ht3, ht4⟩ := ht
  refine FS_ofT (args := fun A => [I w]) (R := fun A r => r = I t) Try.hT Try.mix Try.func28 rfl rfl (Nat.le_of_ble_eq_true rfl) ?_
  have hc0 := fact_fs
  have hc1 := small_fs
  have hc2 := up_fs
  have hc3 := compare_fs
  generalize hP : Try.prog = P
  rw [hP] at hc0 hc1 hc2 hc3
  generalize hz : (t : Int) = z
  intro A hA
  have hI : intsL = A.ints := by subst hA; rfl
  cbv
  repeat' (first | with_reducible exact True.intro | with_reducible refine And.intro ?_ ?_ | intro _)
  all_goals try cbv
  all_goals repeat' (first | with_reducible exact True.intro | with_reducible refine And.intro ?_ ?_ | intro _)
  simp only [natCast_eq] at hz
  refine ⟨[], [0, 2, 3], 0, { k : Int // 1 ≤ k ∧ k ≤ z }, fun k => ⟨[(0, .pv (I w)), (2, .pv (I 0)), (3, .pv (I k.1))], [], 18, 0⟩, fun k => (z - k.1).toNat, ⟨1, by omega, by omega⟩, rfl, ?_⟩
  rintro ⟨k, hk0, hk1⟩
  have ef : (k + 1).toNat = k.toNat + 1 := by omega
  cbv
  repeat' (first | with_reducible exact True.intro | with_reducible refine And.intro ?_ ?_ | intro _)
  all_goals try cbv
  all_goals repeat' (first | with_reducible exact True.intro | with_reducible refine And.intro ?_ ?_ | intro _)
  all_goals try cbv
  all_goals repeat' (first | with_reducible exact True.intro | with_reducible refine And.intro ?_ ?_ | intro _)
  all_goals try cbv
  all_goals repeat' (first | with_reducible exact True.intro | with_reducible refine And.intro ?_ ?_ | intro _)
  all_goals try cbv
  all_goals repeat' (first | with_reducible exact True.intro | with_reducible refine And.intro ?_ ?_ | intro _)
  simp only [natCast_eq] at hz
  have eadd : A.add .i64 k 1 = k + 1 := by subst hA; simp (disch := omega) only [AR.std, ints_getI, ints_clen, ints_len, ints_take, ints_drop, ints_app1, ints_app, ints_nil, ints_nil_app, ints_one, ints_set, ints_rep, wrapi, beq_iff_eq, decide_eq_true_eq, Bool.cond_false_right, Bool.and_eq_true, Bool.and_eq_false_iff, beq_eq_false_iff_ne, decide_eq_false_iff_not, Int.toNat_natCast, Bool.cond_true_left, Bool.or_eq_true, Bool.or_eq_false_iff, bne_iff_ne, bne_eq_false_iff_eq, Bool.not_eq_true', Bool.not_eq_false', Int.tdiv_eq_ediv_of_nonneg, Int.tmod_eq_emod_of_nonneg, List.length_cons, List.length_nil, List.length_append, List.length_set, List.length_replicate, List.drop_zero, Int.toNat_zero, ne_eq, natCast_eq, Bool.not_true, Bool.not_false, Bool.true_eq_false, Bool.false_eq_true, reduceCtorEq, eq_self, not_true_eq_false, not_false_eq_true, or_self, or_false, false_or, or_true, true_or, and_self, and_true, true_and, and_false, false_and, bne_self_eq_false, beq_self_eq_true]
  have eneg : A.sub .i64 0 w = -w := by subst hA; simp (disch := omega) only [AR.std, ints_getI, ints_clen, ints_len, ints_take, ints_drop, ints_app1, ints_app, ints_nil, ints_nil_app, ints_one, ints_set, ints_rep, wrapi, beq_iff_eq, decide_eq_true_eq, Bool.cond_false_right, Bool.and_eq_true, Bool.and_eq_false_iff, beq_eq_false_iff_ne, decide_eq_false_iff_not, Int.toNat_natCast, Bool.cond_true_left, Bool.or_eq_true, Bool.or_eq_false_iff, bne_iff_ne, bne_eq_false_iff_eq, Bool.not_eq_true', Bool.not_eq_false', Int.tdiv_eq_ediv_of_nonneg, Int.tmod_eq_emod_of_nonneg, List.length_cons, List.length_nil, List.length_append, List.length_set, List.length_replicate, List.drop_zero, Int.toNat_zero, ne_eq, natCast_eq, Bool.not_true, Bool.not_false, Bool.true_eq_false, Bool.false_eq_true, reduceCtorEq, eq_self, not_true_eq_false, not_false_eq_true, or_self, or_false, false_or, or_true, true_or, and_self, and_true, true_and, and_false, false_and, bne_self_eq_false, beq_self_eq_true]; omega
  have hc4 := hc0 (k + 1) (by omega) (by omega)
  rw [ef, ← eadd, hI] at hc4
  have hc5 := hc2 (dg (fac (k.toNat + 1))) (valid_dg _) k (by omega) (by omega) (by have := fac_len (n := k.toNat + 1) (by omega); omega)
  have hc6 := hc1 1 (by omega) (by omega)
  have hc7 := hc2 (dg 1) (valid_dg _) (-w) (by omega) (by omega) (by have := dg_len 1 (by omega); omega)
  have e5 : (val (dg (fac (k.toNat + 1))) * 2 ^ k.toNat).toNat = fac (k.toNat + 1) * 2 ^ k.toNat := by
    rw [val_dg]
    have : ((fac (k.toNat + 1) : Nat) : Int) * 2 ^ k.toNat = ((fac (k.toNat + 1) * 2 ^ k.toNat : Nat) : Int) := by simp
    rw [this, Int.toNat_natCast]
  have e7 : (val (dg 1) * 2 ^ (-w).toNat).toNat = 2 ^ (-w).toNat := by
    rw [val_dg]
    have : ((1 : Nat) : Int) * 2 ^ (-w).toNat = ((2 ^ (-w).toNat : Nat) : Int) := by simp
    rw [this, Int.toNat_natCast]
  rw [e5] at hc5
  rw [e7] at hc7
  have hc8 := hc3 (fac (k.toNat + 1) * 2 ^ k.toNat) (2 ^ (-w).toNat) (by have := fac_up_len (k := k.toNat) (by omega); omega)
  have hT : cmpN (fac (k.toNat + 1) * 2 ^ k.toNat) (2 ^ (-w).toNat) < 0 ↔ k < z := by
    unfold cmpN
    by_cases hkz : k < z
    · have := ht4 k.toNat (by omega) (by omega)
      rw [if_pos this]; omega
    · have hkt : k.toNat = t := by omega
      rw [hkt]
      rw [if_neg (by omega)]
      split <;> omega
  rw [hI] at hc5 hc6 hc7 hc8
  have e1 : dg (1 : Int).toNat = dg 1 := rfl
  rw [e1] at hc6
  generalize dg (fac (k.toNat + 1)) = u1 at hc4 hc5
  generalize dg (fac (k.toNat + 1) * 2 ^ k.toNat) = u2 at hc5 hc8
  generalize dg 1 = u3 at hc6 hc7
  generalize dg (2 ^ (-w).toNat) = u4 at hc7 hc8
  rw [← eneg] at hc7
  generalize cmpN (fac (k.toNat + 1) * 2 ^ k.toNat) (2 ^ (-w).toNat) = d at hc8 hT
  first | (refine .inl ⟨_, _, rfl, hc4, ?_⟩; rintro _ rfl) | refine ⟨_, hc4, ?_⟩
  cbv
  repeat' (first | with_reducible exact True.intro | with_reducible refine And.intro ?_ ?_ | intro _)
  first | (refine .inl ⟨_, _, rfl, hc5, ?_⟩; rintro _ rfl) | refine ⟨_, hc5, ?_⟩
  cbv
  repeat' (first | with_reducible exact True.intro | with_reducible refine And.intro ?_ ?_ | intro _)
  first | (refine .inl ⟨_, _, rfl, hc6, ?_⟩; rintro _ rfl) | refine ⟨_, hc6, ?_⟩
  cbv
  repeat' (first | with_reducible exact True.intro | with_reducible refine And.intro ?_ ?_ | intro _)
  first | (refine .inl ⟨_, _, rfl, hc7, ?_⟩; rintro _ rfl) | refine ⟨_, hc7, ?_⟩
  cbv
  repeat' (first | with_reducible exact True.intro | with_reducible refine And.intro ?_ ?_ | intro _)
  first | (refine .inl ⟨_, _, rfl, hc8, ?_⟩; rintro _ rfl) | refine ⟨_, hc8, ?_⟩
  cbv
  repeat' (first | with_reducible exact True.intro | with_reducible refine And.intro ?_ ?_ | intro _)
  all_goals try cbv
  all_goals repeat' (first | with_reducible exact True.intro | with_reducible refine And.intro ?_ ?_ | intro _)
  all_goals try cbv
  all_goals repeat' (first | with_reducible exact True.intro | with_reducible refine And.intro ?_ ?_ | intro _)
  all_goals try cbv
  all_goals repeat' (first | with_reducible exact True.intro | with_reducible refine And.intro ?_ ?_ | intro _)
  all_goals try cbv
  all_goals repeat' (first | with_reducible exact True.intro | with_reducible refine And.intro ?_ ?_ | intro _)
  all_goals try (subst hA; simp only [AR.std, ints_getI, ints_clen, ints_len, ints_take, ints_drop, ints_app1, ints_app, ints_nil, ints_nil_app, ints_one, ints_set, ints_rep, wrapi, beq_iff_eq, decide_eq_true_eq, Bool.cond_false_right, Bool.and_eq_true, Bool.and_eq_false_iff, beq_eq_false_iff_ne, decide_eq_false_iff_not, Int.toNat_natCast, Bool.cond_true_left, Bool.or_eq_true, Bool.or_eq_false_iff, bne_iff_ne, bne_eq_false_iff_eq, Bool.not_eq_true', Bool.not_eq_false', Int.tdiv_eq_ediv_of_nonneg, Int.tmod_eq_emod_of_nonneg, List.length_cons, List.length_nil, List.length_append, List.length_set, List.length_replicate, List.drop_zero, Int.toNat_zero, ne_eq, natCast_eq, Bool.not_true, Bool.not_false, Bool.true_eq_false, Bool.false_eq_true, reduceCtorEq, eq_self, not_true_eq_false, not_false_eq_true, or_self, or_false, false_or, or_true, true_or, and_self, and_true, true_and, and_false, false_and, bne_self_eq_false, beq_self_eq_true] at *; (try simp (disch := omega) only [AR.std, ints_getI, ints_clen, ints_len, ints_take, ints_drop, ints_app1, ints_app, ints_nil, ints_nil_app, ints_one, ints_set, ints_rep, wrapi, beq_iff_eq, decide_eq_true_eq, Bool.cond_false_right, Bool.and_eq_true, Bool.and_eq_false_iff, beq_eq_false_iff_ne, decide_eq_false_iff_not, Int.toNat_natCast, Bool.cond_true_left, Bool.or_eq_true, Bool.or_eq_false_iff, bne_iff_ne, bne_eq_false_iff_eq, Bool.not_eq_true', Bool.not_eq_false', Int.tdiv_eq_ediv_of_nonneg, Int.tmod_eq_emod_of_nonneg, List.length_cons, List.length_nil, List.length_append, List.length_set, List.length_replicate, List.drop_zero, Int.toNat_zero, ne_eq, natCast_eq, Bool.not_true, Bool.not_false, Bool.true_eq_false, Bool.false_eq_true, reduceCtorEq, eq_self, not_true_eq_false, not_false_eq_true, or_self, or_false, false_or, or_true, true_or, and_self, and_true, true_and, and_false, false_and, bne_self_eq_false, beq_self_eq_true] at *); first | done | rfl | omega | exact ints_ok _ | exact ints_all _ | (apply ints_part <;> first | omega | rfl))
  · rename_i hh
    clear hc0 hc1 hc2 hc3 hc4 hc5 hc6 hc7 hc8
    subst hA
    simp only [AR.std, ints_getI, ints_clen, ints_len, ints_take, ints_drop, ints_app1, ints_app, ints_nil, ints_nil_app, ints_one, ints_set, ints_rep, wrapi, beq_iff_eq, decide_eq_true_eq, Bool.cond_false_right, Bool.and_eq_true, Bool.and_eq_false_iff, beq_eq_false_iff_ne, decide_eq_false_iff_not, Int.toNat_natCast, Bool.cond_true_left, Bool.or_eq_true, Bool.or_eq_false_iff, bne_iff_ne, bne_eq_false_iff_eq, Bool.not_eq_true', Bool.not_eq_false', Int.tdiv_eq_ediv_of_nonneg, Int.tmod_eq_emod_of_nonneg, List.length_cons, List.length_nil, List.length_append, List.length_set, List.length_replicate, List.drop_zero, Int.toNat_zero, ne_eq, natCast_eq, Bool.not_true, Bool.not_false, Bool.true_eq_false, Bool.false_eq_true, reduceCtorEq, eq_self, not_true_eq_false, not_false_eq_true, or_self, or_false, false_or, or_true, true_or, and_self, and_true, true_and, and_false, false_and, bne_self_eq_false, beq_self_eq_true] at *
    try simp (disch := omega) only [AR.std, ints_getI, ints_clen, ints_len, ints_take, ints_drop, ints_app1, ints_app, ints_nil, ints_nil_app, ints_one, ints_set, ints_rep, wrapi, beq_iff_eq, decide_eq_true_eq, Bool.cond_false_right, Bool.and_eq_true, Bool.and_eq_false_iff, beq_eq_false_iff_ne, decide_eq_false_iff_not, Int.toNat_natCast, Bool.cond_true_left, Bool.or_eq_true, Bool.or_eq_false_iff, bne_iff_ne, bne_eq_false_iff_eq, Bool.not_eq_true', Bool.not_eq_false', Int.tdiv_eq_ediv_of_nonneg, Int.tmod_eq_emod_of_nonneg, List.length_cons, List.length_nil, List.length_append, List.length_set, List.length_replicate, List.drop_zero, Int.toNat_zero, ne_eq, natCast_eq, Bool.not_true, Bool.not_false, Bool.true_eq_false, Bool.false_eq_true, reduceCtorEq, eq_self, not_true_eq_false, not_false_eq_true, or_self, or_false, false_or, or_true, true_or, and_self, and_true, true_and, and_false, false_and, bne_self_eq_false, beq_self_eq_true] at *
    have := hT.1 hh
    exact ⟨⟨k + 1, by omega, by omega⟩, rfl, by simp only; omega⟩
  · rename_i hh
    clear hc0 hc1 hc2 hc3 hc4 hc5 hc6 hc7 hc8
    subst hA
    simp only [AR.std, ints_getI, ints_clen, ints_len, ints_take, ints_drop, ints_app1, ints_app, ints_nil, ints_nil_app, ints_one, ints_set, ints_rep, wrapi, beq_iff_eq, decide_eq_true_eq, Bool.cond_false_right, Bool.and_eq_true, Bool.and_eq_false_iff, beq_eq_false_iff_ne, decide_eq_false_iff_not, Int.toNat_natCast, Bool.cond_true_left, Bool.or_eq_true, Bool.or_eq_false_iff, bne_iff_ne, bne_eq_false_iff_eq, Bool.not_eq_true', Bool.not_eq_false', Int.tdiv_eq_ediv_of_nonneg, Int.tmod_eq_emod_of_nonneg, List.length_cons, List.length_nil, List.length_append, List.length_set, List.length_replicate, List.drop_zero, Int.toNat_zero, ne_eq, natCast_eq, Bool.not_true, Bool.not_false, Bool.true_eq_false, Bool.false_eq_true, reduceCtorEq, eq_self, not_true_eq_false, not_false_eq_true, or_self, or_false, false_or, or_true, true_or, and_self, and_true, true_and, and_false, false_and, bne_self_eq_false, beq_self_eq_true] at *
    try simp (disch := omega) only [AR.std, ints_getI, ints_clen, ints_len, ints_take, ints_drop, ints_app1, ints_app, ints_nil, ints_nil_app, ints_one, ints_set, ints_rep, wrapi, beq_iff_eq, decide_eq_true_eq, Bool.cond_false_right, Bool.and_eq_true, Bool.and_eq_false_iff, beq_eq_false_iff_ne, decide_eq_false_iff_not, Int.toNat_natCast, Bool.cond_true_left, Bool.or_eq_true, Bool.or_eq_false_iff, bne_iff_ne, bne_eq_false_iff_eq, Bool.not_eq_true', Bool.not_eq_false', Int.tdiv_eq_ediv_of_nonneg, Int.tmod_eq_emod_of_nonneg, List.length_cons, List.length_nil, List.length_append, List.length_set, List.length_replicate, List.drop_zero, Int.toNat_zero, ne_eq, natCast_eq, Bool.not_true, Bool.not_false, Bool.true_eq_false, Bool.false_eq_true, reduceCtorEq, eq_self, not_true_eq_false, not_false_eq_true, or_self, or_false, false_or, or_true, true_or, and_self, and_true, true_and, and_false, false_and, bne_self_eq_false, beq_self_eq_true] at *
    have : ¬ k < z := fun q => by have := hT.2 q; omega
    congr 2
    omega

end Try
end Go.Proofs
