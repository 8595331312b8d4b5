/- Contracts of functions of the program (F10), each under the conditions that its own statement names. -/
import Derived.Test.YtoiomklhpleceaaSx
import Derived.Test.YtoiomklhpleceaaPeDh
import Derived.Test.YtoiomklhpleceaaF1
import Derived.Test.YtoiomklhpleceaaF2
import Derived.Test.YtoiomklhpleceaaF3
import Derived.Test.YtoiomklhpleceaaF4
import Derived.Test.YtoiomklhpleceaaF5
import Derived.Test.YtoiomklhpleceaaF6
import Derived.Test.YtoiomklhpleceaaF7
import Derived.Test.YtoiomklhpleceaaF8
import Derived.Test.YtoiomklhpleceaaF9
namespace Go.Proofs
open Go Go.Pe Go.Dg
namespace Try
set_option linter.unusedSimpArgs false

set_option maxRecDepth 100000 in
theorem isNaN_fs (x : Int) : FS Try.prog [] 55 [I x] (· = B false) := by
  refine FS_ofT (args := fun A => [I x]) (R := fun A r => r = B false) Try.hT Try.mix Try.func55 rfl rfl (Nat.le_of_ble_eq_true rfl) ?_
  generalize hP : Try.prog = P
  intro A hA
  have hI : intsL = A.ints := by subst hA; rfl
  cbv
  repeat' (first | with_reducible exact True.intro | with_reducible refine And.intro ?_ ?_ | intro _)
  all_goals try cbv
  all_goals repeat' (first | with_reducible exact True.intro | with_reducible refine And.intro ?_ ?_ | intro _)
  all_goals try (subst hA; simp only [AR.std, ints_getI, ints_clen, ints_len, ints_take, ints_drop, ints_app1, ints_app, ints_nil, ints_nil_app, ints_one, ints_set, ints_rep, wrapi, beq_iff_eq, decide_eq_true_eq, Bool.cond_false_right, Bool.and_eq_true, Bool.and_eq_false_iff, beq_eq_false_iff_ne, decide_eq_false_iff_not, Int.toNat_natCast, Bool.cond_true_left, Bool.or_eq_true, Bool.or_eq_false_iff, bne_iff_ne, bne_eq_false_iff_eq, Bool.not_eq_true', Bool.not_eq_false', Int.tdiv_eq_ediv_of_nonneg, Int.tmod_eq_emod_of_nonneg, List.length_cons, List.length_nil, List.length_append, List.length_set, List.length_replicate, List.drop_zero, Int.toNat_zero, ne_eq, natCast_eq, Bool.not_true, Bool.not_false, Bool.true_eq_false, Bool.false_eq_true, reduceCtorEq, eq_self, not_true_eq_false, not_false_eq_true, or_self, or_false, false_or, or_true, true_or, and_self, and_true, true_and, and_false, false_and, bne_self_eq_false, beq_self_eq_true] at *; (try simp (disch := omega) only [AR.std, ints_getI, ints_clen, ints_len, ints_take, ints_drop, ints_app1, ints_app, ints_nil, ints_nil_app, ints_one, ints_set, ints_rep, wrapi, beq_iff_eq, decide_eq_true_eq, Bool.cond_false_right, Bool.and_eq_true, Bool.and_eq_false_iff, beq_eq_false_iff_ne, decide_eq_false_iff_not, Int.toNat_natCast, Bool.cond_true_left, Bool.or_eq_true, Bool.or_eq_false_iff, bne_iff_ne, bne_eq_false_iff_eq, Bool.not_eq_true', Bool.not_eq_false', Int.tdiv_eq_ediv_of_nonneg, Int.tmod_eq_emod_of_nonneg, List.length_cons, List.length_nil, List.length_append, List.length_set, List.length_replicate, List.drop_zero, Int.toNat_zero, ne_eq, natCast_eq, Bool.not_true, Bool.not_false, Bool.true_eq_false, Bool.false_eq_true, reduceCtorEq, eq_self, not_true_eq_false, not_false_eq_true, or_self, or_false, false_or, or_true, true_or, and_self, and_true, true_and, and_false, false_and, bne_self_eq_false, beq_self_eq_true] at *); first | done | rfl | omega | exact ints_ok _ | exact ints_all _ | (apply ints_part <;> first | omega | rfl))

set_option maxHeartbeats 1000000 in
set_option maxRecDepth 100000 in
theorem cmp_fs (x y : Int) : FS Try.prog [] 49 [I x, I y] (· = I (if x < y then -1 else if y < x then 1 else 0)) := by
  refine FS_ofT (args := fun A => [I x, I y]) (R := fun A r => r = I (if x < y then -1 else if y < x then 1 else 0)) Try.hT Try.mix Try.func49 rfl rfl (Nat.le_of_ble_eq_true rfl) ?_
  have hc0 := isNaN_fs x
  have hc1 := isNaN_fs y
  generalize hP : Try.prog = P
  rw [hP] at hc0 hc1
  generalize hout : (if x < y then -1 else if y < x then 1 else 0 : Int) = out
  intro A hA
  have hI : intsL = A.ints := by subst hA; rfl
  cbv
  repeat' (first | with_reducible exact True.intro | with_reducible refine And.intro ?_ ?_ | intro _)
  first | (refine .inl ⟨_, _, rfl, hc0, ?_⟩; rintro _ rfl) | refine ⟨_, hc0, ?_⟩
  cbv
  repeat' (first | with_reducible exact True.intro | with_reducible refine And.intro ?_ ?_ | intro _)
  first | (refine .inl ⟨_, _, rfl, hc1, ?_⟩; rintro _ rfl) | refine ⟨_, hc1, ?_⟩
  cbv
  repeat' (first | with_reducible exact True.intro | with_reducible refine And.intro ?_ ?_ | intro _)
  all_goals try cbv
  all_goals repeat' (first | with_reducible exact True.intro | with_reducible refine And.intro ?_ ?_ | intro _)
  all_goals try cbv
  all_goals repeat' (first | with_reducible exact True.intro | with_reducible refine And.intro ?_ ?_ | intro _)
  all_goals try cbv
  all_goals repeat' (first | with_reducible exact True.intro | with_reducible refine And.intro ?_ ?_ | intro _)
  all_goals try cbv
  all_goals repeat' (first | with_reducible exact True.intro | with_reducible refine And.intro ?_ ?_ | intro _)
  all_goals try (subst hA; simp only [AR.std, ints_getI, ints_clen, ints_len, ints_take, ints_drop, ints_app1, ints_app, ints_nil, ints_nil_app, ints_one, ints_set, ints_rep, wrapi, beq_iff_eq, decide_eq_true_eq, Bool.cond_false_right, Bool.and_eq_true, Bool.and_eq_false_iff, beq_eq_false_iff_ne, decide_eq_false_iff_not, Int.toNat_natCast, Bool.cond_true_left, Bool.or_eq_true, Bool.or_eq_false_iff, bne_iff_ne, bne_eq_false_iff_eq, Bool.not_eq_true', Bool.not_eq_false', Int.tdiv_eq_ediv_of_nonneg, Int.tmod_eq_emod_of_nonneg, List.length_cons, List.length_nil, List.length_append, List.length_set, List.length_replicate, List.drop_zero, Int.toNat_zero, ne_eq, natCast_eq, Bool.not_true, Bool.not_false, Bool.true_eq_false, Bool.false_eq_true, reduceCtorEq, eq_self, not_true_eq_false, not_false_eq_true, or_self, or_false, false_or, or_true, true_or, and_self, and_true, true_and, and_false, false_and, bne_self_eq_false, beq_self_eq_true] at *; (try simp (disch := omega) only [AR.std, ints_getI, ints_clen, ints_len, ints_take, ints_drop, ints_app1, ints_app, ints_nil, ints_nil_app, ints_one, ints_set, ints_rep, wrapi, beq_iff_eq, decide_eq_true_eq, Bool.cond_false_right, Bool.and_eq_true, Bool.and_eq_false_iff, beq_eq_false_iff_ne, decide_eq_false_iff_not, Int.toNat_natCast, Bool.cond_true_left, Bool.or_eq_true, Bool.or_eq_false_iff, bne_iff_ne, bne_eq_false_iff_eq, Bool.not_eq_true', Bool.not_eq_false', Int.tdiv_eq_ediv_of_nonneg, Int.tmod_eq_emod_of_nonneg, List.length_cons, List.length_nil, List.length_append, List.length_set, List.length_replicate, List.drop_zero, Int.toNat_zero, ne_eq, natCast_eq, Bool.not_true, Bool.not_false, Bool.true_eq_false, Bool.false_eq_true, reduceCtorEq, eq_self, not_true_eq_false, not_false_eq_true, or_self, or_false, false_or, or_true, true_or, and_self, and_true, true_and, and_false, false_and, bne_self_eq_false, beq_self_eq_true] at *); first | done | rfl | omega | exact ints_ok _ | exact ints_all _ | (apply ints_part <;> first | omega | rfl))
  all_goals subst hA
  all_goals simp only [AR.std, ints_getI, ints_clen, ints_len, ints_take, ints_drop, ints_app1, ints_app, ints_nil, ints_nil_app, ints_one, ints_set, ints_rep, wrapi, beq_iff_eq, decide_eq_true_eq, Bool.cond_false_right, Bool.and_eq_true, Bool.and_eq_false_iff, beq_eq_false_iff_ne, decide_eq_false_iff_not, Int.toNat_natCast, Bool.cond_true_left, Bool.or_eq_true, Bool.or_eq_false_iff, bne_iff_ne, bne_eq_false_iff_eq, Bool.not_eq_true', Bool.not_eq_false', Int.tdiv_eq_ediv_of_nonneg, Int.tmod_eq_emod_of_nonneg, List.length_cons, List.length_nil, List.length_append, List.length_set, List.length_replicate, List.drop_zero, Int.toNat_zero, ne_eq, natCast_eq, Bool.not_true, Bool.not_false, Bool.true_eq_false, Bool.false_eq_true, reduceCtorEq, eq_self, not_true_eq_false, not_false_eq_true, or_self, or_false, false_or, or_true, true_or, and_self, and_true, true_and, and_false, false_and, bne_self_eq_false, beq_self_eq_true] at *
  all_goals rw [← hout]
  all_goals congr 2
  all_goals (repeat' split) <;> omega

set_option maxHeartbeats 1000000 in
set_option maxRecDepth 100000 in
theorem compare_fs (x y : Nat) (hx : (dg x).length ≤ 1000000000) : FS Try.prog [] 41 [.lst (intsL (dg x)), .lst (intsL (dg y))] (· = I (cmpN x y)) := by
  have va := valid_dg x
  have vb := valid_dg y
  have ea := val_dg x
  have eb := val_dg y
  have lxy := dg_len_lt (x := x) (y := y)
  have lyx := dg_len_lt (x := y) (y := x)
  refine FS_ofT (args := fun A => [.lst (A.ints (dg x)), .lst (A.ints (dg y))]) (R := fun A r => r = I (cmpN x y)) Try.hT Try.mix Try.func41 rfl rfl (Nat.le_of_ble_eq_true rfl) ?_
  have hc0 := cmp_fs
  generalize hP : Try.prog = P
  rw [hP] at hc0
  generalize ha : dg x = a
  generalize hb : dg y = b
  generalize hout : cmpN x y = out
  intro A hA
  have hI : intsL = A.ints := by subst hA; rfl
  rw [ha] at hx va ea lxy lyx
  rw [hb] at vb eb lxy lyx
  unfold cmpN at hout
  cbv
  repeat' (first | with_reducible exact True.intro | with_reducible refine And.intro ?_ ?_ | intro _)
  all_goals try cbv
  all_goals repeat' (first | with_reducible exact True.intro | with_reducible refine And.intro ?_ ?_ | intro _)
  · rename_i hh
    have hc1 := hc0 a.length b.length
    have h1 : ((a.length : Int) ≠ b.length) := by subst hA; simp only [AR.std, ints_getI, ints_clen, ints_len, ints_take, ints_drop, ints_app1, ints_app, ints_nil, ints_nil_app, ints_one, ints_set, ints_rep, wrapi, beq_iff_eq, decide_eq_true_eq, Bool.cond_false_right, Bool.and_eq_true, Bool.and_eq_false_iff, beq_eq_false_iff_ne, decide_eq_false_iff_not, Int.toNat_natCast, Bool.cond_true_left, Bool.or_eq_true, Bool.or_eq_false_iff, bne_iff_ne, bne_eq_false_iff_eq, Bool.not_eq_true', Bool.not_eq_false', Int.tdiv_eq_ediv_of_nonneg, Int.tmod_eq_emod_of_nonneg, List.length_cons, List.length_nil, List.length_append, List.length_set, List.length_replicate, List.drop_zero, Int.toNat_zero, ne_eq, natCast_eq, Bool.not_true, Bool.not_false, Bool.true_eq_false, Bool.false_eq_true, reduceCtorEq, eq_self, not_true_eq_false, not_false_eq_true, or_self, or_false, false_or, or_true, true_or, and_self, and_true, true_and, and_false, false_and, bne_self_eq_false, beq_self_eq_true] at hh; exact hh
    have h2 : (if (a.length : Int) < b.length then -1 else if (b.length : Int) < a.length then 1 else 0) = out := by
      rw [← hout]
      by_cases h3 : a.length < b.length
      · rw [if_pos (by omega), if_pos (lxy h3)]
      · rw [if_neg (by omega), if_pos (by omega), if_neg (by have := lyx (by omega); omega), if_pos (lyx (by omega))]
    rw [h2] at hc1
    have h3 : A.cast (A.len (A.ints a)) = a.length := by subst hA; simp only [AR.std, ints_getI, ints_clen, ints_len, ints_take, ints_drop, ints_app1, ints_app, ints_nil, ints_nil_app, ints_one, ints_set, ints_rep, wrapi, beq_iff_eq, decide_eq_true_eq, Bool.cond_false_right, Bool.and_eq_true, Bool.and_eq_false_iff, beq_eq_false_iff_ne, decide_eq_false_iff_not, Int.toNat_natCast, Bool.cond_true_left, Bool.or_eq_true, Bool.or_eq_false_iff, bne_iff_ne, bne_eq_false_iff_eq, Bool.not_eq_true', Bool.not_eq_false', Int.tdiv_eq_ediv_of_nonneg, Int.tmod_eq_emod_of_nonneg, List.length_cons, List.length_nil, List.length_append, List.length_set, List.length_replicate, List.drop_zero, Int.toNat_zero, ne_eq, natCast_eq, Bool.not_true, Bool.not_false, Bool.true_eq_false, Bool.false_eq_true, reduceCtorEq, eq_self, not_true_eq_false, not_false_eq_true, or_self, or_false, false_or, or_true, true_or, and_self, and_true, true_and, and_false, false_and, bne_self_eq_false, beq_self_eq_true]
    have h4 : A.cast (A.len (A.ints b)) = b.length := by subst hA; simp only [AR.std, ints_getI, ints_clen, ints_len, ints_take, ints_drop, ints_app1, ints_app, ints_nil, ints_nil_app, ints_one, ints_set, ints_rep, wrapi, beq_iff_eq, decide_eq_true_eq, Bool.cond_false_right, Bool.and_eq_true, Bool.and_eq_false_iff, beq_eq_false_iff_ne, decide_eq_false_iff_not, Int.toNat_natCast, Bool.cond_true_left, Bool.or_eq_true, Bool.or_eq_false_iff, bne_iff_ne, bne_eq_false_iff_eq, Bool.not_eq_true', Bool.not_eq_false', Int.tdiv_eq_ediv_of_nonneg, Int.tmod_eq_emod_of_nonneg, List.length_cons, List.length_nil, List.length_append, List.length_set, List.length_replicate, List.drop_zero, Int.toNat_zero, ne_eq, natCast_eq, Bool.not_true, Bool.not_false, Bool.true_eq_false, Bool.false_eq_true, reduceCtorEq, eq_self, not_true_eq_false, not_false_eq_true, or_self, or_false, false_or, or_true, true_or, and_self, and_true, true_and, and_false, false_and, bne_self_eq_false, beq_self_eq_true]
    rw [← h3, ← h4] at hc1
    first | (refine .inl ⟨_, _, rfl, hc1, ?_⟩; rintro _ rfl) | refine ⟨_, hc1, ?_⟩
    cbv
    repeat' (first | with_reducible exact True.intro | with_reducible refine And.intro ?_ ?_ | intro _)
    all_goals try cbv
    all_goals repeat' (first | with_reducible exact True.intro | with_reducible refine And.intro ?_ ?_ | intro _)
    all_goals try (subst hA; simp only [AR.std, ints_getI, ints_clen, ints_len, ints_take, ints_drop, ints_app1, ints_app, ints_nil, ints_nil_app, ints_one, ints_set, ints_rep, wrapi, beq_iff_eq, decide_eq_true_eq, Bool.cond_false_right, Bool.and_eq_true, Bool.and_eq_false_iff, beq_eq_false_iff_ne, decide_eq_false_iff_not, Int.toNat_natCast, Bool.cond_true_left, Bool.or_eq_true, Bool.or_eq_false_iff, bne_iff_ne, bne_eq_false_iff_eq, Bool.not_eq_true', Bool.not_eq_false', Int.tdiv_eq_ediv_of_nonneg, Int.tmod_eq_emod_of_nonneg, List.length_cons, List.length_nil, List.length_append, List.length_set, List.length_replicate, List.drop_zero, Int.toNat_zero, ne_eq, natCast_eq, Bool.not_true, Bool.not_false, Bool.true_eq_false, Bool.false_eq_true, reduceCtorEq, eq_self, not_true_eq_false, not_false_eq_true, or_self, or_false, false_or, or_true, true_or, and_self, and_true, true_and, and_false, false_and, bne_self_eq_false, beq_self_eq_true] at *; (try simp (disch := omega) only [AR.std, ints_getI, ints_clen, ints_len, ints_take, ints_drop, ints_app1, ints_app, ints_nil, ints_nil_app, ints_one, ints_set, ints_rep, wrapi, beq_iff_eq, decide_eq_true_eq, Bool.cond_false_right, Bool.and_eq_true, Bool.and_eq_false_iff, beq_eq_false_iff_ne, decide_eq_false_iff_not, Int.toNat_natCast, Bool.cond_true_left, Bool.or_eq_true, Bool.or_eq_false_iff, bne_iff_ne, bne_eq_false_iff_eq, Bool.not_eq_true', Bool.not_eq_false', Int.tdiv_eq_ediv_of_nonneg, Int.tmod_eq_emod_of_nonneg, List.length_cons, List.length_nil, List.length_append, List.length_set, List.length_replicate, List.drop_zero, Int.toNat_zero, ne_eq, natCast_eq, Bool.not_true, Bool.not_false, Bool.true_eq_false, Bool.false_eq_true, reduceCtorEq, eq_self, not_true_eq_false, not_false_eq_true, or_self, or_false, false_or, or_true, true_or, and_self, and_true, true_and, and_false, false_and, bne_self_eq_false, beq_self_eq_true] at *); first | done | rfl | omega | exact ints_ok _ | exact ints_all _ | (apply ints_part <;> first | omega | rfl))
  · rename_i hh
    have hl : a.length = b.length := by subst hA; simp only [AR.std, ints_getI, ints_clen, ints_len, ints_take, ints_drop, ints_app1, ints_app, ints_nil, ints_nil_app, ints_one, ints_set, ints_rep, wrapi, beq_iff_eq, decide_eq_true_eq, Bool.cond_false_right, Bool.and_eq_true, Bool.and_eq_false_iff, beq_eq_false_iff_ne, decide_eq_false_iff_not, Int.toNat_natCast, Bool.cond_true_left, Bool.or_eq_true, Bool.or_eq_false_iff, bne_iff_ne, bne_eq_false_iff_eq, Bool.not_eq_true', Bool.not_eq_false', Int.tdiv_eq_ediv_of_nonneg, Int.tmod_eq_emod_of_nonneg, List.length_cons, List.length_nil, List.length_append, List.length_set, List.length_replicate, List.drop_zero, Int.toNat_zero, ne_eq, natCast_eq, Bool.not_true, Bool.not_false, Bool.true_eq_false, Bool.false_eq_true, reduceCtorEq, eq_self, not_true_eq_false, not_false_eq_true, or_self, or_false, false_or, or_true, true_or, and_self, and_true, true_and, and_false, false_and, bne_self_eq_false, beq_self_eq_true] at hh; omega
    refine ⟨[], [0, 1, 4, 5], 0, { i : Int // -1 ≤ i ∧ i < a.length ∧ a.drop (i + 1).toNat = b.drop (i + 1).toNat }, fun i => ⟨[(0, .pv (.lst (A.ints a))), (1, .pv (.lst (A.ints b))), (4, .pv (I 0)), (5, .pv (I i.1))], [], 41, 0⟩, fun i => (i.1 + 1).toNat, ⟨(a.length : Int) - 1, by omega, by omega, ?_⟩, ?_, ?_⟩
    · rw [List.drop_of_length_le (by omega), List.drop_of_length_le (by omega)]
    · subst hA; simp (disch := omega) only [AR.std, ints_getI, ints_clen, ints_len, ints_take, ints_drop, ints_app1, ints_app, ints_nil, ints_nil_app, ints_one, ints_set, ints_rep, wrapi, beq_iff_eq, decide_eq_true_eq, Bool.cond_false_right, Bool.and_eq_true, Bool.and_eq_false_iff, beq_eq_false_iff_ne, decide_eq_false_iff_not, Int.toNat_natCast, Bool.cond_true_left, Bool.or_eq_true, Bool.or_eq_false_iff, bne_iff_ne, bne_eq_false_iff_eq, Bool.not_eq_true', Bool.not_eq_false', Int.tdiv_eq_ediv_of_nonneg, Int.tmod_eq_emod_of_nonneg, List.length_cons, List.length_nil, List.length_append, List.length_set, List.length_replicate, List.drop_zero, Int.toNat_zero, ne_eq, natCast_eq, Bool.not_true, Bool.not_false, Bool.true_eq_false, Bool.false_eq_true, reduceCtorEq, eq_self, not_true_eq_false, not_false_eq_true, or_self, or_false, false_or, or_true, true_or, and_self, and_true, true_and, and_false, false_and, bne_self_eq_false, beq_self_eq_true]; rfl
    rintro ⟨i, hi0, hi1, hd⟩
    try simp only [natCast_eq] at hi1
    cbv
    repeat' (first | with_reducible exact True.intro | with_reducible refine And.intro ?_ ?_ | intro _)
    all_goals try cbv
    all_goals repeat' (first | with_reducible exact True.intro | with_reducible refine And.intro ?_ ?_ | intro _)
    all_goals try cbv
    all_goals repeat' (first | with_reducible exact True.intro | with_reducible refine And.intro ?_ ?_ | intro _)
    all_goals try cbv
    all_goals repeat' (first | with_reducible exact True.intro | with_reducible refine And.intro ?_ ?_ | intro _)
    all_goals try cbv
    all_goals repeat' (first | with_reducible exact True.intro | with_reducible refine And.intro ?_ ?_ | intro _)
    all_goals try (subst hA; simp only [AR.std, ints_getI, ints_clen, ints_len, ints_take, ints_drop, ints_app1, ints_app, ints_nil, ints_nil_app, ints_one, ints_set, ints_rep, wrapi, beq_iff_eq, decide_eq_true_eq, Bool.cond_false_right, Bool.and_eq_true, Bool.and_eq_false_iff, beq_eq_false_iff_ne, decide_eq_false_iff_not, Int.toNat_natCast, Bool.cond_true_left, Bool.or_eq_true, Bool.or_eq_false_iff, bne_iff_ne, bne_eq_false_iff_eq, Bool.not_eq_true', Bool.not_eq_false', Int.tdiv_eq_ediv_of_nonneg, Int.tmod_eq_emod_of_nonneg, List.length_cons, List.length_nil, List.length_append, List.length_set, List.length_replicate, List.drop_zero, Int.toNat_zero, ne_eq, natCast_eq, Bool.not_true, Bool.not_false, Bool.true_eq_false, Bool.false_eq_true, reduceCtorEq, eq_self, not_true_eq_false, not_false_eq_true, or_self, or_false, false_or, or_true, true_or, and_self, and_true, true_and, and_false, false_and, bne_self_eq_false, beq_self_eq_true] at *; (try simp (disch := omega) only [AR.std, ints_getI, ints_clen, ints_len, ints_take, ints_drop, ints_app1, ints_app, ints_nil, ints_nil_app, ints_one, ints_set, ints_rep, wrapi, beq_iff_eq, decide_eq_true_eq, Bool.cond_false_right, Bool.and_eq_true, Bool.and_eq_false_iff, beq_eq_false_iff_ne, decide_eq_false_iff_not, Int.toNat_natCast, Bool.cond_true_left, Bool.or_eq_true, Bool.or_eq_false_iff, bne_iff_ne, bne_eq_false_iff_eq, Bool.not_eq_true', Bool.not_eq_false', Int.tdiv_eq_ediv_of_nonneg, Int.tmod_eq_emod_of_nonneg, List.length_cons, List.length_nil, List.length_append, List.length_set, List.length_replicate, List.drop_zero, Int.toNat_zero, ne_eq, natCast_eq, Bool.not_true, Bool.not_false, Bool.true_eq_false, Bool.false_eq_true, reduceCtorEq, eq_self, not_true_eq_false, not_false_eq_true, or_self, or_false, false_or, or_true, true_or, and_self, and_true, true_and, and_false, false_and, bne_self_eq_false, beq_self_eq_true] at *); first | done | rfl | omega | exact ints_ok _ | exact ints_all _ | (apply ints_part <;> first | omega | rfl))
    · rename_i h1 h2
      simp only [natCast_eq] at ea eb hi1
      have hc1 := hc0 (a.getD i.toNat 0) (b.getD i.toNat 0)
      have h5 : 0 ≤ i := by subst hA; simpa only [AR.std, ints_getI, ints_clen, ints_len, ints_take, ints_drop, ints_app1, ints_app, ints_nil, ints_nil_app, ints_one, ints_set, ints_rep, wrapi, beq_iff_eq, decide_eq_true_eq, Bool.cond_false_right, Bool.and_eq_true, Bool.and_eq_false_iff, beq_eq_false_iff_ne, decide_eq_false_iff_not, Int.toNat_natCast, Bool.cond_true_left, Bool.or_eq_true, Bool.or_eq_false_iff, bne_iff_ne, bne_eq_false_iff_eq, Bool.not_eq_true', Bool.not_eq_false', Int.tdiv_eq_ediv_of_nonneg, Int.tmod_eq_emod_of_nonneg, List.length_cons, List.length_nil, List.length_append, List.length_set, List.length_replicate, List.drop_zero, Int.toNat_zero, ne_eq, natCast_eq, Bool.not_true, Bool.not_false, Bool.true_eq_false, Bool.false_eq_true, reduceCtorEq, eq_self, not_true_eq_false, not_false_eq_true, or_self, or_false, false_or, or_true, true_or, and_self, and_true, true_and, and_false, false_and, bne_self_eq_false, beq_self_eq_true] using h1
      have h6 : a.getD i.toNat 0 ≠ b.getD i.toNat 0 := by subst hA; simpa only [AR.std, ints_getI, ints_clen, ints_len, ints_take, ints_drop, ints_app1, ints_app, ints_nil, ints_nil_app, ints_one, ints_set, ints_rep, wrapi, beq_iff_eq, decide_eq_true_eq, Bool.cond_false_right, Bool.and_eq_true, Bool.and_eq_false_iff, beq_eq_false_iff_ne, decide_eq_false_iff_not, Int.toNat_natCast, Bool.cond_true_left, Bool.or_eq_true, Bool.or_eq_false_iff, bne_iff_ne, bne_eq_false_iff_eq, Bool.not_eq_true', Bool.not_eq_false', Int.tdiv_eq_ediv_of_nonneg, Int.tmod_eq_emod_of_nonneg, List.length_cons, List.length_nil, List.length_append, List.length_set, List.length_replicate, List.drop_zero, Int.toNat_zero, ne_eq, natCast_eq, Bool.not_true, Bool.not_false, Bool.true_eq_false, Bool.false_eq_true, reduceCtorEq, eq_self, not_true_eq_false, not_false_eq_true, or_self, or_false, false_or, or_true, true_or, and_self, and_true, true_and, and_false, false_and, bne_self_eq_false, beq_self_eq_true] using h2
      have e1 : (i + 1).toNat = i.toNat + 1 := by omega
      rw [e1] at hd
      have h7 : (if a.getD i.toNat 0 < b.getD i.toNat 0 then -1 else if b.getD i.toNat 0 < a.getD i.toNat 0 then 1 else 0) = out := by
        rw [← hout]
        have q1 : i.toNat < a.length := by omega
        by_cases h3 : a.getD i.toNat 0 < b.getD i.toNat 0
        · have := val_lt_at va vb hl q1 hd h3
          rw [if_pos h3, if_pos (by omega)]
        · have := val_lt_at vb va hl.symm (by omega) hd.symm (by omega)
          rw [if_neg h3, if_pos (by omega), if_neg (by omega), if_pos (by omega)]
      rw [h7] at hc1
      have h8 : A.gi (A.el (A.ints a) (A.nat i)) 0 = a.getD i.toNat 0 := by subst hA; simp only [AR.std, ints_getI, ints_clen, ints_len, ints_take, ints_drop, ints_app1, ints_app, ints_nil, ints_nil_app, ints_one, ints_set, ints_rep, wrapi, beq_iff_eq, decide_eq_true_eq, Bool.cond_false_right, Bool.and_eq_true, Bool.and_eq_false_iff, beq_eq_false_iff_ne, decide_eq_false_iff_not, Int.toNat_natCast, Bool.cond_true_left, Bool.or_eq_true, Bool.or_eq_false_iff, bne_iff_ne, bne_eq_false_iff_eq, Bool.not_eq_true', Bool.not_eq_false', Int.tdiv_eq_ediv_of_nonneg, Int.tmod_eq_emod_of_nonneg, List.length_cons, List.length_nil, List.length_append, List.length_set, List.length_replicate, List.drop_zero, Int.toNat_zero, ne_eq, natCast_eq, Bool.not_true, Bool.not_false, Bool.true_eq_false, Bool.false_eq_true, reduceCtorEq, eq_self, not_true_eq_false, not_false_eq_true, or_self, or_false, false_or, or_true, true_or, and_self, and_true, true_and, and_false, false_and, bne_self_eq_false, beq_self_eq_true]
      have h9 : A.gi (A.el (A.ints b) (A.nat i)) 0 = b.getD i.toNat 0 := by subst hA; simp only [AR.std, ints_getI, ints_clen, ints_len, ints_take, ints_drop, ints_app1, ints_app, ints_nil, ints_nil_app, ints_one, ints_set, ints_rep, wrapi, beq_iff_eq, decide_eq_true_eq, Bool.cond_false_right, Bool.and_eq_true, Bool.and_eq_false_iff, beq_eq_false_iff_ne, decide_eq_false_iff_not, Int.toNat_natCast, Bool.cond_true_left, Bool.or_eq_true, Bool.or_eq_false_iff, bne_iff_ne, bne_eq_false_iff_eq, Bool.not_eq_true', Bool.not_eq_false', Int.tdiv_eq_ediv_of_nonneg, Int.tmod_eq_emod_of_nonneg, List.length_cons, List.length_nil, List.length_append, List.length_set, List.length_replicate, List.drop_zero, Int.toNat_zero, ne_eq, natCast_eq, Bool.not_true, Bool.not_false, Bool.true_eq_false, Bool.false_eq_true, reduceCtorEq, eq_self, not_true_eq_false, not_false_eq_true, or_self, or_false, false_or, or_true, true_or, and_self, and_true, true_and, and_false, false_and, bne_self_eq_false, beq_self_eq_true]
      rw [← h8, ← h9] at hc1
      first | (refine .inl ⟨_, _, rfl, hc1, ?_⟩; rintro _ rfl) | refine ⟨_, hc1, ?_⟩
      cbv
      repeat' (first | with_reducible exact True.intro | with_reducible refine And.intro ?_ ?_ | intro _)
      all_goals try cbv
      all_goals repeat' (first | with_reducible exact True.intro | with_reducible refine And.intro ?_ ?_ | intro _)
      all_goals try cbv
      all_goals repeat' (first | with_reducible exact True.intro | with_reducible refine And.intro ?_ ?_ | intro _)
      all_goals try cbv
      all_goals repeat' (first | with_reducible exact True.intro | with_reducible refine And.intro ?_ ?_ | intro _)
      all_goals try cbv
      all_goals repeat' (first | with_reducible exact True.intro | with_reducible refine And.intro ?_ ?_ | intro _)
      all_goals try (subst hA; simp only [AR.std, ints_getI, ints_clen, ints_len, ints_take, ints_drop, ints_app1, ints_app, ints_nil, ints_nil_app, ints_one, ints_set, ints_rep, wrapi, beq_iff_eq, decide_eq_true_eq, Bool.cond_false_right, Bool.and_eq_true, Bool.and_eq_false_iff, beq_eq_false_iff_ne, decide_eq_false_iff_not, Int.toNat_natCast, Bool.cond_true_left, Bool.or_eq_true, Bool.or_eq_false_iff, bne_iff_ne, bne_eq_false_iff_eq, Bool.not_eq_true', Bool.not_eq_false', Int.tdiv_eq_ediv_of_nonneg, Int.tmod_eq_emod_of_nonneg, List.length_cons, List.length_nil, List.length_append, List.length_set, List.length_replicate, List.drop_zero, Int.toNat_zero, ne_eq, natCast_eq, Bool.not_true, Bool.not_false, Bool.true_eq_false, Bool.false_eq_true, reduceCtorEq, eq_self, not_true_eq_false, not_false_eq_true, or_self, or_false, false_or, or_true, true_or, and_self, and_true, true_and, and_false, false_and, bne_self_eq_false, beq_self_eq_true] at *; (try simp (disch := omega) only [AR.std, ints_getI, ints_clen, ints_len, ints_take, ints_drop, ints_app1, ints_app, ints_nil, ints_nil_app, ints_one, ints_set, ints_rep, wrapi, beq_iff_eq, decide_eq_true_eq, Bool.cond_false_right, Bool.and_eq_true, Bool.and_eq_false_iff, beq_eq_false_iff_ne, decide_eq_false_iff_not, Int.toNat_natCast, Bool.cond_true_left, Bool.or_eq_true, Bool.or_eq_false_iff, bne_iff_ne, bne_eq_false_iff_eq, Bool.not_eq_true', Bool.not_eq_false', Int.tdiv_eq_ediv_of_nonneg, Int.tmod_eq_emod_of_nonneg, List.length_cons, List.length_nil, List.length_append, List.length_set, List.length_replicate, List.drop_zero, Int.toNat_zero, ne_eq, natCast_eq, Bool.not_true, Bool.not_false, Bool.true_eq_false, Bool.false_eq_true, reduceCtorEq, eq_self, not_true_eq_false, not_false_eq_true, or_self, or_false, false_or, or_true, true_or, and_self, and_true, true_and, and_false, false_and, bne_self_eq_false, beq_self_eq_true] at *); first | done | rfl | omega | exact ints_ok _ | exact ints_all _ | (apply ints_part <;> first | omega | rfl))
    · rename_i h1 h2
      subst hA
      simp only [AR.std, ints_getI, ints_clen, ints_len, ints_take, ints_drop, ints_app1, ints_app, ints_nil, ints_nil_app, ints_one, ints_set, ints_rep, wrapi, beq_iff_eq, decide_eq_true_eq, Bool.cond_false_right, Bool.and_eq_true, Bool.and_eq_false_iff, beq_eq_false_iff_ne, decide_eq_false_iff_not, Int.toNat_natCast, Bool.cond_true_left, Bool.or_eq_true, Bool.or_eq_false_iff, bne_iff_ne, bne_eq_false_iff_eq, Bool.not_eq_true', Bool.not_eq_false', Int.tdiv_eq_ediv_of_nonneg, Int.tmod_eq_emod_of_nonneg, List.length_cons, List.length_nil, List.length_append, List.length_set, List.length_replicate, List.drop_zero, Int.toNat_zero, ne_eq, natCast_eq, Bool.not_true, Bool.not_false, Bool.true_eq_false, Bool.false_eq_true, reduceCtorEq, eq_self, not_true_eq_false, not_false_eq_true, or_self, or_false, false_or, or_true, true_or, and_self, and_true, true_and, and_false, false_and, bne_self_eq_false, beq_self_eq_true] at *
      try simp (disch := omega) only [AR.std, ints_getI, ints_clen, ints_len, ints_take, ints_drop, ints_app1, ints_app, ints_nil, ints_nil_app, ints_one, ints_set, ints_rep, wrapi, beq_iff_eq, decide_eq_true_eq, Bool.cond_false_right, Bool.and_eq_true, Bool.and_eq_false_iff, beq_eq_false_iff_ne, decide_eq_false_iff_not, Int.toNat_natCast, Bool.cond_true_left, Bool.or_eq_true, Bool.or_eq_false_iff, bne_iff_ne, bne_eq_false_iff_eq, Bool.not_eq_true', Bool.not_eq_false', Int.tdiv_eq_ediv_of_nonneg, Int.tmod_eq_emod_of_nonneg, List.length_cons, List.length_nil, List.length_append, List.length_set, List.length_replicate, List.drop_zero, Int.toNat_zero, ne_eq, natCast_eq, Bool.not_true, Bool.not_false, Bool.true_eq_false, Bool.false_eq_true, reduceCtorEq, eq_self, not_true_eq_false, not_false_eq_true, or_self, or_false, false_or, or_true, true_or, and_self, and_true, true_and, and_false, false_and, bne_self_eq_false, beq_self_eq_true] at *
      have e1 : (i + 1).toNat = i.toNat + 1 := by omega
      have e2 : (i - 1 + 1).toNat = i.toNat := by omega
      rw [e1] at hd
      refine ⟨⟨i - 1, by omega, by omega, ?_⟩, rfl, ?_⟩
      · rw [e2]; exact drop_eq_step hl (by omega) hd h2
      · simp only; omega
    · rename_i h1
      subst hA
      simp only [AR.std, ints_getI, ints_clen, ints_len, ints_take, ints_drop, ints_app1, ints_app, ints_nil, ints_nil_app, ints_one, ints_set, ints_rep, wrapi, beq_iff_eq, decide_eq_true_eq, Bool.cond_false_right, Bool.and_eq_true, Bool.and_eq_false_iff, beq_eq_false_iff_ne, decide_eq_false_iff_not, Int.toNat_natCast, Bool.cond_true_left, Bool.or_eq_true, Bool.or_eq_false_iff, bne_iff_ne, bne_eq_false_iff_eq, Bool.not_eq_true', Bool.not_eq_false', Int.tdiv_eq_ediv_of_nonneg, Int.tmod_eq_emod_of_nonneg, List.length_cons, List.length_nil, List.length_append, List.length_set, List.length_replicate, List.drop_zero, Int.toNat_zero, ne_eq, natCast_eq, Bool.not_true, Bool.not_false, Bool.true_eq_false, Bool.false_eq_true, reduceCtorEq, eq_self, not_true_eq_false, not_false_eq_true, or_self, or_false, false_or, or_true, true_or, and_self, and_true, true_and, and_false, false_and, bne_self_eq_false, beq_self_eq_true] at *
      try simp (disch := omega) only [AR.std, ints_getI, ints_clen, ints_len, ints_take, ints_drop, ints_app1, ints_app, ints_nil, ints_nil_app, ints_one, ints_set, ints_rep, wrapi, beq_iff_eq, decide_eq_true_eq, Bool.cond_false_right, Bool.and_eq_true, Bool.and_eq_false_iff, beq_eq_false_iff_ne, decide_eq_false_iff_not, Int.toNat_natCast, Bool.cond_true_left, Bool.or_eq_true, Bool.or_eq_false_iff, bne_iff_ne, bne_eq_false_iff_eq, Bool.not_eq_true', Bool.not_eq_false', Int.tdiv_eq_ediv_of_nonneg, Int.tmod_eq_emod_of_nonneg, List.length_cons, List.length_nil, List.length_append, List.length_set, List.length_replicate, List.drop_zero, Int.toNat_zero, ne_eq, natCast_eq, Bool.not_true, Bool.not_false, Bool.true_eq_false, Bool.false_eq_true, reduceCtorEq, eq_self, not_true_eq_false, not_false_eq_true, or_self, or_false, false_or, or_true, true_or, and_self, and_true, true_and, and_false, false_and, bne_self_eq_false, beq_self_eq_true] at *
      have e1 : (i + 1).toNat = 0 := by omega
      rw [e1, List.drop_zero, List.drop_zero] at hd
      rw [hd] at ea
      have : x = y := by omega
      rw [← hout, if_neg (by omega), if_neg (by omega)]

set_option maxHeartbeats 1000000 in
set_option maxRecDepth 100000 in
theorem up_fs (a : List Int) (ha : Valid a) (k : Int) (hk0 : 0 ≤ k) (hk1 : k ≤ 100000000) (hlen : a.length ≤ 100000000) : FS Try.prog [] 42 [.lst (intsL a), I k] (· = .lst (intsL (dg (val a * 2 ^ k.toNat).toNat))) := by
  refine FS_ofT (args := fun A => [.lst (A.ints a), I k]) (R := fun A r => r = .lst (A.ints (dg (val a * 2 ^ k.toNat).toNat))) Try.hT Try.mix Try.func42 rfl rfl (Nat.le_of_ble_eq_true rfl) ?_
  have hc0 := trim_fs
  generalize hP : Try.prog = P
  rw [hP] at hc0
  generalize hout : dg (val a * 2 ^ k.toNat).toNat = out
  intro A hA
  have hI : intsL = A.ints := by subst hA; rfl
  cbv
  repeat' (first | with_reducible exact True.intro | with_reducible refine And.intro ?_ ?_ | intro _)
  all_goals try cbv
  all_goals repeat' (first | with_reducible exact True.intro | with_reducible refine And.intro ?_ ?_ | intro _)
  all_goals try (subst hA; simp only [AR.std, ints_getI, ints_clen, ints_len, ints_take, ints_drop, ints_app1, ints_app, ints_nil, ints_nil_app, ints_one, ints_set, ints_rep, wrapi, beq_iff_eq, decide_eq_true_eq, Bool.cond_false_right, Bool.and_eq_true, Bool.and_eq_false_iff, beq_eq_false_iff_ne, decide_eq_false_iff_not, Int.toNat_natCast, Bool.cond_true_left, Bool.or_eq_true, Bool.or_eq_false_iff, bne_iff_ne, bne_eq_false_iff_eq, Bool.not_eq_true', Bool.not_eq_false', Int.tdiv_eq_ediv_of_nonneg, Int.tmod_eq_emod_of_nonneg, List.length_cons, List.length_nil, List.length_append, List.length_set, List.length_replicate, List.drop_zero, Int.toNat_zero, ne_eq, natCast_eq, Bool.not_true, Bool.not_false, Bool.true_eq_false, Bool.false_eq_true, reduceCtorEq, eq_self, not_true_eq_false, not_false_eq_true, or_self, or_false, false_or, or_true, true_or, and_self, and_true, true_and, and_false, false_and, bne_self_eq_false, beq_self_eq_true] at *; (try simp (disch := omega) only [AR.std, ints_getI, ints_clen, ints_len, ints_take, ints_drop, ints_app1, ints_app, ints_nil, ints_nil_app, ints_one, ints_set, ints_rep, wrapi, beq_iff_eq, decide_eq_true_eq, Bool.cond_false_right, Bool.and_eq_true, Bool.and_eq_false_iff, beq_eq_false_iff_ne, decide_eq_false_iff_not, Int.toNat_natCast, Bool.cond_true_left, Bool.or_eq_true, Bool.or_eq_false_iff, bne_iff_ne, bne_eq_false_iff_eq, Bool.not_eq_true', Bool.not_eq_false', Int.tdiv_eq_ediv_of_nonneg, Int.tmod_eq_emod_of_nonneg, List.length_cons, List.length_nil, List.length_append, List.length_set, List.length_replicate, List.drop_zero, Int.toNat_zero, ne_eq, natCast_eq, Bool.not_true, Bool.not_false, Bool.true_eq_false, Bool.false_eq_true, reduceCtorEq, eq_self, not_true_eq_false, not_false_eq_true, or_self, or_false, false_or, or_true, true_or, and_self, and_true, true_and, and_false, false_and, bne_self_eq_false, beq_self_eq_true] at *); first | done | rfl | omega | exact ints_ok _ | exact ints_all _ | (apply ints_part <;> first | omega | rfl))
  · rename_i hh
    subst hA
    simp only [AR.std, ints_getI, ints_clen, ints_len, ints_take, ints_drop, ints_app1, ints_app, ints_nil, ints_nil_app, ints_one, ints_set, ints_rep, wrapi, beq_iff_eq, decide_eq_true_eq, Bool.cond_false_right, Bool.and_eq_true, Bool.and_eq_false_iff, beq_eq_false_iff_ne, decide_eq_false_iff_not, Int.toNat_natCast, Bool.cond_true_left, Bool.or_eq_true, Bool.or_eq_false_iff, bne_iff_ne, bne_eq_false_iff_eq, Bool.not_eq_true', Bool.not_eq_false', Int.tdiv_eq_ediv_of_nonneg, Int.tmod_eq_emod_of_nonneg, List.length_cons, List.length_nil, List.length_append, List.length_set, List.length_replicate, List.drop_zero, Int.toNat_zero, ne_eq, natCast_eq, Bool.not_true, Bool.not_false, Bool.true_eq_false, Bool.false_eq_true, reduceCtorEq, eq_self, not_true_eq_false, not_false_eq_true, or_self, or_false, false_or, or_true, true_or, and_self, and_true, true_and, and_false, false_and, bne_self_eq_false, beq_self_eq_true] at *
    try simp (disch := omega) only [AR.std, ints_getI, ints_clen, ints_len, ints_take, ints_drop, ints_app1, ints_app, ints_nil, ints_nil_app, ints_one, ints_set, ints_rep, wrapi, beq_iff_eq, decide_eq_true_eq, Bool.cond_false_right, Bool.and_eq_true, Bool.and_eq_false_iff, beq_eq_false_iff_ne, decide_eq_false_iff_not, Int.toNat_natCast, Bool.cond_true_left, Bool.or_eq_true, Bool.or_eq_false_iff, bne_iff_ne, bne_eq_false_iff_eq, Bool.not_eq_true', Bool.not_eq_false', Int.tdiv_eq_ediv_of_nonneg, Int.tmod_eq_emod_of_nonneg, List.length_cons, List.length_nil, List.length_append, List.length_set, List.length_replicate, List.drop_zero, Int.toNat_zero, ne_eq, natCast_eq, Bool.not_true, Bool.not_false, Bool.true_eq_false, Bool.false_eq_true, reduceCtorEq, eq_self, not_true_eq_false, not_false_eq_true, or_self, or_false, false_or, or_true, true_or, and_self, and_true, true_and, and_false, false_and, bne_self_eq_false, beq_self_eq_true] at *
    have h0 : a = [] := List.length_eq_zero_iff.1 (by omega)
    subst h0
    rw [← hout]
    simp [val, dg_zero, intsL]
  refine ⟨[], [0, 1, 4, 5, 6, 21, 22, 23], 1, { p : Int × Int × List Int // 0 ≤ p.1 ∧ p.1 ≤ a.length ∧ 0 ≤ p.2.1 ∧ p.2.1 < 65536 ∧ p.2.2.length = k.toNat / 16 + p.1.toNat ∧ Valid p.2.2 ∧ val p.2.2 + p.2.1 * 65536 ^ (k.toNat / 16 + p.1.toNat) = val (a.take p.1.toNat) * 2 ^ (k.toNat % 16) * 65536 ^ (k.toNat / 16) },
    fun p => ⟨[(0, .pv (.lst (A.ints a))), (1, .pv (I k)), (4, .pv (.val (.slice none 0 0))), (5, .own 0), (6, .pv (I p.1.2.1)), (21, .pv (.lst (A.ints a))), (22, .pv (I (A.cast (A.len (A.ints a))))), (23, .pv (I p.1.1))], [.row 3 1 (A.ints p.1.2.2)], 46, 0⟩,
    fun p => (a.length - p.1.1).toNat, ⟨(0, 0, List.replicate (k.toNat / 16) 0), Int.le_refl _, by simp only; omega, Int.le_refl _, by simp only; omega, by simp, Valid.rep _, by simp [val_rep, val]⟩, ?_, ?_⟩
  · have e1 : (k / 16).toNat = k.toNat / 16 := by omega
    subst hA
    simp (disch := omega) only [AR.std, ints_getI, ints_clen, ints_len, ints_take, ints_drop, ints_app1, ints_app, ints_nil, ints_nil_app, ints_one, ints_set, ints_rep, wrapi, beq_iff_eq, decide_eq_true_eq, Bool.cond_false_right, Bool.and_eq_true, Bool.and_eq_false_iff, beq_eq_false_iff_ne, decide_eq_false_iff_not, Int.toNat_natCast, Bool.cond_true_left, Bool.or_eq_true, Bool.or_eq_false_iff, bne_iff_ne, bne_eq_false_iff_eq, Bool.not_eq_true', Bool.not_eq_false', Int.tdiv_eq_ediv_of_nonneg, Int.tmod_eq_emod_of_nonneg, List.length_cons, List.length_nil, List.length_append, List.length_set, List.length_replicate, List.drop_zero, Int.toNat_zero, ne_eq, natCast_eq, Bool.not_true, Bool.not_false, Bool.true_eq_false, Bool.false_eq_true, reduceCtorEq, eq_self, not_true_eq_false, not_false_eq_true, or_self, or_false, false_or, or_true, true_or, and_self, and_true, true_and, and_false, false_and, bne_self_eq_false, beq_self_eq_true]
    rw [e1]
    rfl
  rintro ⟨⟨i, c, o⟩, hi0, hi1, hc0', hc1', hol, hov, hval⟩
  simp only [natCast_eq] at hi0 hi1 hc0' hc1' hol hov hval
  have hx := ha.get i.toNat
  have hp := pow2_le (b := k.toNat % 16) (by omega)
  have hxp := shift_bound hx hp
  have e1 : min (k % 16).toNat 64 = k.toNat % 16 := by omega
  cbv
  repeat' (first | with_reducible exact True.intro | with_reducible refine And.intro ?_ ?_ | intro _)
  all_goals try cbv
  all_goals repeat' (first | with_reducible exact True.intro | with_reducible refine And.intro ?_ ?_ | intro _)
  all_goals try cbv
  all_goals repeat' (first | with_reducible exact True.intro | with_reducible refine And.intro ?_ ?_ | intro _)
  all_goals try cbv
  all_goals repeat' (first | with_reducible exact True.intro | with_reducible refine And.intro ?_ ?_ | intro _)
  all_goals try cbv
  all_goals repeat' (first | with_reducible exact True.intro | with_reducible refine And.intro ?_ ?_ | intro _)
  all_goals try (subst hA; simp only [AR.std, ints_getI, ints_clen, ints_len, ints_take, ints_drop, ints_app1, ints_app, ints_nil, ints_nil_app, ints_one, ints_set, ints_rep, wrapi, beq_iff_eq, decide_eq_true_eq, Bool.cond_false_right, Bool.and_eq_true, Bool.and_eq_false_iff, beq_eq_false_iff_ne, decide_eq_false_iff_not, Int.toNat_natCast, Bool.cond_true_left, Bool.or_eq_true, Bool.or_eq_false_iff, bne_iff_ne, bne_eq_false_iff_eq, Bool.not_eq_true', Bool.not_eq_false', Int.tdiv_eq_ediv_of_nonneg, Int.tmod_eq_emod_of_nonneg, List.length_cons, List.length_nil, List.length_append, List.length_set, List.length_replicate, List.drop_zero, Int.toNat_zero, ne_eq, natCast_eq, Bool.not_true, Bool.not_false, Bool.true_eq_false, Bool.false_eq_true, reduceCtorEq, eq_self, not_true_eq_false, not_false_eq_true, or_self, or_false, false_or, or_true, true_or, and_self, and_true, true_and, and_false, false_and, bne_self_eq_false, beq_self_eq_true] at *; (try simp (disch := omega) only [AR.std, ints_getI, ints_clen, ints_len, ints_take, ints_drop, ints_app1, ints_app, ints_nil, ints_nil_app, ints_one, ints_set, ints_rep, wrapi, beq_iff_eq, decide_eq_true_eq, Bool.cond_false_right, Bool.and_eq_true, Bool.and_eq_false_iff, beq_eq_false_iff_ne, decide_eq_false_iff_not, Int.toNat_natCast, Bool.cond_true_left, Bool.or_eq_true, Bool.or_eq_false_iff, bne_iff_ne, bne_eq_false_iff_eq, Bool.not_eq_true', Bool.not_eq_false', Int.tdiv_eq_ediv_of_nonneg, Int.tmod_eq_emod_of_nonneg, List.length_cons, List.length_nil, List.length_append, List.length_set, List.length_replicate, List.drop_zero, Int.toNat_zero, ne_eq, natCast_eq, Bool.not_true, Bool.not_false, Bool.true_eq_false, Bool.false_eq_true, reduceCtorEq, eq_self, not_true_eq_false, not_false_eq_true, or_self, or_false, false_or, or_true, true_or, and_self, and_true, true_and, and_false, false_and, bne_self_eq_false, beq_self_eq_true] at *); first | done | rfl | omega | exact ints_ok _ | exact ints_all _ | (apply ints_part <;> first | omega | rfl))
  · rename_i hh
    subst hA
    simp only [AR.std, ints_getI, ints_clen, ints_len, ints_take, ints_drop, ints_app1, ints_app, ints_nil, ints_nil_app, ints_one, ints_set, ints_rep, wrapi, beq_iff_eq, decide_eq_true_eq, Bool.cond_false_right, Bool.and_eq_true, Bool.and_eq_false_iff, beq_eq_false_iff_ne, decide_eq_false_iff_not, Int.toNat_natCast, Bool.cond_true_left, Bool.or_eq_true, Bool.or_eq_false_iff, bne_iff_ne, bne_eq_false_iff_eq, Bool.not_eq_true', Bool.not_eq_false', Int.tdiv_eq_ediv_of_nonneg, Int.tmod_eq_emod_of_nonneg, List.length_cons, List.length_nil, List.length_append, List.length_set, List.length_replicate, List.drop_zero, Int.toNat_zero, ne_eq, natCast_eq, Bool.not_true, Bool.not_false, Bool.true_eq_false, Bool.false_eq_true, reduceCtorEq, eq_self, not_true_eq_false, not_false_eq_true, or_self, or_false, false_or, or_true, true_or, and_self, and_true, true_and, and_false, false_and, bne_self_eq_false, beq_self_eq_true] at *
    rw [show IntKind.i64.bits = 64 from rfl] at *
    simp (disch := omega) only [AR.std, ints_getI, ints_clen, ints_len, ints_take, ints_drop, ints_app1, ints_app, ints_nil, ints_nil_app, ints_one, ints_set, ints_rep, wrapi, beq_iff_eq, decide_eq_true_eq, Bool.cond_false_right, Bool.and_eq_true, Bool.and_eq_false_iff, beq_eq_false_iff_ne, decide_eq_false_iff_not, Int.toNat_natCast, Bool.cond_true_left, Bool.or_eq_true, Bool.or_eq_false_iff, bne_iff_ne, bne_eq_false_iff_eq, Bool.not_eq_true', Bool.not_eq_false', Int.tdiv_eq_ediv_of_nonneg, Int.tmod_eq_emod_of_nonneg, List.length_cons, List.length_nil, List.length_append, List.length_set, List.length_replicate, List.drop_zero, Int.toNat_zero, ne_eq, natCast_eq, Bool.not_true, Bool.not_false, Bool.true_eq_false, Bool.false_eq_true, reduceCtorEq, eq_self, not_true_eq_false, not_false_eq_true, or_self, or_false, false_or, or_true, true_or, and_self, and_true, true_and, and_false, false_and, bne_self_eq_false, beq_self_eq_true] at *
    rw [e1]
    have e2 : (i + 1).toNat = i.toNat + 1 := by omega
    simp (disch := omega) only [AR.std, ints_getI, ints_clen, ints_len, ints_take, ints_drop, ints_app1, ints_app, ints_nil, ints_nil_app, ints_one, ints_set, ints_rep, wrapi, beq_iff_eq, decide_eq_true_eq, Bool.cond_false_right, Bool.and_eq_true, Bool.and_eq_false_iff, beq_eq_false_iff_ne, decide_eq_false_iff_not, Int.toNat_natCast, Bool.cond_true_left, Bool.or_eq_true, Bool.or_eq_false_iff, bne_iff_ne, bne_eq_false_iff_eq, Bool.not_eq_true', Bool.not_eq_false', Int.tdiv_eq_ediv_of_nonneg, Int.tmod_eq_emod_of_nonneg, List.length_cons, List.length_nil, List.length_append, List.length_set, List.length_replicate, List.drop_zero, Int.toNat_zero, ne_eq, natCast_eq, Bool.not_true, Bool.not_false, Bool.true_eq_false, Bool.false_eq_true, reduceCtorEq, eq_self, not_true_eq_false, not_false_eq_true, or_self, or_false, false_or, or_true, true_or, and_self, and_true, true_and, and_false, false_and, bne_self_eq_false, beq_self_eq_true] at *
    refine ⟨⟨(i + 1, (c + a.getD i.toNat 0 * 2 ^ (k.toNat % 16)) / 65536, o ++ [(c + a.getD i.toNat 0 * 2 ^ (k.toNat % 16)) % 65536]), ?_, ?_, ?_, ?_, ?_, ?_, ?_⟩, rfl, ?_⟩
    · simp only; omega
    · simp only; omega
    · simp only; omega
    · simp only; omega
    · simp only [List.length_append, List.length_cons, List.length_nil]; omega
    · exact hov.append (Valid.one (by omega) (by omega))
    · simp only [e2]
      rw [val_take_succ (by omega)]
      exact up_step hval hol rfl
    · simp only; omega
  · rename_i hh
    simp only [natCast_eq] at hi1
    have h := hc0 (o ++ [c]) (by simp only [List.length_append, List.length_cons, List.length_nil]; omega)
    have hto : trimL (o ++ [c]) = out := by
      rw [trim_dg (hov.append (Valid.one hc0' hc1')), ← hout, val_snoc, hol]
      congr 2
      have h1 : i.toNat = a.length := by subst hA; simp only [AR.std, ints_getI, ints_clen, ints_len, ints_take, ints_drop, ints_app1, ints_app, ints_nil, ints_nil_app, ints_one, ints_set, ints_rep, wrapi, beq_iff_eq, decide_eq_true_eq, Bool.cond_false_right, Bool.and_eq_true, Bool.and_eq_false_iff, beq_eq_false_iff_ne, decide_eq_false_iff_not, Int.toNat_natCast, Bool.cond_true_left, Bool.or_eq_true, Bool.or_eq_false_iff, bne_iff_ne, bne_eq_false_iff_eq, Bool.not_eq_true', Bool.not_eq_false', Int.tdiv_eq_ediv_of_nonneg, Int.tmod_eq_emod_of_nonneg, List.length_cons, List.length_nil, List.length_append, List.length_set, List.length_replicate, List.drop_zero, Int.toNat_zero, ne_eq, natCast_eq, Bool.not_true, Bool.not_false, Bool.true_eq_false, Bool.false_eq_true, reduceCtorEq, eq_self, not_true_eq_false, not_false_eq_true, or_self, or_false, false_or, or_true, true_or, and_self, and_true, true_and, and_false, false_and, bne_self_eq_false, beq_self_eq_true] at hh; omega
      rw [h1, List.take_length] at hval
      rw [h1, Int.mul_comm (65536 ^ _) c, hval, Int.mul_assoc, pow_split]
    rw [hto, hI] at h
    have e : A.ints (o ++ [c]) = A.app (A.ints o) [I c] := by subst hA; exact (ints_app1 o c).symm
    rw [e] at h
    first | (refine .inl ⟨_, _, rfl, h, ?_⟩; rintro _ rfl) | refine ⟨_, h, ?_⟩
    cbv
    repeat' (first | with_reducible exact True.intro | with_reducible refine And.intro ?_ ?_ | intro _)

end Try
end Go.Proofs
