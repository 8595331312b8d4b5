/- Contracts of functions over numbers as lists of digits to the base 65536: the first ones. -/
import Derived.Test.YtlkiofkkjbodjaaGreatDoorDSx
import Derived.Test.YtlkiofkkjbodjaaGreatDoorDEvD
set_option maxHeartbeats 1000000
set_option maxRecDepth 100000
namespace Go.Proofs
open Go Go.Pe Go.Dg
namespace Tryz
set_option linter.unusedSimpArgs false
set_option linter.unusedVariables false
set_option linter.unusedSimpArgs false
variable {gl : List (Nat × Obj)}

theorem trimO_fs (els : List Int) (he : els.length ≤ 2000000000) : FS Tryz.prog gl 223 [.lst (intsL els)] (· = .lst (intsL (trimL els))) := by
 refine FS_ofT (args := fun A => [.lst (A.ints els)]) (R := fun A r => r = .lst (A.ints (trimL els))) Tryz.hT Tryz.mix Tryz.func223 rfl rfl (Nat.le_of_ble_eq_true rfl) ?_
 generalize hP : Tryz.prog = P
 generalize hout : trimL els = out
 intro A hA
 cbv
 refine loopE hA ⟨[], [0], 0, { l : List Int // trimL l = out ∧ l.length ≤ els.length}, fun l => ⟨[(0, .pv (.lst (A.ints l.1)))], [], 21, 0⟩, fun l => l.1.length, ⟨els, hout, Nat.le_refl _⟩, rfl, ?_⟩
 rintro ⟨l, hl, hll⟩
 cbv
 repeat' (first | exact True.intro | refine And.intro ?_ ?_ | intro _)
 all_goals try cbv
 all_goals repeat' (first | exact True.intro | refine And.intro ?_ ?_ | intro _)
 all_goals subst hA
 all_goals simp (disch := omega) only [AR.std, ints_getI, ints_clen, ints_len, ints_take, ints_drop, wrapi, beq_iff_eq, decide_eq_true_eq, Bool.cond_false_right, Bool.and_eq_true, Bool.and_eq_false_iff, beq_eq_false_iff_ne, decide_eq_false_iff_not] at *
 all_goals try omega
 ·exact ints_part l _ _ (by omega) rfl
 ·exact ints_all l
 ·rename_i hz
  have e1 : ((l.length : Int) - 1).toNat = l.length - 1 := by omega
  rw [e1] at hz ⊢
  refine ⟨⟨_, ?_, ?_⟩, rfl, ?_⟩
  ·show trimL (List.drop 0 (List.take _ l)) = out
   rw [List.drop_zero, trimL_take (by omega) hz.2]; exact hl
  ·simp; omega
  ·simp; omega
 ·rename_i hz
  congr 2
  rw [← hl]
  rcases hz with hz | hz
  ·exact (trimL_len0 (by omega)).symm
  ·by_cases h0 : l.length = 0
   ·exact (trimL_len0 h0).symm
   ·have e1 : ((l.length : Int) - 1).toNat = l.length - 1 := by omega
    rw [e1] at hz
    exact (trimL_last (by omega) hz).symm
theorem smallO_fs (n : Int) (h0 : n ≤ 9223372036854775807) (h1 : -9223372036854775808 ≤ n) : FS Tryz.prog gl 131 [I n] (· = .lst (intsL (dg n.toNat))) := by
 refine FS_ofT (args := fun A => [I n]) (R := fun A r => r = .lst (A.ints (dg n.toNat))) Tryz.hT Tryz.mix Tryz.func131 rfl rfl (Nat.le_of_ble_eq_true rfl) ?_
 generalize hP : Tryz.prog = P
 generalize hout : dg n.toNat = out
 intro A hA
 cbv
 refine loopE hA ⟨[.slot 3 3 1], [0, 3], 1, { l : Int × List Int // l.2 ++ dg l.1.toNat = out ∧ -9223372036854775808 ≤ l.1 ∧ l.1 ≤ n ∧ l.2.length + (dg l.1.toNat).length ≤ 100 }, fun l => ⟨[(0, .pv (I l.1.1)), (3, .own 0)], [.row 3 1 (A.ints l.1.2)], 14, 0⟩, fun l => l.1.1.toNat, ⟨(n, []), hout, h1, Int.le_refl _, ?_⟩, ?_, ?_⟩
 ·have := dg_len n.toNat (by omega)
  simp only [List.length_nil]; omega
 ·subst hA; rfl
 rintro ⟨⟨n', l⟩, hl, hn0, hn1, hlen⟩
 cbv
 with_reducible repeat' first | exact True.intro | refine And.intro ?_ ?_ | intro _
 all_goals try cbv
 all_goals with_reducible repeat' first | exact True.intro | refine And.intro ?_ ?_ | intro _
 all_goals subst hA
 all_goals simp only [AR.std, natCast_eq, sH, reduceCtorEq] at *
 all_goals try simp (disch := omega) only [AR.std, natCast_eq, sH, reduceCtorEq] at *
 all_goals first | omega | exact ints_ok _ | exact ints_all _ | skip
 ·refine ⟨⟨(n' / 65536, l ++ [n' % 65536]), ?_, ?_, ?_, ?_⟩, rfl, ?_⟩
  ·rw [← hl, List.append_assoc]
   congr 1
   have e0 : n'.toNat ≠ 0 := by omega
   rw [dg_pos e0]
   have e1 : (n' / 65536).toNat = n'.toNat / 65536 := by omega
   have e2 : ((n'.toNat % 65536 : Nat) : Int) = n' % 65536 := by omega
   simp only [e1, e2, List.singleton_append]
  ·simp only; omega
  ·simp only; omega
  ·have e0 : n'.toNat ≠ 0 := by omega
   rw [dg_pos e0] at hlen
   have e1 : (n' / 65536).toNat = n'.toNat / 65536 := by omega
   simp only [e1, List.length_append, List.length_cons, List.length_nil] at hlen ⊢
   omega
  ·simp only; omega
 ·have e0 : n'.toNat = 0 := by omega
  rw [e0, dg_zero, List.append_nil] at hl
  rw [hl]
theorem timesO_fs (a b : List Int) (ha : Valid a) (hb : Valid b) (hlen : a.length + b.length ≤ 1000000000) : FS Tryz.prog gl 158 [.lst (intsL a), .lst (intsL b)] (· = .lst (intsL (dg (val a * val b).toNat))) := by
 refine FS_ofT (args := fun A => [.lst (A.ints a), .lst (A.ints b)]) (R := fun A r => r = .lst (A.ints (dg (val a * val b).toNat))) Tryz.hT Tryz.mix Tryz.func158 rfl rfl (Nat.le_of_ble_eq_true rfl) ?_
 have htrim := trimO_fs (gl := gl)
 generalize hP : Tryz.prog = P
 rw [hP] at htrim
 generalize hout : dg (val a * val b).toNat = out
 intro A hA
 cbv
 with_reducible repeat' first | exact True.intro | refine And.intro ?_ ?_ | intro _
 all_goals try exact oH
 refine loopE hA ⟨[], [0, 1, 5, 17, 18, 19], 1, { p : Int × List Int // p.2.length = a.length + b.length ∧ Valid p.2 ∧ 0 ≤ p.1 ∧ p.1 ≤ a.length ∧ val p.2 = val (a.take p.1.toNat) * val b ∧ ∀ k, p.1.toNat + b.length ≤ k → p.2.getD k 0 = 0 },
  fun p => ⟨[(0, .pv (.lst (A.ints a))), (1, .pv (.lst (A.ints b))), (5, .own 0), (17, .pv (.lst (A.ints a))), (18, .pv (I (A.cast (A.len (A.ints a))))), (19, .pv (I p.1.1))], [.row 3 1 (A.ints p.1.2)], 63, 0⟩,
  fun p => (a.length - p.1.1).toNat, ⟨(0, List.replicate (a.length + b.length) 0), ?_, Valid.rep _, Int.le_refl _, ?_, ?_, ?_⟩, ?_, ?_⟩
 ·simp
 ·simp only; omega
 ·simp only [val_rep, Int.toNat_zero, List.take_zero, val, Int.zero_mul]
 ·intro k _
  simp [List.getD, List.getElem?_replicate]
  split <;> rfl
 ·subst hA
  simp (disch := omega) only [AR.std, natCast_eq, sH, reduceCtorEq]
  rfl
 rintro ⟨⟨i, o⟩, ho1, ho2, hi0, hi1, hov, hoz⟩
 cbv
 with_reducible repeat' first | exact True.intro | refine And.intro ?_ ?_ | intro _
 all_goals try cbv
 all_goals with_reducible repeat' first | exact True.intro | refine And.intro ?_ ?_ | intro _
 all_goals try exact oH
 ·simp only at ho1 ho2 hi0 hi1 hov hoz
  have hil : i < a.length := by
   rename_i hh
   subst hA
   simpa only [AR.std, natCast_eq, sH, reduceCtorEq] using hh
  refine loopE hA ⟨[], [0, 1, 5, 6, 7, 8, 17, 18, 19, 24, 25, 26], 1, { q : Int × Int × List Int // 0 ≤ q.1 ∧ q.1 ≤ b.length ∧ 0 ≤ q.2.1 ∧ q.2.1 < 65536 ∧ q.2.2.length = a.length + b.length ∧ Valid q.2.2 ∧
    val q.2.2 + q.2.1 * 65536 ^ (i.toNat + q.1.toNat) = val o + a.getD i.toNat 0 * val (b.take q.1.toNat) * 65536 ^ i.toNat ∧ ∀ k, i.toNat + b.length ≤ k → q.2.2.getD k 0 = 0 },
   fun q => ⟨[(0, .pv (.lst (A.ints a))), (1, .pv (.lst (A.ints b))), (5, .own 0), (6, .pv (I i)), (7, .pv (I (A.gi (A.el (A.ints a) (A.nat i)) 0))), (8, .pv (I q.1.2.1)), (17, .pv (.lst (A.ints a))), (18, .pv (I (A.cast (A.len (A.ints a))))), (19, .pv (I i)), (24, .pv (.lst (A.ints b))), (25, .pv (I (A.cast (A.len (A.ints b))))), (26, .pv (I q.1.1))], [.row 3 1 (A.ints q.1.2.2)], 63, 0⟩,
   fun q => (b.length - q.1.1).toNat, ⟨(0, 0, o), Int.le_refl _, by simp only; omega, Int.le_refl _, by simp only; omega, ho1, ho2, ?_, hoz⟩, rfl, ?_⟩
  ·simp [val]
  rintro ⟨⟨j, c, o'⟩, hj0, hj1, hc0, hc1, ho1', ho2', hov', hoz'⟩
  simp only at hj0 hj1 hc0 hc1 ho1' ho2' hov' hoz'
  have hx := ha.get i.toNat
  have hy := hb.get j.toNat
  have hxy := mul_bound hx hy
  have hoo := ho2'.get (i + j).toNat
  iterate 2 all_goals try cbv; with_reducible repeat' first | exact ⟨⟩ | apply And.intro | intro _
  all_goals try exact oH
  ·rename_i hh
   subst hA
   simp only [AR.std, natCast_eq, sH, reduceCtorEq] at *
   simp (disch := omega) only [AR.std, natCast_eq, sH, reduceCtorEq] at *
   have e1 : (i + j).toNat = i.toNat + j.toNat := by omega
   have e2 : (j + 1).toNat = j.toNat + 1 := by omega
   rw [e1] at hoo ⊢
   refine ⟨⟨(j + 1, _, _), ?_, ?_, ?_, ?_, ?_, ?_, ?_, ?_⟩, rfl, ?_⟩
   ·simp only; omega
   ·simp only; omega
   ·simp only; omega
   ·simp only; omega
   ·simp only [List.length_set]; exact ho1'
   ·exact ho2'.set (by omega) (by omega)
   ·simp only [e2]
    rw [val_take_succ (by omega)]
    exact mul_inner hov' (by omega) rfl
   ·intro k hk
    simp only
    rw [Go.Dg.getD_set_ne (by omega)]
    exact hoz' k hk
   ·simp only; omega
  ·rename_i hh
   subst hA
   simp only [AR.std, natCast_eq, sH, reduceCtorEq] at *
   simp (disch := omega) only [AR.std, natCast_eq, sH, reduceCtorEq] at *
   have e1 : (i + (b.length : Int)).toNat = i.toNat + b.length := by omega
   have e2 : (i + 1).toNat = i.toNat + 1 := by omega
   have e3 : j.toNat = b.length := by omega
   rw [e3, List.take_length] at hov'
   rw [e1]
   refine ⟨⟨(i + 1, _), ?_, ?_, ?_, ?_, ?_, ?_⟩, rfl, ?_⟩
   ·simp only [List.length_set]; exact ho1'
   ·exact ho2'.set (by omega) (by omega)
   ·simp only; omega
   ·simp only; omega
   ·simp only [e2]
    rw [val_take_succ (by omega)]
    exact mul_outer hov' hov (by omega) (hoz' _ (by omega))
   ·intro k hk
    simp only [e2] at hk ⊢
    rw [Go.Dg.getD_set_ne (by omega)]
    exact hoz' k (by omega)
   ·simp only; omega
 ·rename_i hh
  simp only at ho1 ho2 hi0 hi1 hov hoz
  have h := htrim o (by omega)
  have hI : intsL = A.ints := by subst hA; rfl
  rw [hI] at h
  have hto : trimL o = out := by
   rw [trim_dg ho2, ← hout, hov]
   subst hA
   simp only [AR.std, natCast_eq, sH, reduceCtorEq] at hh
   rw [List.take_of_length_le (by omega)]
  rw [hto] at h
  refine callS hA rfl (h) ?_
  rintro _ rfl
  cbv
theorem l2normO_fs (els : List Int) (he : els.length ≤ 1000000000) : FS Tryz.prog gl 229 [.lst (intsL els)] (· = .agg [.lst (intsL (trimL els))]) := by
 refine FS_ofT (args := fun A => [.lst (A.ints els)]) (R := fun A r => r = .agg [.lst (A.ints (trimL els))]) Tryz.hT Tryz.mix Tryz.func229 rfl rfl (Nat.le_of_ble_eq_true rfl) ?_
 generalize hP : Tryz.prog = P
 generalize hout : trimL els = out
 intro A hA
 cbv
 with_reducible repeat' first | exact True.intro | refine And.intro ?_ ?_ | intro _
 refine loopE hA ⟨[], [0, 2, 3], 1, { n : Int // 0 ≤ n ∧ n ≤ els.length ∧ trimL (els.take n.toNat) = out }, fun n => ⟨[(0, .pv (.lst (A.ints els))), (2, .box 0 0), (3, .pv (I n.1))], [.box [.pv (.val (.slice none 0 0))]], 24, 0⟩, fun n => n.1.toNat, ⟨(els.length : Int), by omega, Int.le_refl _, ?_⟩, ?_, ?_⟩
 ·rw [← hout]; simp
 ·subst hA; simp only [AR.std, natCast_eq, sH, reduceCtorEq]; rfl
 rintro ⟨n, hn0, hn1, hn2⟩
 iterate 2 all_goals try cbv; with_reducible repeat' first | exact ⟨⟩ | apply And.intro | intro _
 all_goals try exact oH
 ·rename_i hh
  subst hA
  simp only [AR.std, natCast_eq, sH, reduceCtorEq] at *
  simp (disch := omega) only [AR.std, natCast_eq, sH, reduceCtorEq] at *
  refine ⟨⟨n - 1, by omega, by omega, ?_⟩, rfl, by simp only; omega⟩
  have e1 : (n - 1).toNat = n.toNat - 1 := by omega
  have hw : IntKind.i64.wrap (n - 1) = n - 1 := wrapi (by omega) (by omega)
  rw [hw, e1] at hh
  rw [e1]
  rw [← hn2, ← trimL_take (l := els.take n.toNat)]
  ·rw [List.length_take, Nat.min_eq_left (by omega), List.take_take, Nat.min_eq_left (by omega)]
  ·rw [List.length_take]; omega
  ·rw [List.length_take, Nat.min_eq_left (by omega)]
   rw [List.getD, List.getElem?_take, if_pos (by omega)]
   exact hh.2
 ·subst hA; intro p hp; simp at hp
 ·rename_i hh
  subst hA
  simp only [AR.std, natCast_eq, sH, reduceCtorEq] at *
  have hw : IntKind.i64.wrap (n - 1) = n - 1 := wrapi (by omega) (by omega)
  rw [hw] at hh
  have e1 : (n - 1).toNat = n.toNat - 1 := by omega
  rw [e1] at hh
  congr 4
  rw [← hn2]
  rcases hh with hh | hh
  ·have e0 : n.toNat = 0 := by omega
   rw [e0]; rfl
  ·by_cases h0 : n.toNat = 0
   ·rw [h0]; rfl
   ·refine (trimL_last (l := els.take n.toNat) (by rw [List.length_take]; omega) ?_).symm
    rw [List.length_take, Nat.min_eq_left (by omega)]
    rw [List.getD, List.getElem?_take, if_pos (by omega)]
    exact hh
theorem l2ofO_fs (n : Int) (h0 : n ≤ 9223372036854775807) (h1 : -9223372036854775808 ≤ n) : FS Tryz.prog gl 203 [I n] (· = .agg [.lst (intsL (dg n.toNat))]) := by
 refine FS_ofT (args := fun A => [I n]) (R := fun A r => r = .agg [.lst (A.ints (dg n.toNat))]) Tryz.hT Tryz.mix Tryz.func203 rfl rfl (Nat.le_of_ble_eq_true rfl) ?_
 generalize hP : Tryz.prog = P
 generalize hout : dg n.toNat = out
 intro A hA
 cbv
 refine loopE hA ⟨[.slot 3 3 1], [0, 2, 3], 2, { l : Int × List Int // l.2 ++ dg l.1.toNat = out ∧ -9223372036854775808 ≤ l.1 ∧ l.1 ≤ n ∧ l.2.length + (dg l.1.toNat).length ≤ 100 }, fun l => ⟨[(0, .pv (I l.1.1)), (2, .box 0 0), (3, .own 1)], [.box [.pv (.val (.slice none 0 0))], .row 3 1 (A.ints l.1.2)], 15, 0⟩, fun l => l.1.1.toNat, ⟨(n, []), hout, h1, Int.le_refl _, ?_⟩, ?_, ?_⟩
 ·have := dg_len n.toNat (by omega)
  simp only [List.length_nil]; omega
 ·subst hA; rfl
 rintro ⟨⟨n', l⟩, hl, hn0, hn1, hlen⟩
 iterate 2 all_goals try cbv; with_reducible repeat' first | exact ⟨⟩ | apply And.intro | intro _
 all_goals subst hA
 all_goals simp only [AR.std, natCast_eq, sH, reduceCtorEq] at *
 all_goals try simp (disch := omega) only [AR.std, natCast_eq, sH, reduceCtorEq] at *
 all_goals first | omega | exact ints_ok _ | exact ints_all _ | skip
 ·refine ⟨⟨(n' / 65536, l ++ [n' % 65536]), ?_, ?_, ?_, ?_⟩, rfl, ?_⟩
  ·rw [← hl, List.append_assoc]
   congr 1
   have e0 : n'.toNat ≠ 0 := by omega
   rw [dg_pos e0]
   have e1 : (n' / 65536).toNat = n'.toNat / 65536 := by omega
   have e2 : ((n'.toNat % 65536 : Nat) : Int) = n' % 65536 := by omega
   simp only [e1, e2, List.singleton_append]
  ·simp only; omega
  ·simp only; omega
  ·have e0 : n'.toNat ≠ 0 := by omega
   rw [dg_pos e0] at hlen
   have e1 : (n' / 65536).toNat = n'.toNat / 65536 := by omega
   simp only [e1, List.length_append, List.length_cons, List.length_nil] at hlen ⊢
   omega
  ·simp only; omega
 ·have e0 : n'.toNat = 0 := by omega
  rw [e0, dg_zero, List.append_nil] at hl
  rw [hl]

theorem l2mulO_fs (a b : List Int) (ha : Valid a) (hb : Valid b) (hlen : a.length + b.length ≤ 1000000000) : FS Tryz.prog gl 211 [.agg [.lst (intsL a)], .agg [.lst (intsL b)]] (· = .agg [.lst (intsL (dg (val a * val b).toNat))]) := by
 refine FS_ofT (args := fun A => [.agg [.lst (A.ints a)], .agg [.lst (A.ints b)]]) (R := fun A r => r = .agg [.lst (A.ints (dg (val a * val b).toNat))]) Tryz.hT Tryz.mix Tryz.func211 rfl rfl (Nat.le_of_ble_eq_true rfl) ?_
 have htrim := l2normO_fs (gl := gl)
 generalize hP : Tryz.prog = P
 rw [hP] at htrim
 generalize hout : dg (val a * val b).toNat = out
 intro A hA
 cbv
 with_reducible repeat' first | exact True.intro | refine And.intro ?_ ?_ | intro _
 all_goals try exact oH
 refine loopE hA ⟨[], [2, 3, 4, 5, 6], 4, { p : Int × List Int // p.2.length = a.length + b.length ∧ Valid p.2 ∧ 0 ≤ p.1 ∧ p.1 ≤ a.length ∧ val p.2 = val (a.take p.1.toNat) * val b ∧ ∀ k, p.1.toNat + b.length ≤ k → p.2.getD k 0 = 0 },
  fun p => ⟨[(2, .box 0 0), (3, .box 1 0), (4, .box 2 0), (5, .own 3), (6, .pv (I p.1.1))], [.box [.pv (.lst (A.ints a))], .box [.pv (.lst (A.ints b))], .box [.pv (.val (.slice none 0 0))], .row 3 1 (A.ints p.1.2)], 80, 0⟩,
  fun p => (a.length - p.1.1).toNat, ⟨(0, List.replicate (a.length + b.length) 0), ?_, Valid.rep _, Int.le_refl _, ?_, ?_, ?_⟩, ?_, ?_⟩
 ·simp
 ·simp only; omega
 ·simp only [val_rep, Int.toNat_zero, List.take_zero, val, Int.zero_mul]
 ·intro k _
  simp [List.getD, List.getElem?_replicate]
  split <;> rfl
 ·subst hA
  simp (disch := omega) only [AR.std, natCast_eq, sH, reduceCtorEq]
  rfl
 rintro ⟨⟨i, o⟩, ho1, ho2, hi0, hi1, hov, hoz⟩
 iterate 2 all_goals try cbv; with_reducible repeat' first | exact ⟨⟩ | apply And.intro | intro _
 all_goals try exact oH
 ·simp only at ho1 ho2 hi0 hi1 hov hoz
  have hil : i < a.length := by
   rename_i hh
   subst hA
   simpa only [AR.std, natCast_eq, sH, reduceCtorEq] using hh
  refine loopE hA ⟨[], [2, 3, 4, 5, 6, 7, 8], 4, { q : Int × Int × List Int // 0 ≤ q.1 ∧ q.1 ≤ b.length ∧ 0 ≤ q.2.1 ∧ q.2.1 < 65536 ∧ q.2.2.length = a.length + b.length ∧ Valid q.2.2 ∧
    val q.2.2 + q.2.1 * 65536 ^ (i.toNat + q.1.toNat) = val o + a.getD i.toNat 0 * val (b.take q.1.toNat) * 65536 ^ i.toNat ∧ ∀ k, i.toNat + b.length ≤ k → q.2.2.getD k 0 = 0 },
   fun q => ⟨[(2, .box 0 0), (3, .box 1 0), (4, .box 2 0), (5, .own 3), (6, .pv (I i)), (7, .pv (I q.1.2.1)), (8, .pv (I q.1.1))], [.box [.pv (.lst (A.ints a))], .box [.pv (.lst (A.ints b))], .box [.pv (.val (.slice none 0 0))], .row 3 1 (A.ints q.1.2.2)], 80, 0⟩,
   fun q => (b.length - q.1.1).toNat, ⟨(0, 0, o), Int.le_refl _, by simp only; omega, Int.le_refl _, by simp only; omega, ho1, ho2, ?_, hoz⟩, rfl, ?_⟩
  ·simp [val]
  rintro ⟨⟨j, c, o'⟩, hj0, hj1, hc0, hc1, ho1', ho2', hov', hoz'⟩
  simp only at hj0 hj1 hc0 hc1 ho1' ho2' hov' hoz'
  have hx := ha.get i.toNat
  have hy := hb.get j.toNat
  have hxy := mul_bound hx hy
  have hoo := ho2'.get (i + j).toNat
  have hzz := hoz' (i + b.length).toNat (by omega)
  iterate 2 all_goals try cbv; with_reducible repeat' first | exact ⟨⟩ | apply And.intro | intro _
  all_goals try exact oH
  ·rename_i hh
   subst hA
   simp only [AR.std, natCast_eq, sH, reduceCtorEq] at *
   simp (disch := omega) only [AR.std, natCast_eq, sH, reduceCtorEq] at *
   have e1 : (i + j).toNat = i.toNat + j.toNat := by omega
   have e2 : (j + 1).toNat = j.toNat + 1 := by omega
   rw [e1] at hoo ⊢
   refine ⟨⟨(j + 1, _, _), ?_, ?_, ?_, ?_, ?_, ?_, ?_, ?_⟩, rfl, ?_⟩
   ·simp only; omega
   ·simp only; omega
   ·simp only; omega
   ·simp only; omega
   ·simp only [List.length_set]; exact ho1'
   ·exact ho2'.set (by omega) (by omega)
   ·simp only [e2]
    rw [val_take_succ (by omega)]
    exact mul_inner hov' (by omega) (by omega)
   ·intro k hk
    simp only
    rw [Go.Dg.getD_set_ne (by omega)]
    exact hoz' k hk
   ·simp only; omega
  ·rename_i hh
   subst hA
   simp only [AR.std, natCast_eq, sH, reduceCtorEq] at *
   simp (disch := omega) only [AR.std, natCast_eq, sH, reduceCtorEq] at *
   rw [hzz, Int.zero_add]
   have e1 : (i + (b.length : Int)).toNat = i.toNat + b.length := by omega
   have e2 : (i + 1).toNat = i.toNat + 1 := by omega
   have e3 : j.toNat = b.length := by omega
   rw [e3, List.take_length] at hov'
   rw [e1]
   refine ⟨⟨(i + 1, _), ?_, ?_, ?_, ?_, ?_, ?_⟩, rfl, ?_⟩
   ·simp only [List.length_set]; exact ho1'
   ·exact ho2'.set (by omega) (by omega)
   ·simp only; omega
   ·simp only; omega
   ·simp only [e2]
    rw [val_take_succ (by omega)]
    exact mul_outer hov' hov (by omega) (hoz' _ (by omega))
   ·intro k hk
    simp only [e2] at hk ⊢
    rw [Go.Dg.getD_set_ne (by omega)]
    exact hoz' k (by omega)
   ·simp only; omega
 ·rename_i hh
  simp only at ho1 ho2 hi0 hi1 hov hoz
  have h := htrim o (by omega)
  have hI : intsL = A.ints := by subst hA; rfl
  rw [hI] at h
  have hto : trimL o = out := by
   rw [trim_dg ho2, ← hout, hov]
   subst hA
   simp only [AR.std, natCast_eq, sH, reduceCtorEq] at hh
   rw [List.take_of_length_le (by omega)]
  rw [hto] at h
  refine callS hA rfl (h) ?_
  rintro _ rfl
  cbv
  with_reducible repeat' first | exact True.intro | refine And.intro ?_ ?_ | intro _
theorem withinO_fs (n l h : Int) : FS Tryz.prog gl 59 [I n, I l, I h] (· = B (decide (l ≤ n) && decide (n ≤ h))) := by
 refine FS_ofT (args := fun A => [I n, I l, I h]) (R := fun A r => r = B (decide (l ≤ n) && decide (n ≤ h))) Tryz.hT Tryz.mix Tryz.func59 rfl rfl (Nat.le_of_ble_eq_true rfl) ?_
 generalize hP : Tryz.prog = P
 generalize hout : (decide (l ≤ n) && decide (n ≤ h)) = out
 intro A hA
 have hI : intsL = A.ints := by subst hA; rfl
 iterate 2 all_goals try cbv; with_reducible repeat' first | exact ⟨⟩ | apply And.intro | intro _
 all_goals try exact oH
 subst hA
 simp only [AR.std, natCast_eq, sH, reduceCtorEq]
 rw [← hout]

theorem isNaNO_fs (x : Int) : FS Tryz.prog gl 272 [I x] (· = B false) := by
 refine FS_ofT (args := fun A => [I x]) (R := fun A r => r = B false) Tryz.hT Tryz.mix Tryz.func272 rfl rfl (Nat.le_of_ble_eq_true rfl) ?_
 generalize hP : Tryz.prog = P
 intro A hA
 have hI : intsL = A.ints := by subst hA; rfl
 iterate 2 all_goals try cbv; with_reducible repeat' first | exact ⟨⟩ | apply And.intro | intro _
 all_goals try exact oH
 all_goals (subst hA; simp [AR.std])

theorem cmpO_fs (x y : Int) : FS Tryz.prog gl 255 [I x, I y] (· = I (if x < y then -1 else if y < x then 1 else 0)) := by
 refine FS_ofT (args := fun A => [I x, I y]) (R := fun A r => r = I (if x < y then -1 else if y < x then 1 else 0)) Tryz.hT Tryz.mix Tryz.func255 rfl rfl (Nat.le_of_ble_eq_true rfl) ?_
 have hc0 := isNaNO_fs (gl := gl) x
 have hc1 := isNaNO_fs (gl := gl) y
 generalize hP : Tryz.prog = P
 rw [hP] at hc0 hc1
 generalize hout : (if x < y then -1 else if y < x then 1 else 0 : Int) = out
 intro A hA
 have hI : intsL = A.ints := by subst hA; rfl
 cbv
 with_reducible repeat' first | exact True.intro | refine And.intro ?_ ?_ | intro _
 refine callS hA rfl (hc0) ?_; rintro _ rfl
 cbv
 with_reducible repeat' first | exact True.intro | refine And.intro ?_ ?_ | intro _
 refine callS hA rfl (hc1) ?_; rintro _ rfl
 iterate 2 all_goals try cbv; with_reducible repeat' first | exact ⟨⟩ | apply And.intro | intro _
 iterate 2 all_goals try cbv; with_reducible repeat' first | exact ⟨⟩ | apply And.intro | intro _
 all_goals try cbv
 all_goals with_reducible repeat' first | exact True.intro | refine And.intro ?_ ?_ | intro _
 all_goals try exact oH
 all_goals subst hA
 all_goals simp only [AR.std, natCast_eq, sH, reduceCtorEq] at *
 all_goals rw [← hout]
 all_goals congr 2
 all_goals (repeat' split) <;> omega

theorem compareO_fs (x y : Nat) (hx : (dg x).length ≤ 1000000000) : FS Tryz.prog gl 221 [.lst (intsL (dg x)), .lst (intsL (dg y))] (· = I (cmpN x y)) := by
 have va := valid_dg x
 have vb := valid_dg y
 have ea := val_dg x
 have eb := val_dg y
 have lxy := dg_len_lt (x := x) (y := y)
 have lyx := dg_len_lt (x := y) (y := x)
 refine FS_ofT (args := fun A => [.lst (A.ints (dg x)), .lst (A.ints (dg y))]) (R := fun A r => r = I (cmpN x y)) Tryz.hT Tryz.mix Tryz.func221 rfl rfl (Nat.le_of_ble_eq_true rfl) ?_
 have hc0 := cmpO_fs (gl := gl)
 generalize hP : Tryz.prog = P
 rw [hP] at hc0
 generalize ha : dg x = a
 generalize hb : dg y = b
 generalize hout : cmpN x y = out
 intro A hA
 have hI : intsL = A.ints := by subst hA; rfl
 rw [ha] at hx va ea lxy lyx
 rw [hb] at vb eb lxy lyx
 unfold cmpN at hout
 iterate 2 all_goals try cbv; with_reducible repeat' first | exact ⟨⟩ | apply And.intro | intro _
 ·rename_i hh
  have hc1 := hc0 a.length b.length
  have h1 : ((a.length : Int) ≠ b.length) := by subst hA; simp only [AR.std, natCast_eq, sH, reduceCtorEq] at hh; exact hh
  have h2 : (if (a.length : Int) < b.length then -1 else if (b.length : Int) < a.length then 1 else 0) = out := by
   rw [← hout]
   by_cases h3 : a.length < b.length
   ·rw [if_pos (by omega), if_pos (lxy h3)]
   ·rw [if_neg (by omega), if_pos (by omega), if_neg (by have := lyx (by omega); omega), if_pos (lyx (by omega))]
  rw [h2] at hc1
  have h3 : A.cast (A.len (A.ints a)) = a.length := by subst hA; simp only [AR.std, natCast_eq, sH, reduceCtorEq]
  have h4 : A.cast (A.len (A.ints b)) = b.length := by subst hA; simp only [AR.std, natCast_eq, sH, reduceCtorEq]
  rw [← h3, ← h4] at hc1
  refine callS hA rfl (hc1) ?_; rintro _ rfl
  iterate 2 all_goals try cbv; with_reducible repeat' first | exact ⟨⟩ | apply And.intro | intro _
  all_goals try exact oH
 ·rename_i hh
  have hl : a.length = b.length := by subst hA; simp only [AR.std, natCast_eq, sH, reduceCtorEq] at hh; omega
  refine loopE hA ⟨[], [0, 1, 4, 5], 0, { i : Int // -1 ≤ i ∧ i < a.length ∧ a.drop (i + 1).toNat = b.drop (i + 1).toNat }, fun i => ⟨[(0, .pv (.lst (A.ints a))), (1, .pv (.lst (A.ints b))), (4, .pv (I 0)), (5, .pv (I i.1))], [], 41, 0⟩, fun i => (i.1 + 1).toNat, ⟨(a.length : Int) - 1, by omega, by omega, ?_⟩, ?_, ?_⟩
  ·rw [List.drop_of_length_le (by omega), List.drop_of_length_le (by omega)]
  ·subst hA; simp (disch := omega) only [AR.std, natCast_eq, sH, reduceCtorEq]; rfl
  rintro ⟨i, hi0, hi1, hd⟩
  try simp only [natCast_eq] at hi1
  iterate 2 all_goals try cbv; with_reducible repeat' first | exact ⟨⟩ | apply And.intro | intro _
  iterate 2 all_goals try cbv; with_reducible repeat' first | exact ⟨⟩ | apply And.intro | intro _
  all_goals try cbv
  all_goals with_reducible repeat' first | exact True.intro | refine And.intro ?_ ?_ | intro _
  all_goals try exact oH
  ·rename_i h1 h2
   simp only [natCast_eq] at ea eb hi1
   have hc1 := hc0 (a.getD i.toNat 0) (b.getD i.toNat 0)
   have h5 : 0 ≤ i := by subst hA; simpa only [AR.std, natCast_eq, sH, reduceCtorEq] using h1
   have h6 : a.getD i.toNat 0 ≠ b.getD i.toNat 0 := by subst hA; simpa only [AR.std, natCast_eq, sH, reduceCtorEq] using h2
   have e1 : (i + 1).toNat = i.toNat + 1 := by omega
   rw [e1] at hd
   have h7 : (if a.getD i.toNat 0 < b.getD i.toNat 0 then -1 else if b.getD i.toNat 0 < a.getD i.toNat 0 then 1 else 0) = out := by
    rw [← hout]
    have q1 : i.toNat < a.length := by omega
    by_cases h3 : a.getD i.toNat 0 < b.getD i.toNat 0
    ·have := val_lt_at va vb hl q1 hd h3
     rw [if_pos h3, if_pos (by omega)]
    ·have := val_lt_at vb va hl.symm (by omega) hd.symm (by omega)
     rw [if_neg h3, if_pos (by omega), if_neg (by omega), if_pos (by omega)]
   rw [h7] at hc1
   have h8 : A.gi (A.el (A.ints a) (A.nat i)) 0 = a.getD i.toNat 0 := by subst hA; simp only [AR.std, natCast_eq, sH, reduceCtorEq]
   have h9 : A.gi (A.el (A.ints b) (A.nat i)) 0 = b.getD i.toNat 0 := by subst hA; simp only [AR.std, natCast_eq, sH, reduceCtorEq]
   rw [← h8, ← h9] at hc1
   refine callS hA rfl (hc1) ?_; rintro _ rfl
   iterate 2 all_goals try cbv; with_reducible repeat' first | exact ⟨⟩ | apply And.intro | intro _
   iterate 2 all_goals try cbv; with_reducible repeat' first | exact ⟨⟩ | apply And.intro | intro _
   all_goals try cbv
   all_goals with_reducible repeat' first | exact True.intro | refine And.intro ?_ ?_ | intro _
   all_goals try exact oH
  ·rename_i h1 h2
   subst hA
   simp only [AR.std, natCast_eq, sH, reduceCtorEq] at *
   try simp (disch := omega) only [AR.std, natCast_eq, sH, reduceCtorEq] at *
   have e1 : (i + 1).toNat = i.toNat + 1 := by omega
   have e2 : (i - 1 + 1).toNat = i.toNat := by omega
   rw [e1] at hd
   refine ⟨⟨i - 1, by omega, by omega, ?_⟩, rfl, ?_⟩
   ·rw [e2]; exact drop_eq_step hl (by omega) hd h2
   ·simp only; omega
  ·rename_i h1
   subst hA
   simp only [AR.std, natCast_eq, sH, reduceCtorEq] at *
   try simp (disch := omega) only [AR.std, natCast_eq, sH, reduceCtorEq] at *
   have e1 : (i + 1).toNat = 0 := by omega
   rw [e1, List.drop_zero, List.drop_zero] at hd
   rw [hd] at ea
   have : x = y := by omega
   rw [← hout, if_neg (by omega), if_neg (by omega)]

theorem upO_fs (a : List Int) (ha : Valid a) (k : Int) (hk0 : 0 ≤ k) (hk1 : k ≤ 100000000) (hlen : a.length ≤ 100000000) : FS Tryz.prog gl 186 [.lst (intsL a), I k] (· = .lst (intsL (dg (val a * 2 ^ k.toNat).toNat))) := by
 refine FS_ofT (args := fun A => [.lst (A.ints a), I k]) (R := fun A r => r = .lst (A.ints (dg (val a * 2 ^ k.toNat).toNat))) Tryz.hT Tryz.mix Tryz.func186 rfl rfl (Nat.le_of_ble_eq_true rfl) ?_
 have hc0 := trimO_fs (gl := gl)
 generalize hP : Tryz.prog = P
 rw [hP] at hc0
 generalize hout : dg (val a * 2 ^ k.toNat).toNat = out
 intro A hA
 have hI : intsL = A.ints := by subst hA; rfl
 iterate 2 all_goals try cbv; with_reducible repeat' first | exact ⟨⟩ | apply And.intro | intro _
 all_goals try exact oH
 ·rename_i hh
  subst hA
  simp only [AR.std, natCast_eq, sH, reduceCtorEq] at *
  try simp (disch := omega) only [AR.std, natCast_eq, sH, reduceCtorEq] at *
  have h0 : a = [] := List.length_eq_zero_iff.1 (by omega)
  subst h0
  rw [← hout]
  simp [val, dg_zero, intsL]
 refine loopE hA ⟨[], [0, 1, 4, 5, 6, 21, 22, 23], 1, { p : Int × Int × List Int // 0 ≤ p.1 ∧ p.1 ≤ a.length ∧ 0 ≤ p.2.1 ∧ p.2.1 < 65536 ∧ p.2.2.length = k.toNat / 16 + p.1.toNat ∧ Valid p.2.2 ∧ val p.2.2 + p.2.1 * 65536 ^ (k.toNat / 16 + p.1.toNat) = val (a.take p.1.toNat) * 2 ^ (k.toNat % 16) * 65536 ^ (k.toNat / 16) },
  fun p => ⟨[(0, .pv (.lst (A.ints a))), (1, .pv (I k)), (4, .pv (.val (.slice none 0 0))), (5, .own 0), (6, .pv (I p.1.2.1)), (21, .pv (.lst (A.ints a))), (22, .pv (I (A.cast (A.len (A.ints a))))), (23, .pv (I p.1.1))], [.row 3 1 (A.ints p.1.2.2)], 46, 0⟩,
  fun p => (a.length - p.1.1).toNat, ⟨(0, 0, List.replicate (k.toNat / 16) 0), Int.le_refl _, by simp only; omega, Int.le_refl _, by simp only; omega, by simp, Valid.rep _, by simp [val_rep, val]⟩, ?_, ?_⟩
 ·have e1 : (k / 16).toNat = k.toNat / 16 := by omega
  subst hA
  simp (disch := omega) only [AR.std, natCast_eq, sH, reduceCtorEq]
  rw [e1]
  rfl
 rintro ⟨⟨i, c, o⟩, hi0, hi1, hc0', hc1', hol, hov, hval⟩
 simp only [natCast_eq] at hi0 hi1 hc0' hc1' hol hov hval
 have hx := ha.get i.toNat
 have hp := pow2_le (b := k.toNat % 16) (by omega)
 have hxp := shift_bound hx hp
 have e1 : min (k % 16).toNat 64 = k.toNat % 16 := by omega
 iterate 2 all_goals try cbv; with_reducible repeat' first | exact ⟨⟩ | apply And.intro | intro _
 iterate 2 all_goals try cbv; with_reducible repeat' first | exact ⟨⟩ | apply And.intro | intro _
 all_goals try cbv
 all_goals with_reducible repeat' first | exact True.intro | refine And.intro ?_ ?_ | intro _
 all_goals try exact oH
 ·rename_i hh
  subst hA
  simp only [AR.std, natCast_eq, sH, reduceCtorEq] at *
  rw [show IntKind.i64.bits = 64 from rfl] at *
  simp (disch := omega) only [AR.std, natCast_eq, sH, reduceCtorEq] at *
  rw [e1]
  have e2 : (i + 1).toNat = i.toNat + 1 := by omega
  simp (disch := omega) only [AR.std, natCast_eq, sH, reduceCtorEq] at *
  refine ⟨⟨(i + 1, (c + a.getD i.toNat 0 * 2 ^ (k.toNat % 16)) / 65536, o ++ [(c + a.getD i.toNat 0 * 2 ^ (k.toNat % 16)) % 65536]), ?_, ?_, ?_, ?_, ?_, ?_, ?_⟩, rfl, ?_⟩
  ·simp only; omega
  ·simp only; omega
  ·simp only; omega
  ·simp only; omega
  ·simp only [List.length_append, List.length_cons, List.length_nil]; omega
  ·exact hov.append (Valid.one (by omega) (by omega))
  ·simp only [e2]
   rw [val_take_succ (by omega)]
   exact up_step hval hol rfl
  ·simp only; omega
 ·rename_i hh
  simp only [natCast_eq] at hi1
  have h := hc0 (o ++ [c]) (by simp only [List.length_append, List.length_cons, List.length_nil]; omega)
  have hto : trimL (o ++ [c]) = out := by
   rw [trim_dg (hov.append (Valid.one hc0' hc1')), ← hout, val_snoc, hol]
   congr 2
   have h1 : i.toNat = a.length := by subst hA; simp only [AR.std, natCast_eq, sH, reduceCtorEq] at hh; omega
   rw [h1, List.take_length] at hval
   rw [h1, Int.mul_comm (65536 ^ _) c, hval, Int.mul_assoc, pow_split]
  rw [hto, hI] at h
  have e : A.ints (o ++ [c]) = A.app (A.ints o) [I c] := by subst hA; exact (ints_app1 o c).symm
  rw [e] at h
  refine callS hA rfl (h) ?_; rintro _ rfl
  cbv
  with_reducible repeat' first | exact True.intro | refine And.intro ?_ ?_ | intro _

end Tryz
end Go.Proofs
