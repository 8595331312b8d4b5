/- Contracts: factorials, how many terms of the exponential are enough, products of natural numbers, as the program has them; the law's own helpers. -/
import Derived.Test.YtlkiofkkjbodjaaAT0
import Derived.Test.YtlkiofkkjbodjaaAN3
import Derived.Test.YtlkiofkkjbodjaaAN14
import Derived.Test.YtlkiofkkjbodjaaAN15
import Derived.Test.YtlkiofkkjbodjaaAN19
import Derived.Test.YtlkiofkkjbodjaaAEvD
set_option maxHeartbeats 2000000
set_option maxRecDepth 100000
namespace Go.Proofs
open Go Go.Pe Go.Dg
namespace Try
set_option linter.unusedSimpArgs false
set_option linter.unusedVariables false
variable {P : Program} {gl : List (Nat × Obj)}

theorem factI_fs (C : Cx P gl) {n : Int} {m : Nat} {r : List PV} (hn : n = m) (h1 : m ≤ 200) (hr : r = intsL (dg (fac m))) : FS P gl 16 [I n] (· = .lst r) := by
 obtain ⟨q1, hq1⟩ : ∃ q, q = intsL (dg 1) := ⟨_, rfl⟩
 have sm := fun (P' : Program) (C' : Cx P' gl) => small_fs C' (k := 1) (n := 1) rfl hq1 (by decide)
 have hst : ∀ (k : Int) (o : List PV), 2 ≤ k → k ≤ n → o = intsL (dg (fac (k - 1).toNat)) → ∃ d e : List PV, (∀ P', Cx P' gl → FS P' gl 25 [I k] (· = .lst d)) ∧ (∀ P', Cx P' gl → FS P' gl 19 [.lst o, .lst d] (· = .lst e)) ∧ e = intsL (dg (fac (k + 1 - 1).toNat)) := by
  intro k o h2 h3 ho
  have hl1 := fac_len (n := (k - 1).toNat) (by omega)
  have hl2 := dg_len k.toNat (by omega)
  refine ⟨_, _, fun P' C' => small_fs C' (n := k.toNat) (by omega) rfl (by omega), fun P' C' => times_fs C' (n := fac k.toNat) ho rfl (valid_dg _) (valid_dg _) ?_ rfl (by omega), by rw [show k + 1 - 1 = k by omega]⟩
  rw [val_dg, val_dg, ← Int.natCast_mul]
  congr 1
  rw [show k.toNat = (k - 1).toNat + 1 by omega]
  simp only [fac]
  rw [Nat.mul_comm]
 have h00 : q1 = intsL (dg (fac ((2 : Int) - 1).toNat)) := by rw [hq1]; rfl
 have hend : ∀ (k : Int) (o : List PV), 2 ≤ k → k ≤ max (n + 1) 2 → ¬k ≤ n → o = intsL (dg (fac (k - 1).toNat)) → o = r := by
  intro k o h2 h3 h4 ho
  rw [ho, hr]
  by_cases hm : m < 2
  ·have hk : k = 2 := by omega
   rcases (by omega : m = 0 ∨ m = 1) with rfl | rfl <;> rw [hk] <;> rfl
  ·congr 2
   rw [show (k - 1).toNat = m by omega]
 have hn2 : n ≤ 200 := by omega
 clear hn h1 hr hq1
 obtain ⟨rfl, hG⟩ := C
 refine FS_ofT (args := fun A => [I n]) (R := fun A rr => rr = .lst r) Try.hT Try.mix Try.func16 rfl rfl (Nat.le_of_ble_eq_true rfl) ?_
 generalize hP : Try.prog = P
 intro A hA
 have C : Try.Cx P gl := ⟨hP.symm, hG⟩
 have hI : intsL = A.ints := by subst hA; rfl
 iterate 2 (all_goals try cbv; all_goals with_reducible repeat' first | exact True.intro | refine And.intro ?_ ?_ | intro _)
 all_goals try exact oH
 first | (refine callS hA rfl (sm P C) ?_; rintro _ rfl) | refine ⟨_, sm P C, ?_⟩
 iterate 2 (all_goals try cbv; all_goals with_reducible repeat' first | exact True.intro | refine And.intro ?_ ?_ | intro _)
 all_goals try exact oH
 refine loopI hA [] (ι := Int × List PV) (fun x => [(3, .pv (.lst x.2)), (4, .pv (I x.1))]) (fun x => []) (fun x => (n + 1 - x.1).toNat) (fun x => 2 ≤ x.1 ∧ x.1 ≤ max (n + 1) 2 ∧ x.2 = intsL (dg (fac (x.1 - 1).toNat))) (2, q1) (by rfl) ?_ ?_ ?_
 all_goals try exact tH
 ·exact ⟨Int.le_refl _, by simp only; omega, h00⟩
 rintro ⟨k, o⟩ ⟨hk0, hk1, ho⟩
 simp only at hk0 hk1 ho
 have hs := fun h => hst k o hk0 h ho
 have he := fun h => hend k o hk0 hk1 h ho
 clear ho hst hend h00
 iterate 2 (all_goals try cbv; all_goals with_reducible repeat' first | exact True.intro | refine And.intro ?_ ?_ | intro _)
 all_goals try exact oH
 ·rename_i g
  have gk : k ≤ n := by clear hs he; (subst hA; subst_vars; simp only [AR.std, natCast_eq, sH, reduceCtorEq] at *; try simp (disch := omega) only [AR.std, natCast_eq, sH, reduceCtorEq] at *); omega
  obtain ⟨d, e, c1, c2, c3⟩ := hs gk
  clear hs he g
  first | (refine callS hA rfl (c1 P C) ?_; rintro _ rfl) | refine ⟨_, c1 P C, ?_⟩
  iterate 2 (all_goals try cbv; all_goals with_reducible repeat' first | exact True.intro | refine And.intro ?_ ?_ | intro _)
  all_goals try exact oH
  first | (refine callS hA rfl (c2 P C) ?_; rintro _ rfl) | refine ⟨_, c2 P C, ?_⟩
  iterate 2 (all_goals try cbv; all_goals with_reducible repeat' first | exact True.intro | refine And.intro ?_ ?_ | intro _)
  all_goals try exact oH
  clear c1 c2
  obtain ⟨y1, hy1⟩ : ∃ y, y = k + 1 := ⟨_, rfl⟩
  obtain ⟨y2, hy2⟩ : ∃ y, y = e := ⟨_, rfl⟩
  refine ⟨⟨(y1, y2), ?_⟩, ?_, ?_⟩
  rotate_left
  ·cbv
   exact nH
  ·(subst hA; subst_vars; simp only [AR.std, natCast_eq, sH, reduceCtorEq] at *; try simp (disch := omega) only [AR.std, natCast_eq, sH, reduceCtorEq] at *); omega
  ·rw [hy1, hy2]
   exact ⟨by simp only; omega, by simp only; omega, c3⟩
 ·rename_i g
  rw [he (by clear hs he; (subst hA; subst_vars; simp only [AR.std, natCast_eq, sH, reduceCtorEq] at *; try simp (disch := omega) only [AR.std, natCast_eq, sH, reduceCtorEq] at *); omega)]

theorem natOf_vs (C : Cx P gl) {m : Nat} {p : List PV} (hp : p = intsL (dg m)) (h : (dg m).length ≤ 100) : FS P gl 15 [.lst p] (· = .tup [.agg [.lst p], B true]) := by
 by_cases h0 : m = 0
 ·have : p = [] := by rw [hp, h0, dg_zero]; rfl
  rw [this]
  exact natOf0_fs C
 ·exact FS_ofFN (FN_of (natOf_fx C hp (dg_ne_nil (by omega)) h) (by rintro _ _ ⟨rfl, rfl⟩; exact ⟨by simpa using closed_ints hp _ _, rfl⟩)) (by rintro _ _ ⟨rfl, rfl⟩; rfl)

theorem implFact_fs (C : Cx P gl) {n : Int} {m : Nat} {r : List PV} (hn : n = m) (h1 : m ≤ 200) (hr : r = intsL (dg (fac m))) : FS P gl 5 [I n] (· = .tup [.agg [.lst r], B true]) := by
 have wi := fun (P' : Program) (C' : Cx P' gl) => within_fs C' (n := n) (l := 0) (h := 200) (b := true) (by simp; omega)
 have fa := fun (P' : Program) (C' : Cx P' gl) => factI_fs C' hn (by omega) hr
 have no := fun (P' : Program) (C' : Cx P' gl) => natOf_vs C' hr (by have := fac_len (n := m) (by omega); omega)
 clear hn h1 hr
 obtain ⟨rfl, hG⟩ := C
 refine FS_ofT (args := fun A => [I n]) (R := fun A rr => rr = .tup [.agg [.lst r], B true]) Try.hT Try.mix Try.func5 rfl rfl (Nat.le_of_ble_eq_true rfl) ?_
 generalize hP : Try.prog = P
 intro A hA
 have C : Try.Cx P gl := ⟨hP.symm, hG⟩
 have hI : intsL = A.ints := by subst hA; rfl
 have q1 : A.bnot true = false := by subst hA; rfl
 iterate 2 (all_goals try cbv; all_goals with_reducible repeat' first | exact True.intro | refine And.intro ?_ ?_ | intro _)
 all_goals try exact oH
 first | (refine callS hA rfl (wi P C) ?_; rintro _ rfl) | refine ⟨_, wi P C, ?_⟩
 iterate 2 (all_goals try cbv; all_goals with_reducible repeat' first | exact True.intro | refine And.intro ?_ ?_ | intro _)
 all_goals try exact oH
 all_goals try simp only [q1]
 iterate 2 (all_goals try cbv; all_goals with_reducible repeat' first | exact True.intro | refine And.intro ?_ ?_ | intro _)
 all_goals try exact oH
 first | (refine callS hA rfl (fa P C) ?_; rintro _ rfl) | refine ⟨_, fa P C, ?_⟩
 iterate 2 (all_goals try cbv; all_goals with_reducible repeat' first | exact True.intro | refine And.intro ?_ ?_ | intro _)
 all_goals try exact oH
 first | (refine callS hA rfl (no P C) ?_; rintro _ rfl) | refine ⟨_, no P C, ?_⟩
 iterate 2 (all_goals try cbv; all_goals with_reducible repeat' first | exact True.intro | refine And.intro ?_ ?_ | intro _)
 all_goals try exact oH

theorem implFactN_fs (C : Cx P gl) {n : Int} (h : n < 0 ∨ 200 < n) : FS P gl 5 [I n] (· = .tup [.agg [.lst []], B false]) := by
 have wi := fun (P' : Program) (C' : Cx P' gl) => within_fs C' (n := n) (l := 0) (h := 200) (b := false) (by simp; omega)
 obtain ⟨rfl, hG⟩ := C
 refine FS_ofT (args := fun A => [I n]) (R := fun A rr => rr = .tup [.agg [.lst []], B false]) Try.hT Try.mix Try.func5 rfl rfl (Nat.le_of_ble_eq_true rfl) ?_
 generalize hP : Try.prog = P
 intro A hA
 have C : Try.Cx P gl := ⟨hP.symm, hG⟩
 have hI : intsL = A.ints := by subst hA; rfl
 iterate 2 (all_goals try cbv; all_goals with_reducible repeat' first | exact True.intro | refine And.intro ?_ ?_ | intro _)
 all_goals try exact oH
 first | (refine callS hA rfl (wi P C) ?_; rintro _ rfl) | refine ⟨_, wi P C, ?_⟩
 iterate 2 (all_goals try cbv; all_goals with_reducible repeat' first | exact True.intro | refine And.intro ?_ ?_ | intro _)
 all_goals try exact oH
 iterate 2 (all_goals try cbv; all_goals with_reducible repeat' first | exact True.intro | refine And.intro ?_ ?_ | intro _)
 all_goals try exact oH

theorem terms_fs (C : Cx P gl) {w z : Int} {t : Nat} (h0 : -400 ≤ w) (h1 : w ≤ 0) (ht : isT (-w).toNat t) (hz : z = t) : FS P gl 20 [I w] (· = I z) := by
 obtain ⟨ht1, ht2, ht3, ht4⟩ := ht
 obtain ⟨u3, hu3⟩ : ∃ u, u = intsL (dg 1) := ⟨_, rfl⟩
 obtain ⟨u4, hu4⟩ : ∃ u, u = intsL (dg (2 ^ (-w).toNat)) := ⟨_, rfl⟩
 obtain ⟨nw, hnw⟩ : ∃ nw, nw = -w := ⟨_, rfl⟩
 have c3 := fun (P' : Program) (C' : Cx P' gl) => small_fs C' (k := 1) (n := 1) rfl hu3 (by decide)
 have c4 := fun (P' : Program) (C' : Cx P' gl) => up_fs C' (k := nw) (k' := nw) (n := 2 ^ (-w).toNat) hu3 (valid_dg _) rfl (by rw [val_dg, hnw]; simp) hu4 (by omega) (by omega) (by have := dg_len 1 (by omega); omega)
 have hst : ∀ k : Int, 1 ≤ k → k ≤ z → ∃ (u1 u2 : List PV) (d k1 : Int), k1 = k + 1 ∧ (∀ P', Cx P' gl → FS P' gl 16 [I k1] (· = .lst u1)) ∧ (∀ P', Cx P' gl → FS P' gl 29 [.lst u1, I k] (· = .lst u2)) ∧ (∀ P', Cx P' gl → FS P' gl 28 [.lst u2, .lst u4] (· = I d)) ∧ (d < 0 ↔ k < z) := by
  intro k h2 h3
  refine ⟨_, intsL (dg (fac (k.toNat + 1) * 2 ^ k.toNat)), _, k + 1, rfl, fun P' C' => factI_fs C' (m := k.toNat + 1) (by omega) (by omega) rfl, fun P' C' => up_fs C' (a := dg (fac (k.toNat + 1))) (k := k) rfl (valid_dg _) rfl ?_ rfl (by omega) (by omega) (by have := fac_len (n := k.toNat + 1) (by omega); omega),
   fun P' C' => compare_fs C' (x := fac (k.toNat + 1) * 2 ^ k.toNat) (y := 2 ^ (-w).toNat) rfl hu4 rfl (by have := fac_up_len (k := k.toNat) (by omega); omega), ?_⟩
  ·rw [val_dg]; simp
  ·unfold cmpN
   by_cases hkz : k < z
   ·have := ht4 k.toNat (by omega) (by omega)
    rw [if_pos this]; omega
   ·have hkt : k.toNat = t := by omega
    rw [hkt]
    rw [if_neg (by omega)]
    split <;> omega
 have hz1 : 1 ≤ z := by omega
 have hz2 : z ≤ 200 := by omega
 clear ht1 ht2 ht3 ht4 hz hu3 hu4
 obtain ⟨rfl, hG⟩ := C
 refine FS_ofT (args := fun A => [I w]) (R := fun A rr => rr = I z) Try.hT Try.mix Try.func20 rfl rfl (Nat.le_of_ble_eq_true rfl) ?_
 generalize hP : Try.prog = P
 intro A hA
 have C : Try.Cx P gl := ⟨hP.symm, hG⟩
 have hI : intsL = A.ints := by subst hA; rfl
 iterate 2 (all_goals try cbv; all_goals with_reducible repeat' first | exact True.intro | refine And.intro ?_ ?_ | intro _)
 all_goals try exact oH
 refine loopI hA [] (ι := Int) (fun x => [(3, .pv (I x))]) (fun x => []) (fun x => (z - x).toNat) (fun x => 1 ≤ x ∧ x ≤ z) 1 (by rfl) ?_ ?_ ?_
 all_goals try exact tH
 ·omega
 rintro k ⟨hk0, hk1⟩
 obtain ⟨u1, u2, d, k1, hk, c0, c1, c2, hd⟩ := hst k hk0 hk1
 clear hst
 iterate 2 (all_goals try cbv; all_goals with_reducible repeat' first | exact True.intro | refine And.intro ?_ ?_ | intro _)
 all_goals try exact oH
 have eadd : A.add .i64 k 1 = k1 := by clear c0 c1 c2 c3 c4 hd; (subst hA; subst_vars; simp only [AR.std, natCast_eq, sH, reduceCtorEq] at *; try simp (disch := omega) only [AR.std, natCast_eq, sH, reduceCtorEq] at *)
 have eneg : A.sub .i64 0 w = nw := by clear c0 c1 c2 c3 c4 hd eadd; subst hA; show IntKind.i64.wrap (0 - w) = nw; rw [wrapi (by omega) (by omega)]; omega
 all_goals try simp only [eadd, eneg]
 first | (refine callS hA rfl (c0 P C) ?_; rintro _ rfl) | refine ⟨_, c0 P C, ?_⟩
 iterate 2 (all_goals try cbv; all_goals with_reducible repeat' first | exact True.intro | refine And.intro ?_ ?_ | intro _)
 all_goals try exact oH
 all_goals try simp only [eadd, eneg]
 first | (refine callS hA rfl (c1 P C) ?_; rintro _ rfl) | refine ⟨_, c1 P C, ?_⟩
 iterate 2 (all_goals try cbv; all_goals with_reducible repeat' first | exact True.intro | refine And.intro ?_ ?_ | intro _)
 all_goals try exact oH
 all_goals try simp only [eadd, eneg]
 first | (refine callS hA rfl (c3 P C) ?_; rintro _ rfl) | refine ⟨_, c3 P C, ?_⟩
 iterate 2 (all_goals try cbv; all_goals with_reducible repeat' first | exact True.intro | refine And.intro ?_ ?_ | intro _)
 all_goals try exact oH
 all_goals try simp only [eadd, eneg]
 first | (refine callS hA rfl (c4 P C) ?_; rintro _ rfl) | refine ⟨_, c4 P C, ?_⟩
 iterate 2 (all_goals try cbv; all_goals with_reducible repeat' first | exact True.intro | refine And.intro ?_ ?_ | intro _)
 all_goals try exact oH
 all_goals try simp only [eadd, eneg]
 first | (refine callS hA rfl (c2 P C) ?_; rintro _ rfl) | refine ⟨_, c2 P C, ?_⟩
 clear c0 c1 c2 c3 c4
 iterate 2 (all_goals try cbv; all_goals with_reducible repeat' first | exact True.intro | refine And.intro ?_ ?_ | intro _)
 all_goals try exact oH
 ·rename_i g
  have gk : k < z := by clear eadd eneg; have g2 : d < 0 := (by clear hd; (subst hA; subst_vars; simp only [AR.std, natCast_eq, sH, reduceCtorEq] at *; try simp (disch := omega) only [AR.std, natCast_eq, sH, reduceCtorEq] at *); omega); exact hd.1 g2
  clear g hd
  obtain ⟨y1, hy1⟩ : ∃ y, y = k + 1 := ⟨_, rfl⟩
  refine ⟨⟨y1, ?_⟩, ?_, ?_⟩
  rotate_left
  ·cbv
   exact nH
  ·(subst hA; subst_vars; simp only [AR.std, natCast_eq, sH, reduceCtorEq] at *; try simp (disch := omega) only [AR.std, natCast_eq, sH, reduceCtorEq] at *); omega
  ·rw [hy1]; omega
 ·rename_i g
  have gk : ¬ k < z := fun q => by clear eadd eneg; have g2 := hd.2 q; clear hd q; (subst hA; subst_vars; simp only [AR.std, natCast_eq, sH, reduceCtorEq] at *; try simp (disch := omega) only [AR.std, natCast_eq, sH, reduceCtorEq] at *); omega
  have : k = z := by omega
  rw [this]

theorem implExpTerms_fs (C : Cx P gl) {w z : Int} {t : Nat} (h0 : -400 ≤ w) (h1 : w ≤ 0) (ht : isT (-w).toNat t) (hz : z = t) : FS P gl 10 [I w] (· = I z) := by
 have wi := fun (P' : Program) (C' : Cx P' gl) => within_fs C' (n := w) (l := -400) (h := 0) (b := true) (by simp; omega)
 have te := fun (P' : Program) (C' : Cx P' gl) => terms_fs C' h0 h1 ht hz
 clear ht hz
 obtain ⟨rfl, hG⟩ := C
 refine FS_ofT (args := fun A => [I w]) (R := fun A rr => rr = I z) Try.hT Try.mix Try.func10 rfl rfl (Nat.le_of_ble_eq_true rfl) ?_
 generalize hP : Try.prog = P
 intro A hA
 have C : Try.Cx P gl := ⟨hP.symm, hG⟩
 have hI : intsL = A.ints := by subst hA; rfl
 have q1 : A.bnot true = false := by subst hA; rfl
 iterate 2 (all_goals try cbv; all_goals with_reducible repeat' first | exact True.intro | refine And.intro ?_ ?_ | intro _)
 all_goals try exact oH
 first | (refine callS hA rfl (wi P C) ?_; rintro _ rfl) | refine ⟨_, wi P C, ?_⟩
 iterate 2 (all_goals try cbv; all_goals with_reducible repeat' first | exact True.intro | refine And.intro ?_ ?_ | intro _)
 all_goals try exact oH
 all_goals try simp only [q1]
 iterate 2 (all_goals try cbv; all_goals with_reducible repeat' first | exact True.intro | refine And.intro ?_ ?_ | intro _)
 all_goals try exact oH
 first | (refine callS hA rfl (te P C) ?_; rintro _ rfl) | refine ⟨_, te P C, ?_⟩
 iterate 2 (all_goals try cbv; all_goals with_reducible repeat' first | exact True.intro | refine And.intro ?_ ?_ | intro _)
 all_goals try exact oH

theorem implExpTermsN_fs (C : Cx P gl) {w : Int} (h : w < -400 ∨ 0 < w) : FS P gl 10 [I w] (· = I 0) := by
 have wi := fun (P' : Program) (C' : Cx P' gl) => within_fs C' (n := w) (l := -400) (h := 0) (b := false) (by simp; omega)
 obtain ⟨rfl, hG⟩ := C
 refine FS_ofT (args := fun A => [I w]) (R := fun A rr => rr = I 0) Try.hT Try.mix Try.func10 rfl rfl (Nat.le_of_ble_eq_true rfl) ?_
 generalize hP : Try.prog = P
 intro A hA
 have C : Try.Cx P gl := ⟨hP.symm, hG⟩
 have hI : intsL = A.ints := by subst hA; rfl
 iterate 2 (all_goals try cbv; all_goals with_reducible repeat' first | exact True.intro | refine And.intro ?_ ?_ | intro _)
 all_goals try exact oH
 first | (refine callS hA rfl (wi P C) ?_; rintro _ rfl) | refine ⟨_, wi P C, ?_⟩
 iterate 2 (all_goals try cbv; all_goals with_reducible repeat' first | exact True.intro | refine And.intro ?_ ?_ | intro _)
 all_goals try exact oH
 iterate 2 (all_goals try cbv; all_goals with_reducible repeat' first | exact True.intro | refine And.intro ?_ ?_ | intro _)
 all_goals try exact oH

theorem sameNat_fs (C : Cx P gl) {l : List Int} {p : List PV} (hp : p = intsL l) (h : l.length ≤ 1000000000) : FS P gl 6 [.agg [.lst p], .agg [.lst p]] (· = B true) := by
 have hpl : p.length = l.length := by rw [hp, ints_len]
 obtain ⟨rfl, hG⟩ := C
 refine FS_ofT (args := fun A => [.agg [.lst p], .agg [.lst p]]) (R := fun A rr => rr = B true) Try.hT Try.mix Try.func6 rfl rfl (Nat.le_of_ble_eq_true rfl) ?_
 generalize hP : Try.prog = P
 intro A hA
 have C : Try.Cx P gl := ⟨hP.symm, hG⟩
 have hI : intsL = A.ints := by subst hA; rfl
 iterate 2 (all_goals try cbv; all_goals with_reducible repeat' first | exact True.intro | refine And.intro ?_ ?_ | intro _)
 all_goals try exact oH
 iterate 2 (all_goals try cbv; all_goals with_reducible repeat' first | exact True.intro | refine And.intro ?_ ?_ | intro _)
 all_goals try exact oH
 refine loopI hA [] (ι := Int) (fun x => [(5, .pv (I x))]) (fun x => []) (fun x => (l.length - x).toNat) (fun x => 0 ≤ x ∧ x ≤ l.length) 0 (by rfl) ?_ ?_ ?_
 all_goals try exact tH
 ·exact ⟨Int.le_refl _, Int.natCast_nonneg _⟩
 rintro i ⟨hi0, hi1⟩
 have hlt : ∀ _ : Unit, A.lt i (A.cast (A.len p)) = true → i < l.length ∧ i.toNat < l.length ∧ i + 1 ≤ l.length := by
  intro _ h; subst hA; have := of_decide_eq_true (show decide (i < ((p.length : Nat) : Int)) = true from h); rw [hpl] at this; omega
 iterate 2 (all_goals try cbv; all_goals with_reducible repeat' first | exact True.intro | refine And.intro ?_ ?_ | intro _)
 all_goals try exact oH
 rename_i hh h2
 obtain ⟨g1, g2, g3⟩ := hlt () hh
 iterate 2 (all_goals try cbv; all_goals with_reducible repeat' first | exact True.intro | refine And.intro ?_ ?_ | intro _)
 all_goals try exact oH
 clear hlt
 obtain ⟨y1, hy1⟩ : ∃ y, y = i + 1 := ⟨_, rfl⟩
 refine ⟨⟨y1, ?_⟩, ?_, ?_⟩
 rotate_left
 ·cbv
  exact nH
 ·(subst hA; subst_vars; simp only [AR.std, natCast_eq, sH, reduceCtorEq] at *; try simp (disch := omega) only [AR.std, natCast_eq, sH, reduceCtorEq] at *); omega
 ·rw [hy1]; omega

theorem specNatOf_fs (C : Cx P gl) {n : Int} {m : Nat} {r : List PV} (hn : n = m) (h1 : m ≤ 9223372036854775807) (hr : r = intsL (dg m)) : FS P gl 17 [I n] (· = .tup [.agg [.lst r], B true]) := by
 have lo := fun (P' : Program) (C' : Cx P' gl) => l2of_fs C' hn hr h1
 have h0 : 0 ≤ n := by omega
 clear hn hr
 obtain ⟨rfl, hG⟩ := C
 refine FS_ofT (args := fun A => [I n]) (R := fun A rr => rr = .tup [.agg [.lst r], B true]) Try.hT Try.mix Try.func17 rfl rfl (Nat.le_of_ble_eq_true rfl) ?_
 generalize hP : Try.prog = P
 intro A hA
 have C : Try.Cx P gl := ⟨hP.symm, hG⟩
 have hI : intsL = A.ints := by subst hA; rfl
 have q5 : A.lt n 0 = false := by clear lo; subst hA; exact decide_eq_false (by omega)
 iterate 2 (all_goals try cbv; all_goals with_reducible repeat' first | exact True.intro | refine And.intro ?_ ?_ | intro _)
 all_goals try exact oH
 all_goals try simp only [q5]
 iterate 2 (all_goals try cbv; all_goals with_reducible repeat' first | exact True.intro | refine And.intro ?_ ?_ | intro _)
 all_goals try exact oH
 first | (refine callS hA rfl (lo P C) ?_; rintro _ rfl) | refine ⟨_, lo P C, ?_⟩
 iterate 2 (all_goals try cbv; all_goals with_reducible repeat' first | exact True.intro | refine And.intro ?_ ?_ | intro _)
 all_goals try exact oH

theorem natL_fs (C : Cx P gl) {n : Int} {m : Nat} {r : List PV} (hn : n = m) (h1 : m ≤ 9223372036854775807) (hr : r = intsL (dg m)) : FS P gl 7 [I n] (· = .agg [.lst r]) := by
 have lo := fun (P' : Program) (C' : Cx P' gl) => specNatOf_fs C' hn h1 hr
 clear hn hr
 obtain ⟨rfl, hG⟩ := C
 refine FS_ofT (args := fun A => [I n]) (R := fun A rr => rr = .agg [.lst r]) Try.hT Try.mix Try.func7 rfl rfl (Nat.le_of_ble_eq_true rfl) ?_
 generalize hP : Try.prog = P
 intro A hA
 have C : Try.Cx P gl := ⟨hP.symm, hG⟩
 have hI : intsL = A.ints := by subst hA; rfl
 iterate 2 (all_goals try cbv; all_goals with_reducible repeat' first | exact True.intro | refine And.intro ?_ ?_ | intro _)
 all_goals try exact oH
 first | (refine callS hA rfl (lo P C) ?_; rintro _ rfl) | refine ⟨_, lo P C, ?_⟩
 iterate 2 (all_goals try cbv; all_goals with_reducible repeat' first | exact True.intro | refine And.intro ?_ ?_ | intro _)
 all_goals try exact oH

theorem natOkD {m : Nat} (h : (dg m).length ≤ 100) : natOk (dg m) := natOk_dg.2 ⟨h, m, rfl⟩

theorem areNats_fs (C : Cx P gl) {a b : Nat} {p q : List PV} (hp : p = intsL (dg a)) (hq : q = intsL (dg b)) (ha : (dg a).length ≤ 100) (hb : (dg b).length ≤ 100) : FS P gl 18 [.agg [.lst p], .agg [.lst q]] (· = B true) := by
 have k1 := fun (P' : Program) (C' : Cx P' gl) => implNatOk_fs C' (b := true) hp ⟨fun _ => natOkD ha, fun _ => rfl⟩ (by omega)
 have k2 := fun (P' : Program) (C' : Cx P' gl) => implNatOk_fs C' (b := true) hq ⟨fun _ => natOkD hb, fun _ => rfl⟩ (by omega)
 clear hp hq
 obtain ⟨rfl, hG⟩ := C
 refine FS_ofT (args := fun A => [.agg [.lst p], .agg [.lst q]]) (R := fun A rr => rr = B true) Try.hT Try.mix Try.func18 rfl rfl (Nat.le_of_ble_eq_true rfl) ?_
 generalize hP : Try.prog = P
 intro A hA
 have C : Try.Cx P gl := ⟨hP.symm, hG⟩
 have hI : intsL = A.ints := by subst hA; rfl
 have q6 : ∀ x, A.pick true x false = x := fun x => by subst hA; rfl
 iterate 2 (all_goals try cbv; all_goals with_reducible repeat' first | exact True.intro | refine And.intro ?_ ?_ | intro _)
 all_goals try exact oH
 first | (refine callS hA rfl (k1 P C) ?_; rintro _ rfl) | refine ⟨_, k1 P C, ?_⟩
 iterate 2 (all_goals try cbv; all_goals with_reducible repeat' first | exact True.intro | refine And.intro ?_ ?_ | intro _)
 all_goals try exact oH
 refine ⟨_, fun _ => k2 P C, ?_⟩
 iterate 2 (all_goals try cbv; all_goals with_reducible repeat' first | exact True.intro | refine And.intro ?_ ?_ | intro _)
 all_goals try exact oH
 all_goals try simp only [q6]

theorem natMul_fs (C : Cx P gl) {a b c : Nat} {p q r : List PV} (hp : p = intsL (dg a)) (hq : q = intsL (dg b)) (hc : a * b = c) (hr : r = intsL (dg c)) (ha : (dg a).length ≤ 100) (hb : (dg b).length ≤ 100) (hc2 : (dg c).length ≤ 100) : FS P gl 8 [.agg [.lst p], .agg [.lst q]] (· = .tup [.agg [.lst r], B true]) := by
 have k1 := fun (P' : Program) (C' : Cx P' gl) => areNats_fs C' hp hq ha hb
 have k2 := fun (P' : Program) (C' : Cx P' gl) => times_fs C' (n := c) hp hq (valid_dg _) (valid_dg _) (by rw [val_dg, val_dg, ← hc, Int.natCast_mul]) hr (by omega)
 have k3 := fun (P' : Program) (C' : Cx P' gl) => natOf_vs C' hr hc2
 clear hp hq hc hr
 obtain ⟨rfl, hG⟩ := C
 refine FS_ofT (args := fun A => [.agg [.lst p], .agg [.lst q]]) (R := fun A rr => rr = .tup [.agg [.lst r], B true]) Try.hT Try.mix Try.func8 rfl rfl (Nat.le_of_ble_eq_true rfl) ?_
 generalize hP : Try.prog = P
 intro A hA
 have C : Try.Cx P gl := ⟨hP.symm, hG⟩
 have hI : intsL = A.ints := by subst hA; rfl
 have q1 : A.bnot true = false := by subst hA; rfl
 iterate 2 (all_goals try cbv; all_goals with_reducible repeat' first | exact True.intro | refine And.intro ?_ ?_ | intro _)
 all_goals try exact oH
 first | (refine callS hA rfl (k1 P C) ?_; rintro _ rfl) | refine ⟨_, k1 P C, ?_⟩
 iterate 2 (all_goals try cbv; all_goals with_reducible repeat' first | exact True.intro | refine And.intro ?_ ?_ | intro _)
 all_goals try exact oH
 all_goals try simp only [q1]
 iterate 2 (all_goals try cbv; all_goals with_reducible repeat' first | exact True.intro | refine And.intro ?_ ?_ | intro _)
 all_goals try exact oH
 first | (refine callS hA rfl (k2 P C) ?_; rintro _ rfl) | refine ⟨_, k2 P C, ?_⟩
 iterate 2 (all_goals try cbv; all_goals with_reducible repeat' first | exact True.intro | refine And.intro ?_ ?_ | intro _)
 all_goals try exact oH
 first | (refine callS hA rfl (k3 P C) ?_; rintro _ rfl) | refine ⟨_, k3 P C, ?_⟩
 iterate 2 (all_goals try cbv; all_goals with_reducible repeat' first | exact True.intro | refine And.intro ?_ ?_ | intro _)
 all_goals try exact oH

theorem natBits_fs (C : Cx P gl) {a : Nat} {b : Int} {p : List PV} (hp : p = intsL (dg a)) (hb : b = bl a) (ha : (dg a).length ≤ 100) : FS P gl 11 [.agg [.lst p]] (· = I b) := by
 have k1 := fun (P' : Program) (C' : Cx P' gl) => implNatOk_fs C' (b := true) hp ⟨fun _ => natOkD ha, fun _ => rfl⟩ (by omega)
 have k2 := fun (P' : Program) (C' : Cx P' gl) => bitsOf_fs C' hp hb (by omega)
 clear hp hb
 obtain ⟨rfl, hG⟩ := C
 refine FS_ofT (args := fun A => [.agg [.lst p]]) (R := fun A rr => rr = I b) Try.hT Try.mix Try.func11 rfl rfl (Nat.le_of_ble_eq_true rfl) ?_
 generalize hP : Try.prog = P
 intro A hA
 have C : Try.Cx P gl := ⟨hP.symm, hG⟩
 have hI : intsL = A.ints := by subst hA; rfl
 have q1 : A.bnot true = false := by subst hA; rfl
 iterate 2 (all_goals try cbv; all_goals with_reducible repeat' first | exact True.intro | refine And.intro ?_ ?_ | intro _)
 all_goals try exact oH
 first | (refine callS hA rfl (k1 P C) ?_; rintro _ rfl) | refine ⟨_, k1 P C, ?_⟩
 iterate 2 (all_goals try cbv; all_goals with_reducible repeat' first | exact True.intro | refine And.intro ?_ ?_ | intro _)
 all_goals try exact oH
 all_goals try simp only [q1]
 iterate 2 (all_goals try cbv; all_goals with_reducible repeat' first | exact True.intro | refine And.intro ?_ ?_ | intro _)
 all_goals try exact oH
 first | (refine callS hA rfl (k2 P C) ?_; rintro _ rfl) | refine ⟨_, k2 P C, ?_⟩
 iterate 2 (all_goals try cbv; all_goals with_reducible repeat' first | exact True.intro | refine And.intro ?_ ?_ | intro _)
 all_goals try exact oH

end Try
end Go.Proofs
