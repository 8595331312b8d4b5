/- Contracts: forms, as the program tells them. -/
import Derived.Test.YtlkiofkkjbodjaaAN18
set_option maxHeartbeats 1000000
set_option maxRecDepth 100000
namespace Go.Proofs
open Go Go.Pe Go.Dg
namespace Try
set_option linter.unusedSimpArgs false
set_option linter.unusedVariables false
variable {P : Program} {gl : List (Nat × Obj)}

theorem containsDigit_fs (C : Cx P gl) {l : List Int} {p : List PV} {b : Bool} (hp : p = intsL l) (hb : b = true ↔ Valid l) (hl : l.length ≤ 2000000) :
  FS P gl 35 [.lst p, .fn 36 [.ptr [.fn 31 []] 0]] (· = B (!b)) := by
 obtain ⟨rfl, hG⟩ := C
 refine FS_ofT (args := fun A => [.lst p, .fn 36 [.ptr [.fn 31 []] 0]]) (R := fun A rr => rr = B (A.bnot b)) Try.hT Try.mix Try.func35 rfl rfl (Nat.le_of_ble_eq_true rfl) ?_
 generalize hP : Try.prog = P
 intro A hA
 have C : Try.Cx P gl := ⟨hP.symm, hG⟩
 have hI : intsL = A.ints := by subst hA; rfl
 iterate 2 (all_goals try cbv; all_goals with_reducible repeat' first | exact True.intro | refine And.intro ?_ ?_ | intro _)
 all_goals try exact oH
 refine callS hA rfl (indexDigit_fs C hp hl) ?_; rintro _ ⟨c, rfl, hc⟩
 iterate 2 (all_goals try cbv; all_goals with_reducible repeat' first | exact True.intro | refine And.intro ?_ ?_ | intro _)
 all_goals try exact oH
 have e : A.le 0 c = A.bnot b := by
  subst hA
  show decide (0 ≤ c) = !b
  rw [Bool.eq_iff_iff, decide_eq_true_eq, hc, ← hb]
  cases b <;> simp
 simp only [e]

theorem areDigits_fs (C : Cx P gl) {l : List Int} {p : List PV} {b : Bool} (hp : p = intsL l) (hb : b = true ↔ Valid l) (hl : l.length ≤ 2000000) :
  FS P gl 30 [.lst p, .fn 31 []] (· = B b) := by
 obtain ⟨rfl, hG⟩ := C
 refine FS_ofT (args := fun A => [.lst p, .fn 31 []]) (R := fun A rr => rr = B b) Try.hT Try.mix Try.func30 rfl rfl (Nat.le_of_ble_eq_true rfl) ?_
 generalize hP : Try.prog = P
 intro A hA
 have C : Try.Cx P gl := ⟨hP.symm, hG⟩
 have hI : intsL = A.ints := by subst hA; rfl
 iterate 2 (all_goals try cbv; all_goals with_reducible repeat' first | exact True.intro | refine And.intro ?_ ?_ | intro _)
 all_goals try exact oH
 refine callS hA rfl (containsDigit_fs C hp hb hl) ?_; rintro _ rfl
 iterate 2 (all_goals try cbv; all_goals with_reducible repeat' first | exact True.intro | refine And.intro ?_ ?_ | intro _)
 all_goals try exact oH
 subst hA; cases b <;> rfl

theorem andb_of {A : AR} (hA : A = AR.std) {x y : Bool} (g1 : A.beq x true = true) (g2 : y = false) : A.andb (A.beq x true) (A.beq y false) = true := by
 subst hA g2
 cases x <;> first | rfl | exact absurd g1 (by decide)

theorem implNatOk_fs (C : Cx P gl) {l : List Int} {p : List PV} {b : Bool} (hp : p = intsL l) (hb : b = true ↔ natOk l) (hl : l.length ≤ 2000000) :
  FS P gl 21 [.agg [.lst p]] (· = B b) := by
 obtain ⟨c, hc⟩ := bool_of (Valid l)
 obtain ⟨rfl, hG⟩ := C
 refine FS_ofT (args := fun A => [.agg [.lst p]]) (R := fun A rr => rr = B b) Try.hT Try.mix Try.func21 rfl rfl (Nat.le_of_ble_eq_true rfl) ?_
 generalize hP : Try.prog = P
 intro A hA
 have C : Try.Cx P gl := ⟨hP.symm, hG⟩
 have hI : intsL = A.ints := by subst hA; rfl
 iterate 2 (all_goals try cbv; all_goals with_reducible repeat' first | exact True.intro | refine And.intro ?_ ?_ | intro _)
 all_goals try exact oH
 refine ⟨_, fun _ => areDigits_fs C hp hc hl, ?_⟩
 iterate 2 (all_goals try cbv; all_goals with_reducible repeat' first | exact True.intro | refine And.intro ?_ ?_ | intro _)
 all_goals try exact oH
 ·rename_i g1 g2
  exact andb_of hA g1 g2
 have hzl : A.le (A.cast (A.len p)) 100 = decide (l.length ≤ 100) := by
  by_cases h : l.length ≤ 100
  ·rw [decide_eq_true h]; (subst hA; subst_vars; simp only [AR.std, natCast_eq, sH, reduceCtorEq] at *; try simp (disch := omega) only [AR.std, natCast_eq, sH, reduceCtorEq] at *); omega
  ·rw [decide_eq_false h]; (subst hA; subst_vars; simp only [AR.std, natCast_eq, sH, reduceCtorEq] at *; try simp (disch := omega) only [AR.std, natCast_eq, sH, reduceCtorEq] at *); omega
 have hgt : l.length ≠ 0 → A.gi (A.el p (A.nat (A.sub .i64 (A.cast (A.len p)) 1))) 0 = l.getD (l.length - 1) 0 := by
  intro h
  have e0 : (l.length - 1 : Int).toNat = l.length - 1 := by omega
  clear hb hc hzl
  subst hA
  subst_vars
  simp only [AR.std, natCast_eq, sH, reduceCtorEq] at *
  try simp (disch := omega) only [AR.std, natCast_eq, sH, reduceCtorEq] at *
  rw [e0]
 have hez : A.eq (A.cast (A.len p)) 0 = decide (l.length = 0) := by
  by_cases h : l.length = 0
  ·rw [decide_eq_true h]; clear hgt; (subst hA; subst_vars; simp only [AR.std, natCast_eq, sH, reduceCtorEq] at *; try simp (disch := omega) only [AR.std, natCast_eq, sH, reduceCtorEq] at *); omega
  ·rw [decide_eq_false h]; clear hgt; (subst hA; subst_vars; simp only [AR.std, natCast_eq, sH, reduceCtorEq] at *; try simp (disch := omega) only [AR.std, natCast_eq, sH, reduceCtorEq] at *); omega
 have e : A.pick (A.pick (decide (l.length ≤ 100)) c false) (A.pick (decide (l.length = 0)) true (A.ne (A.gi (A.el p (A.nat (A.sub .i64 (A.cast (A.len p)) 1))) 0) 0)) false = b := by
  rw [Bool.eq_iff_iff, hb, natOk]
  by_cases h1 : l.length ≤ 100
  ·by_cases h2 : c = true
   ·have hv := hc.1 h2
    by_cases h3 : l.length = 0
    ·subst hA; simp [AR.std, h1, h2, h3, hv]
    ·have := hv.get (l.length - 1)
     rw [hgt h3]
     clear hgt
     generalize l.getD (l.length - 1) 0 = y at *
     subst hA; simp [AR.std, h1, h2, h3, hv]; omega
   ·have h4 : ¬Valid l := fun h => h2 (hc.2 h)
    subst hA; simp [AR.std, h1, h2, h4]
  ·subst hA; simp [AR.std, h1]
 simp only [hzl, hez, e]

end Try
end Go.Proofs
