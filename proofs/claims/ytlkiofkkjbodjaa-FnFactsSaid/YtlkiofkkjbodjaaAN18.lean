/- Contracts: lists whose elements all are in form. -/
import Derived.Test.YtlkiofkkjbodjaaAN17
set_option maxHeartbeats 1000000
set_option maxRecDepth 100000
namespace Go.Proofs
open Go Go.Pe Go.Dg
namespace Try
set_option linter.unusedSimpArgs false
set_option linter.unusedVariables false
variable {P : Program} {gl : List (Nat × Obj)}

theorem digitIs_fs (C : Cx P gl) {x : Int} {b : Bool} (hb : b = (decide (0 ≤ x) && decide (x ≤ 65535))) : FS P gl 31 [I x] (· = B b) := by
 obtain ⟨rfl, hG⟩ := C
 refine FS_ofT (args := fun A => [I x]) (R := fun A rr => rr = B b) Try.hT Try.mix Try.func31 rfl rfl (Nat.le_of_ble_eq_true rfl) ?_
 generalize hP : Try.prog = P
 intro A hA
 have C : Try.Cx P gl := ⟨hP.symm, hG⟩
 have hI : intsL = A.ints := by subst hA; rfl
 iterate 2 (all_goals try cbv; all_goals with_reducible repeat' first | exact True.intro | refine And.intro ?_ ?_ | intro _)
 all_goals try exact oH
 refine callS hA rfl (within_fs C hb) ?_; rintro _ rfl
 iterate 2 (all_goals try cbv; all_goals with_reducible repeat' first | exact True.intro | refine And.intro ?_ ?_ | intro _)
 all_goals try exact oH

theorem notDigit_fs (C : Cx P gl) {x : Int} {b : Bool} (hb : b = (decide (0 ≤ x) && decide (x ≤ 65535))) : FS P gl 36 [I x, .ptr [.fn 31 []] 0] (· = B (!b)) := by
 obtain ⟨rfl, hG⟩ := C
 refine FS_ofT (args := fun A => [I x, .ptr [.fn 31 []] 0]) (R := fun A rr => rr = B (A.bnot b)) Try.hT Try.mix Try.func36 rfl rfl (Nat.le_of_ble_eq_true rfl) ?_
 generalize hP : Try.prog = P
 intro A hA
 have C : Try.Cx P gl := ⟨hP.symm, hG⟩
 have hI : intsL = A.ints := by subst hA; rfl
 iterate 2 (all_goals try cbv; all_goals with_reducible repeat' first | exact True.intro | refine And.intro ?_ ?_ | intro _)
 all_goals try exact oH
 refine callS hA rfl (digitIs_fs C hb) ?_; rintro _ rfl
 iterate 2 (all_goals try cbv; all_goals with_reducible repeat' first | exact True.intro | refine And.intro ?_ ?_ | intro _)
 all_goals try exact oH

theorem indexDigit_fs (C : Cx P gl) {l : List Int} {p : List PV} (hp : p = intsL l) (hl : l.length ≤ 2000000) :
  FS P gl 40 [.lst p, .fn 36 [.ptr [.fn 31 []] 0]] (fun r => ∃ c, r = I c ∧ (0 ≤ c ↔ ¬Valid l)) := by
 obtain ⟨rfl, hG⟩ := C
 refine FS_ofT (args := fun A => [.lst p, .fn 36 [.ptr [.fn 31 []] 0]]) (R := fun A rr => ∃ c, rr = I c ∧ (0 ≤ c ↔ ¬Valid l)) Try.hT Try.mix Try.func40 rfl rfl (Nat.le_of_ble_eq_true rfl) ?_
 generalize hP : Try.prog = P
 intro A hA
 have C : Try.Cx P gl := ⟨hP.symm, hG⟩
 have hI : intsL = A.ints := by subst hA; rfl
 iterate 2 (all_goals try cbv; all_goals with_reducible repeat' first | exact True.intro | refine And.intro ?_ ?_ | intro _)
 all_goals try exact oH
 refine loopI hA [] (ι := Int) (fun x => [(8, .pv (I x))]) (fun x => []) (fun x => (l.length - x).toNat) (fun x => nokI l x) 0 (by rfl) ?_ ?_ ?_
 all_goals try exact tH
 ·exact nokI_zero l
 rintro i hinv
 have hi0 := hinv.1
 have hi1 := hinv.2.1
 obtain ⟨b, hb⟩ : ∃ b, b = (decide (0 ≤ l.getD i.toNat 0) && decide (l.getD i.toNat 0 ≤ 65535)) := ⟨_, rfl⟩
 iterate 2 (all_goals try cbv; all_goals with_reducible repeat' first | exact True.intro | refine And.intro ?_ ?_ | intro _)
 all_goals try exact oH
 iterate 2 (all_goals try cbv; all_goals with_reducible repeat' first | exact True.intro | refine And.intro ?_ ?_ | intro _)
 all_goals try exact oH
 ·have hi : i < l.length := by (subst hA; subst_vars; simp only [AR.std, natCast_eq, sH, reduceCtorEq] at *; try simp (disch := omega) only [AR.std, natCast_eq, sH, reduceCtorEq] at *); omega
  have e : A.gi (A.el p (A.nat i)) 0 = l.getD i.toNat 0 := by (subst hA; subst_vars; simp only [AR.std, natCast_eq, sH, reduceCtorEq] at *; try simp (disch := omega) only [AR.std, natCast_eq, sH, reduceCtorEq] at *)
  have hb' : b = (decide (0 ≤ A.gi (A.el p (A.nat i)) 0) && decide (A.gi (A.el p (A.nat i)) 0 ≤ 65535)) := by rw [e]; exact hb
  refine callS hA rfl (notDigit_fs C hb') ?_; rintro _ rfl
  iterate 2 (all_goals try cbv; all_goals with_reducible repeat' first | exact True.intro | refine And.intro ?_ ?_ | intro _)
  all_goals try exact oH
  ·rename_i g
   have g : b = false := by cases b <;> first | rfl | exact absurd g (by decide)
   refine ⟨i, rfl, fun _ hv => ?_, fun _ => hi0⟩
   have := hv.get i.toNat
   rw [hb, decide_eq_true this.1, decide_eq_true (by omega)] at g
   exact absurd g (by decide)
  ·rename_i g
   have g : b = true := by cases b <;> first | rfl | exact absurd g (by decide)
   rw [hb, Bool.and_eq_true, decide_eq_true_eq, decide_eq_true_eq] at g
   obtain ⟨y1, hy1⟩ : ∃ y, y = i + 1 := ⟨_, rfl⟩
   refine ⟨⟨y1, ?_⟩, ?_, ?_⟩
   rotate_left
   ·cbv
    exact nH
   ·(subst hA; subst_vars; simp only [AR.std, natCast_eq, sH, reduceCtorEq] at *; try simp (disch := omega) only [AR.std, natCast_eq, sH, reduceCtorEq] at *); omega
   ·rw [hy1]; exact nokI_next hinv hi g.1 (by omega)
 ·have hi : l.length ≤ i := by (subst hA; subst_vars; simp only [AR.std, natCast_eq, sH, reduceCtorEq] at *; try simp (disch := omega) only [AR.std, natCast_eq, sH, reduceCtorEq] at *); omega
  have hv := nokI_exit hinv hi
  exact ⟨-1, rfl, fun h => absurd h (by decide), fun h => absurd hv h⟩

end Try
end Go.Proofs
