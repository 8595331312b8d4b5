/- Contracts: interval matrices as the program has them: forms, the numbers of a matrix. -/
import Derived.Test.YtlkiofkkjbodjaaGreatDoorAN25
set_option maxHeartbeats 1000000
set_option maxRecDepth 100000
namespace Go.Proofs
open Go Go.Pe Go.Dg
namespace Tryz
set_option linter.unusedSimpArgs false
set_option linter.unusedVariables false
variable {P : Program} {gl : List (Nat × Obj)}

theorem ivField_fs (C : Cx P gl) {vs : List Cell6} {p : List PV} {n : Int} (hp : p = cells6 vs) (hl : vs.length ≤ 2000000) :
  FS P gl 55 [.agg [I n, .lst p]] (· = .agg [I n, .lst p]) := by
 obtain ⟨rfl, hG⟩ := C
 refine FS_ofT (args := fun A => [.agg [I n, .lst p]]) (R := fun A rr => rr = .agg [I n, .lst p]) Tryz.hT Tryz.mix Tryz.func55 rfl rfl (Nat.le_of_ble_eq_true rfl) ?_
 generalize hP : Tryz.prog = P
 intro A hA
 have C : Tryz.Cx P gl := ⟨hP.symm, hG⟩
 have hI : intsL = A.ints := by subst hA; rfl
 iterate 2 (all_goals try cbv; all_goals with_reducible repeat' first | exact True.intro | refine And.intro ?_ ?_ | intro _)
 all_goals try exact oI
 refine loopI hA [.cell 2 1 126 6] (ι := Int × List PV) (fun x => [(12, .pv (I x.1))]) (fun x => [(3, .row 126 6 x.2)]) (fun x => (vs.length - x.1).toNat) (fun x => 0 ≤ x.1 ∧ x.1 ≤ vs.length ∧ x.2 = cells6 (vs.take x.1.toNat)) (0, []) (by rfl) ?_ ?_ ?_
 all_goals try exact tI
 ·exact ⟨Int.le_refl _, by omega, rfl⟩
 rintro ⟨i, q⟩ ⟨hi0, hi1, hq⟩
 simp only at hi0 hi1 hq
 iterate 2 (all_goals try cbv; all_goals with_reducible repeat' first | exact True.intro | refine And.intro ?_ ?_ | intro _)
 all_goals try exact oI
 ·rename_i g
  have gi : i < vs.length := by (subst hA; subst_vars; simp only [AR.std, natCast_eq, sI, reduceCtorEq] at *; try simp (disch := omega) only [AR.std, natCast_eq, sI, reduceCtorEq] at *); omega
  have hlt : i.toNat < vs.length := by omega
  have hge1 : i + 1 ≤ vs.length := by omega
  have h1l : A.gl (A.el p (A.nat i)) 1 = intsL (vs.getD i.toNat noV).1.2.1 := by (subst hA; subst_vars; simp only [AR.std, natCast_eq, sI, reduceCtorEq] at *; try simp (disch := omega) only [AR.std, natCast_eq, sI, reduceCtorEq] at *)
  have h1b : A.gb (A.el p (A.nat i)) 0 = (vs.getD i.toNat noV).1.1 := by clear h1l; (subst hA; subst_vars; simp only [AR.std, natCast_eq, sI, reduceCtorEq] at *; try simp (disch := omega) only [AR.std, natCast_eq, sI, reduceCtorEq] at *)
  have h1e : A.gi (A.el p (A.nat i)) 2 = (vs.getD i.toNat noV).1.2.2 := by clear h1l h1b; (subst hA; subst_vars; simp only [AR.std, natCast_eq, sI, reduceCtorEq] at *; try simp (disch := omega) only [AR.std, natCast_eq, sI, reduceCtorEq] at *)
  have h2l : A.gl (A.el p (A.nat i)) 4 = intsL (vs.getD i.toNat noV).2.2.1 := by clear h1l h1b h1e; (subst hA; subst_vars; simp only [AR.std, natCast_eq, sI, reduceCtorEq] at *; try simp (disch := omega) only [AR.std, natCast_eq, sI, reduceCtorEq] at *)
  have h2b : A.gb (A.el p (A.nat i)) 3 = (vs.getD i.toNat noV).2.1 := by clear h1l h1b h1e h2l; (subst hA; subst_vars; simp only [AR.std, natCast_eq, sI, reduceCtorEq] at *; try simp (disch := omega) only [AR.std, natCast_eq, sI, reduceCtorEq] at *)
  have h2e : A.gi (A.el p (A.nat i)) 5 = (vs.getD i.toNat noV).2.2.2 := by clear h1l h1b h1e h2l h2b; (subst hA; subst_vars; simp only [AR.std, natCast_eq, sI, reduceCtorEq] at *; try simp (disch := omega) only [AR.std, natCast_eq, sI, reduceCtorEq] at *)
  refine ⟨_, span_fs C, ?_⟩
  iterate 2 (all_goals try cbv; all_goals with_reducible repeat' first | exact True.intro | refine And.intro ?_ ?_ | intro _)
  all_goals try exact oI
  all_goals try exact okA_of hA (by intro x hx; rw [List.mem_singleton.1 hx]; exact ⟨rfl, rfl⟩)
  clear h1l h1b h1e h2l h2b h2e
  obtain ⟨y1, hy1⟩ : ∃ y, y = i + 1 := ⟨_, rfl⟩
  obtain ⟨y2, hy2⟩ : ∃ y, y = q ++ [cell6 (vs.getD i.toNat noV)] := ⟨_, rfl⟩
  refine ⟨⟨(y1, y2), ?_⟩, ?_, ?_⟩
  rotate_left
  ·cbv
   exact nI
  ·(subst hA; subst_vars; simp only [AR.std, natCast_eq, sI, reduceCtorEq] at *; try simp (disch := omega) only [AR.std, natCast_eq, sI, reduceCtorEq] at *); omega
  ·rw [hy1, hy2]
   refine ⟨by simp only; omega, hge1, ?_⟩
   simp only
   rw [show (i + 1).toNat = i.toNat + 1 by omega, hq, c6take hlt]
 ·rename_i g
  have e : q = p := by
   have gi : vs.length ≤ i := by clear hq; (subst hA; subst_vars; simp only [AR.std, natCast_eq, sI, reduceCtorEq] at *; try simp (disch := omega) only [AR.std, natCast_eq, sI, reduceCtorEq] at *); omega
   rw [hq, List.take_of_length_le (by omega), hp]
  simp only [e]

def ivmOk (n : Int) (vs : List Cell6) : Prop := 1 ≤ n ∧ n ≤ 4 ∧ (vs.length : Int) = n * n ∧ allV vs

theorem ivmLen {vs : List Cell6} {n : Int} (h1 : 1 ≤ n) (h4 : n ≤ 4) (hl : (vs.length : Int) = n * n) : vs.length ≤ 16 := by
 have hm2 : n * n ≤ 16 := by
  rcases (by omega : n = 1 ∨ n = 2 ∨ n = 3 ∨ n = 4) with rfl | rfl | rfl | rfl <;> decide
 omega

theorem implIvMatOk_fs (C : Cx P gl) {vs : List Cell6} {p : List PV} {n : Int} {b : Bool} (hp : p = cells6 vs) (hb : b = true ↔ ivmOk n vs) (hl : vs.length ≤ 2000000) (hy : ∀ v ∈ vs, v.1.2.1.length ≤ 2000000 ∧ v.2.2.1.length ≤ 2000000) :
  FS P gl 53 [.agg [I n, .lst p]] (· = B b) := by
 obtain ⟨b1, hb1⟩ : ∃ b1, b1 = (decide (1 ≤ n) && decide (n ≤ 4)) := ⟨_, rfl⟩
 obtain ⟨b2, hb2⟩ : ∃ b2, b2 = decide ((vs.length : Int) = n * n) := ⟨_, rfl⟩
 obtain ⟨b3, hb3⟩ := bool_of (allV vs)
 have hbb : b = (b1 && b2 && b3) := by
  rw [Bool.eq_iff_iff, hb, Bool.and_eq_true, Bool.and_eq_true, hb3, hb1, hb2, Bool.and_eq_true, decide_eq_true_eq, decide_eq_true_eq, decide_eq_true_eq, ivmOk]
  simp only [and_assoc]
 have h1 := fun (P' : Program) (C' : Cx P' gl) => within_fs C' hb1
 have h3 := fun (P' : Program) (C' : Cx P' gl) => areIvs_fs C' hp hb3 hl hy
 clear hb hb3
 obtain ⟨rfl, hG⟩ := C
 refine FS_ofT (args := fun A => [.agg [I n, .lst p]]) (R := fun A rr => rr = B b) Tryz.hT Tryz.mix Tryz.func53 rfl rfl (Nat.le_of_ble_eq_true rfl) ?_
 generalize hP : Tryz.prog = P
 intro A hA
 have C : Tryz.Cx P gl := ⟨hP.symm, hG⟩
 have hI : intsL = A.ints := by subst hA; rfl
 iterate 2 (all_goals try cbv; all_goals with_reducible repeat' first | exact True.intro | refine And.intro ?_ ?_ | intro _)
 all_goals try exact oI
 refine callS hA rfl (h1 P C) ?_; rintro _ rfl
 iterate 2 (all_goals try cbv; all_goals with_reducible repeat' first | exact True.intro | refine And.intro ?_ ?_ | intro _)
 all_goals try exact oI
 have e : A.pick b1 (A.eq (A.cast (A.len p)) (A.mul .i64 n n)) false = (b1 && b2) := by
  rw [hb2]
  cases b1 with
  | false => subst hA; rfl
  | true =>
   have h2 := hb1.symm
   rw [Bool.and_eq_true, decide_eq_true_eq, decide_eq_true_eq] at h2
   have hm : n * n ≤ 16 ∧ 0 ≤ n * n := by
    rcases (by omega : n = 1 ∨ n = 2 ∨ n = 3 ∨ n = 4) with rfl | rfl | rfl | rfl <;> decide
   subst hA
   simp only [AR.std]
   rw [wrapi (by omega) (by omega), hp, c6len, Bool.eq_iff_iff]
   simp
 refine ⟨_, fun _ => h3 P C, ?_⟩
 iterate 2 (all_goals try cbv; all_goals with_reducible repeat' first | exact True.intro | refine And.intro ?_ ?_ | intro _)
 all_goals try exact oI
 have e2 : A.pick (A.pick b1 (A.eq (A.cast (A.len p)) (A.mul .i64 n n)) false) b3 false = b := by
  rw [e, hbb]
  subst hA
  show (bif b1 && b2 then b3 else false) = _
  cases b1 && b2 <;> rfl
 exact congrArg (fun x => PV.val (.bool x)) e2

theorem areIvMats_fs (C : Cx P gl) {vs ws : List Cell6} {p q : List PV} {n m : Int} {b : Bool} (hp : p = cells6 vs) (hq : q = cells6 ws) (hb : b = true ↔ ivmOk n vs ∧ ivmOk m ws ∧ n = m)
  (hl : vs.length ≤ 2000000) (hy : ∀ v ∈ vs, v.1.2.1.length ≤ 2000000 ∧ v.2.2.1.length ≤ 2000000) (hm : ws.length ≤ 2000000) (hz : ∀ v ∈ ws, v.1.2.1.length ≤ 2000000 ∧ v.2.2.1.length ≤ 2000000) :
  FS P gl 63 [.agg [I n, .lst p], .agg [I m, .lst q]] (· = B b) := by
 obtain ⟨b1, hb1⟩ := bool_of (ivmOk n vs)
 obtain ⟨b2, hb2⟩ := bool_of (ivmOk m ws)
 have hbb : b = (b1 && b2 && decide (n = m)) := by
  rw [Bool.eq_iff_iff, hb, Bool.and_eq_true, Bool.and_eq_true, hb1, hb2, decide_eq_true_eq, and_assoc]
 have h1 := fun (P' : Program) (C' : Cx P' gl) => implIvMatOk_fs C' (n := n) hp hb1 hl hy
 have h2 := fun (P' : Program) (C' : Cx P' gl) => implIvMatOk_fs C' (n := m) hq hb2 hm hz
 clear hb hb1 hb2
 obtain ⟨rfl, hG⟩ := C
 refine FS_ofT (args := fun A => [.agg [I n, .lst p], .agg [I m, .lst q]]) (R := fun A rr => rr = B b) Tryz.hT Tryz.mix Tryz.func63 rfl rfl (Nat.le_of_ble_eq_true rfl) ?_
 generalize hP : Tryz.prog = P
 intro A hA
 have C : Tryz.Cx P gl := ⟨hP.symm, hG⟩
 have hI : intsL = A.ints := by subst hA; rfl
 iterate 2 (all_goals try cbv; all_goals with_reducible repeat' first | exact True.intro | refine And.intro ?_ ?_ | intro _)
 all_goals try exact oI
 refine callS hA rfl (h1 P C) ?_; rintro _ rfl
 iterate 2 (all_goals try cbv; all_goals with_reducible repeat' first | exact True.intro | refine And.intro ?_ ?_ | intro _)
 all_goals try exact oI
 refine ⟨_, fun _ => h2 P C, ?_⟩
 iterate 2 (all_goals try cbv; all_goals with_reducible repeat' first | exact True.intro | refine And.intro ?_ ?_ | intro _)
 all_goals try exact oI
 have e2 : A.pick (A.pick b1 b2 false) (A.eq n m) false = b := by
  rw [hbb]
  subst hA
  show (bif (bif b1 then b2 else false) then n == m else false) = _
  cases b1 <;> cases b2 <;> simp
  rfl
 exact congrArg (fun x => PV.val (.bool x)) e2

end Tryz
end Go.Proofs
