/- Contracts: matrices as the program has them: forms, the numbers of a matrix. -/
import Derived.Test.YthmkdfmapdbenaaGreatDoorCN21
import Derived.Test.YthmkdfmapdbenaaGreatDoorCEvD
namespace Go.Proofs
open Go Go.Pe Go.Dg
namespace Tryz
set_option linter.unusedSimpArgs false
set_option linter.unusedVariables false
variable {P : Program} {gl : List (Nat × Obj)}

set_option maxHeartbeats 1000000 in
set_option maxRecDepth 100000 in
theorem matGrid_fs (C : Cx P gl) {ys : List Cell3} {p : List PV} {n : Int} (hp : p = cells3 ys) (hl : ys.length ≤ 2000000) :
    FS P gl 53 [.agg [I n, .lst p]] (· = .agg [I n, .lst p]) := by
  obtain ⟨rfl, hG⟩ := C
  refine FS_ofT (args := fun A => [.agg [I n, .lst p]]) (R := fun A rr => rr = .agg [I n, .lst p]) Tryz.hT Tryz.mix Tryz.func53 rfl rfl (Nat.le_of_ble_eq_true rfl) ?_
  generalize hP : Tryz.prog = P
  intro A hA
  have C : Tryz.Cx P gl := ⟨hP.symm, hG⟩
  have hI : intsL = A.ints := by subst hA; rfl
  iterate 2 (all_goals try cbv; all_goals repeat' (first | with_reducible exact True.intro | with_reducible refine And.intro ?_ ?_ | intro _))
  all_goals try exact oG
  refine loopI hA [.cell 2 1 73 3] (ι := Int × List PV) (fun x => [(12, .pv (I x.1))]) (fun x => [(3, .row 73 3 x.2)]) (fun x => (ys.length - x.1).toNat) (fun x => 0 ≤ x.1 ∧ x.1 ≤ ys.length ∧ x.2 = cells3 (ys.take x.1.toNat)) (0, []) (by rfl) ?_ ?_ ?_
  all_goals try exact tG
  · exact ⟨Int.le_refl _, by omega, rfl⟩
  rintro ⟨i, q⟩ ⟨hi0, hi1, hq⟩
  simp only at hi0 hi1 hq
  iterate 2 (all_goals try cbv; all_goals repeat' (first | with_reducible exact True.intro | with_reducible refine And.intro ?_ ?_ | intro _))
  all_goals try exact oG
  · rename_i g
    have gi : i < ys.length := by (subst hA; subst_vars; simp only [AR.std, natCast_eq, sG, reduceCtorEq] at *; try simp (disch := omega) only [AR.std, natCast_eq, sG, reduceCtorEq] at *); omega
    have hlt : i.toNat < ys.length := by omega
    have hge1 : i + 1 ≤ ys.length := by omega
    have hgl : A.gl (A.el p (A.nat i)) 1 = intsL (ys.getD i.toNat noY).2.1 := by (subst hA; subst_vars; simp only [AR.std, natCast_eq, sG, reduceCtorEq] at *; try simp (disch := omega) only [AR.std, natCast_eq, sG, reduceCtorEq] at *)
    have hgb : A.gb (A.el p (A.nat i)) 0 = (ys.getD i.toNat noY).1 := by clear hgl; (subst hA; subst_vars; simp only [AR.std, natCast_eq, sG, reduceCtorEq] at *; try simp (disch := omega) only [AR.std, natCast_eq, sG, reduceCtorEq] at *)
    have hge : A.gi (A.el p (A.nat i)) 2 = (ys.getD i.toNat noY).2.2 := by clear hgl hgb; (subst hA; subst_vars; simp only [AR.std, natCast_eq, sG, reduceCtorEq] at *; try simp (disch := omega) only [AR.std, natCast_eq, sG, reduceCtorEq] at *)
    refine ⟨_, dyExact_fs C, ?_⟩
    iterate 2 (all_goals try cbv; all_goals repeat' (first | with_reducible exact True.intro | with_reducible refine And.intro ?_ ?_ | intro _))
    all_goals try exact oG
    all_goals try exact okA_of hA (by intro x hx; rw [List.mem_singleton.1 hx]; exact ⟨rfl, rfl⟩)
    clear hgl hgb hge
    obtain ⟨y1, hy1⟩ : ∃ y, y = i + 1 := ⟨_, rfl⟩
    obtain ⟨y2, hy2⟩ : ∃ y, y = q ++ [cell3 (ys.getD i.toNat noY)] := ⟨_, rfl⟩
    refine ⟨⟨(y1, y2), ?_⟩, ?_, ?_⟩
    rotate_left
    · cbv
      exact nG
    · (subst hA; subst_vars; simp only [AR.std, natCast_eq, sG, reduceCtorEq] at *; try simp (disch := omega) only [AR.std, natCast_eq, sG, reduceCtorEq] at *); omega
    · rw [hy1, hy2]
      refine ⟨by simp only; omega, hge1, ?_⟩
      simp only
      rw [show (i + 1).toNat = i.toNat + 1 by omega, hq, c3take hlt]
  · rename_i g
    have e : q = p := by
      have gi : ys.length ≤ i := by clear hq; (subst hA; subst_vars; simp only [AR.std, natCast_eq, sG, reduceCtorEq] at *; try simp (disch := omega) only [AR.std, natCast_eq, sG, reduceCtorEq] at *); omega
      rw [hq, List.take_of_length_le (by omega), hp]
    simp only [e]

/-- a matrix in form -/
def matOk (n : Int) (ys : List Cell3) : Prop := 1 ≤ n ∧ n ≤ 4 ∧ (ys.length : Int) = n * n ∧ allY ys

theorem matLen {ys : List Cell3} {n : Int} (h1 : 1 ≤ n) (h4 : n ≤ 4) (hl : (ys.length : Int) = n * n) : ys.length ≤ 16 := by
  have hm2 : n * n ≤ 16 := by
    rcases (by omega : n = 1 ∨ n = 2 ∨ n = 3 ∨ n = 4) with rfl | rfl | rfl | rfl <;> decide
  omega

set_option maxHeartbeats 1000000 in
set_option maxRecDepth 100000 in
theorem implMatOk_fs (C : Cx P gl) {ys : List Cell3} {p : List PV} {n : Int} {b : Bool} (hp : p = cells3 ys) (hb : b = true ↔ matOk n ys) (hl : ys.length ≤ 2000000) (hy : ∀ y ∈ ys, y.2.1.length ≤ 2000000) :
    FS P gl 62 [.agg [I n, .lst p]] (· = B b) := by
  obtain ⟨b1, hb1⟩ : ∃ b1, b1 = (decide (1 ≤ n) && decide (n ≤ 4)) := ⟨_, rfl⟩
  obtain ⟨b2, hb2⟩ : ∃ b2, b2 = decide ((ys.length : Int) = n * n) := ⟨_, rfl⟩
  obtain ⟨b3, hb3⟩ := bool_of (allY ys)
  have hbb : b = (b1 && b2 && b3) := by
    rw [Bool.eq_iff_iff, hb, Bool.and_eq_true, Bool.and_eq_true, hb3, hb1, hb2, Bool.and_eq_true, decide_eq_true_eq, decide_eq_true_eq, decide_eq_true_eq, matOk]
    simp only [and_assoc]
  have h1 := fun (P' : Program) (C' : Cx P' gl) => within_fs C' hb1
  have h3 := fun (P' : Program) (C' : Cx P' gl) => areDys_fs C' hp hb3 hl hy
  clear hb hb3
  obtain ⟨rfl, hG⟩ := C
  refine FS_ofT (args := fun A => [.agg [I n, .lst p]]) (R := fun A rr => rr = B b) Tryz.hT Tryz.mix Tryz.func62 rfl rfl (Nat.le_of_ble_eq_true rfl) ?_
  generalize hP : Tryz.prog = P
  intro A hA
  have C : Tryz.Cx P gl := ⟨hP.symm, hG⟩
  have hI : intsL = A.ints := by subst hA; rfl
  iterate 2 (all_goals try cbv; all_goals repeat' (first | with_reducible exact True.intro | with_reducible refine And.intro ?_ ?_ | intro _))
  all_goals try exact oG
  refine callS hA rfl (h1 P C) ?_; rintro _ rfl
  iterate 2 (all_goals try cbv; all_goals repeat' (first | with_reducible exact True.intro | with_reducible refine And.intro ?_ ?_ | intro _))
  all_goals try exact oG
  have e : A.pick b1 (A.eq (A.cast (A.len p)) (A.mul .i64 n n)) false = (b1 && b2) := by
    rw [hb2]
    cases b1 with
    | false => subst hA; rfl
    | true =>
      have h2 := hb1.symm
      rw [Bool.and_eq_true, decide_eq_true_eq, decide_eq_true_eq] at h2
      have hm : n * n ≤ 16 ∧ 0 ≤ n * n := by
        rcases (by omega : n = 1 ∨ n = 2 ∨ n = 3 ∨ n = 4) with rfl | rfl | rfl | rfl <;> decide
      subst hA
      simp only [AR.std]
      rw [wrapi (by omega) (by omega), hp, c3len, Bool.eq_iff_iff]
      simp
  refine ⟨_, fun _ => h3 P C, ?_⟩
  iterate 2 (all_goals try cbv; all_goals repeat' (first | with_reducible exact True.intro | with_reducible refine And.intro ?_ ?_ | intro _))
  all_goals try exact oG
  have e2 : A.pick (A.pick b1 (A.eq (A.cast (A.len p)) (A.mul .i64 n n)) false) b3 false = b := by
    rw [e, hbb]
    subst hA
    show (bif b1 && b2 then b3 else false) = _
    cases b1 && b2 <;> rfl
  exact congrArg (fun x => PV.val (.bool x)) e2

set_option maxHeartbeats 1000000 in
set_option maxRecDepth 100000 in
theorem areMats_fs (C : Cx P gl) {ys zs : List Cell3} {p q : List PV} {n m : Int} {b : Bool} (hp : p = cells3 ys) (hq : q = cells3 zs) (hb : b = true ↔ matOk n ys ∧ matOk m zs ∧ n = m)
    (hl : ys.length ≤ 2000000) (hy : ∀ y ∈ ys, y.2.1.length ≤ 2000000) (hm : zs.length ≤ 2000000) (hz : ∀ y ∈ zs, y.2.1.length ≤ 2000000) :
    FS P gl 52 [.agg [I n, .lst p], .agg [I m, .lst q]] (· = B b) := by
  obtain ⟨b1, hb1⟩ := bool_of (matOk n ys)
  obtain ⟨b2, hb2⟩ := bool_of (matOk m zs)
  have hbb : b = (b1 && b2 && decide (n = m)) := by
    rw [Bool.eq_iff_iff, hb, Bool.and_eq_true, Bool.and_eq_true, hb1, hb2, decide_eq_true_eq, and_assoc]
  have h1 := fun (P' : Program) (C' : Cx P' gl) => implMatOk_fs C' (n := n) hp hb1 hl hy
  have h2 := fun (P' : Program) (C' : Cx P' gl) => implMatOk_fs C' (n := m) hq hb2 hm hz
  clear hb hb1 hb2
  obtain ⟨rfl, hG⟩ := C
  refine FS_ofT (args := fun A => [.agg [I n, .lst p], .agg [I m, .lst q]]) (R := fun A rr => rr = B b) Tryz.hT Tryz.mix Tryz.func52 rfl rfl (Nat.le_of_ble_eq_true rfl) ?_
  generalize hP : Tryz.prog = P
  intro A hA
  have C : Tryz.Cx P gl := ⟨hP.symm, hG⟩
  have hI : intsL = A.ints := by subst hA; rfl
  iterate 2 (all_goals try cbv; all_goals repeat' (first | with_reducible exact True.intro | with_reducible refine And.intro ?_ ?_ | intro _))
  all_goals try exact oG
  refine callS hA rfl (h1 P C) ?_; rintro _ rfl
  iterate 2 (all_goals try cbv; all_goals repeat' (first | with_reducible exact True.intro | with_reducible refine And.intro ?_ ?_ | intro _))
  all_goals try exact oG
  refine ⟨_, fun _ => h2 P C, ?_⟩
  iterate 2 (all_goals try cbv; all_goals repeat' (first | with_reducible exact True.intro | with_reducible refine And.intro ?_ ?_ | intro _))
  all_goals try exact oG
  have e2 : A.pick (A.pick b1 b2 false) (A.eq n m) false = b := by
    rw [hbb]
    subst hA
    show (bif (bif b1 then b2 else false) then n == m else false) = _
    cases b1 <;> cases b2 <;> simp
    rfl
  exact congrArg (fun x => PV.val (.bool x)) e2

set_option maxHeartbeats 1000000 in
set_option maxRecDepth 100000 in
theorem gridAt_fs (C : Cx P gl) {ys : List Cell3} {p q : List PV} {n i j : Int} {s : Bool} {l : List Int} {e : Int} (hp : p = cells3 ys) (hi : 0 ≤ i) (hj : 0 ≤ j) (hn : 0 ≤ n) (hn4 : n ≤ 4) (hi4 : i ≤ 4) (hj4 : j ≤ 4) (hk : i * n + j < ys.length) (hg : ys.getD (i * n + j).toNat noY = (s, l, e)) (hq : q = intsL l) :
    FS P gl 101 [.agg [I n, .lst p], I i, I j] (· = .agg [B s, .lst q, I e]) := by
  have hm : 0 ≤ i * n ∧ i * n ≤ 16 := by
    rcases (by omega : n = 0 ∨ n = 1 ∨ n = 2 ∨ n = 3 ∨ n = 4) with rfl | rfl | rfl | rfl | rfl <;> omega
  obtain ⟨k, hk'⟩ : ∃ k, k = i * n + j := ⟨_, rfl⟩
  rw [← hk'] at hk hg
  have hk0 : 0 ≤ k := by omega
  have hlt : k.toNat < ys.length := by omega
  obtain ⟨rfl, hG⟩ := C
  refine FS_ofT (args := fun A => [.agg [I n, .lst p], I i, I j]) (R := fun A rr => rr = .agg [B s, .lst q, I e]) Tryz.hT Tryz.mix Tryz.func101 rfl rfl (Nat.le_of_ble_eq_true rfl) ?_
  generalize hP : Tryz.prog = P
  intro A hA
  have C : Tryz.Cx P gl := ⟨hP.symm, hG⟩
  have hI : intsL = A.ints := by subst hA; rfl
  have ek : A.add .i64 (A.mul .i64 i n) j = k := by
    clear hg
    subst hA
    simp only [AR.std]
    rw [wrapi (n := i * n) (by omega) (by omega), ← hk', wrapi (by omega) (by omega)]
  iterate 2 (all_goals try cbv; all_goals repeat' (first | with_reducible exact True.intro | with_reducible refine And.intro ?_ ?_ | intro _))
  all_goals try exact oG
  all_goals simp only [ek]
  all_goals clear ek hk'
  have h0 : A.gb (A.el p (A.nat k)) 0 = s := by
    have e2 : A.gb (A.el p (A.nat k)) 0 = (ys.getD k.toNat noY).1 := by clear hg; (subst hA; subst_vars; simp only [AR.std, natCast_eq, sG, reduceCtorEq] at *; try simp (disch := omega) only [AR.std, natCast_eq, sG, reduceCtorEq] at *)
    rw [e2, hg]
  have h1 : A.gl (A.el p (A.nat k)) 1 = q := by
    have e2 : A.gl (A.el p (A.nat k)) 1 = intsL (ys.getD k.toNat noY).2.1 := by clear hg h0; (subst hA; subst_vars; simp only [AR.std, natCast_eq, sG, reduceCtorEq] at *; try simp (disch := omega) only [AR.std, natCast_eq, sG, reduceCtorEq] at *)
    rw [e2, hg, hq]
  have h2 : A.gi (A.el p (A.nat k)) 2 = e := by
    have e2 : A.gi (A.el p (A.nat k)) 2 = (ys.getD k.toNat noY).2.2 := by clear hg h0 h1; (subst hA; subst_vars; simp only [AR.std, natCast_eq, sG, reduceCtorEq] at *; try simp (disch := omega) only [AR.std, natCast_eq, sG, reduceCtorEq] at *)
    rw [e2, hg]
  simp only [h0, h1, h2]

end Tryz
end Go.Proofs
