/- Contracts: matrices in the reference: forms, copies. -/
import Derived.Test.YthmkdfmapdbenaaGreatDoorCM4
import Derived.Test.YthmkdfmapdbenaaGreatDoorCN9
import Derived.Test.YthmkdfmapdbenaaGreatDoorCEvD
namespace Go.Proofs
open Go Go.Pe Go.Dg
namespace Tryz
set_option linter.unusedSimpArgs false
set_option linter.unusedVariables false
variable {P : Program} {gl : List (Nat × Obj)}

set_option maxHeartbeats 1000000 in
set_option maxRecDepth 100000 in
theorem specMatOk_fs (C : Cx P gl) {ys : List Cell3} {p : List PV} {n : Int} {b : Bool} (hp : p = cells3 ys) (hb : b = true ↔ matOk n ys) (hl : ys.length ≤ 2000000) (hy : ∀ y ∈ ys, y.2.1.length ≤ 2000000) :
    FS P gl 59 [.agg [I n, .lst p]] (· = B b) := by
  obtain ⟨c, hc⟩ : ∃ c, c = !(decide (1 ≤ n) && decide (n ≤ 4) && decide ((ys.length : Int) = n * n)) := ⟨_, rfl⟩
  have hcf : c = true → b = false := by
    intro h
    cases hbc : b with
    | false => rfl
    | true =>
      obtain ⟨h1, h2, h3, _⟩ := hb.1 hbc
      rw [hc] at h
      simp [h1, h2, h3] at h
  have hct : c = false → 1 ≤ n ∧ n ≤ 4 ∧ (ys.length : Int) = n * n := by
    intro h
    rw [hc] at h
    simpa [and_assoc] using h
  have hyes : c = false → allY ys → b = true := fun h h2 => hb.2 ⟨(hct h).1, (hct h).2.1, (hct h).2.2, h2⟩
  have hno : ¬allY ys → b = false := by
    intro h
    cases hbc : b with
    | false => rfl
    | true => exact absurd (hb.1 hbc).2.2.2 h
  clear hb
  obtain ⟨rfl, hG⟩ := C
  refine FS_ofT (args := fun A => [.agg [I n, .lst p]]) (R := fun A rr => rr = B b) Tryz.hT Tryz.mix Tryz.func59 rfl rfl (Nat.le_of_ble_eq_true rfl) ?_
  generalize hP : Tryz.prog = P
  intro A hA
  have C : Tryz.Cx P gl := ⟨hP.symm, hG⟩
  have hI : intsL = A.ints := by subst hA; rfl
  have e : A.pick (A.pick (A.lt n 1) true (A.lt 4 n)) true (A.ne (A.cast (A.len p)) (A.mul .i64 n n)) = c := by
    rw [hc, hp]
    clear hcf hct hyes hno
    subst hA
    simp only [AR.std, c3len]
    by_cases h1 : n < 1
    · simp [h1]; try omega
    · by_cases h2 : 4 < n
      · simp [h1, h2]; try omega
      · have hm : n * n ≤ 16 ∧ 0 ≤ n * n := by
          rcases (by omega : n = 1 ∨ n = 2 ∨ n = 3 ∨ n = 4) with rfl | rfl | rfl | rfl <;> decide
        rw [wrapi (by omega) (by omega)]
        have h3 : 1 ≤ n := by omega
        have h4 : n ≤ 4 := by omega
        simp [h1, h2, h3, h4]
        rfl
  iterate 2 (all_goals try cbv; all_goals repeat' (first | with_reducible exact True.intro | with_reducible refine And.intro ?_ ?_ | intro _))
  all_goals try exact oG
  · rename_i g
    rw [hcf (by rw [← e]; exact g)]
  · rename_i g
    have hcf' : c = false := by rw [← e]; exact g
    have hyes' := hyes hcf'
    clear g e hcf hct hyes hc
    refine loopI hA [] (ι := Int) (fun x => [(3, .pv (I x))]) (fun x => []) (fun x => (ys.length - x).toNat) (fun x => doksI ys x) 0 (by rfl) ?_ ?_ ?_
    all_goals try exact tG
    · exact doksI_zero ys
    rintro i hinv
    have hi0 := hinv.1
    have hi1 := hinv.2.1
    have hnext := fun hi => @doksI_next ys i hinv hi
    have hexit := fun hi => @doksI_exit ys i hinv hi
    have hyl : (ys.getD i.toNat noY).2.1.length ≤ 2000000 := by
      rcases Nat.lt_or_ge i.toNat ys.length with h | h
      · rw [List.getD, List.getElem?_eq_getElem h]; exact hy _ (List.getElem_mem h)
      · rw [List.getD, List.getElem?_eq_none h]; simp [noY]
    obtain ⟨b2, hb2⟩ := bool_of (okY (ys.getD i.toNat noY))
    clear hinv
    iterate 2 (all_goals try cbv; all_goals repeat' (first | with_reducible exact True.intro | with_reducible refine And.intro ?_ ?_ | intro _))
    all_goals try exact oG
    · rename_i g
      have gi : i < ys.length := by clear hnext hexit hyes' hno hb2 hyl hy; (subst hA; subst_vars; simp only [AR.std, natCast_eq, sG, reduceCtorEq] at *; try simp (disch := omega) only [AR.std, natCast_eq, sG, reduceCtorEq] at *); omega
      have hlt : i.toNat < ys.length := by omega
      have hgl : A.gl (A.el p (A.nat i)) 1 = intsL (ys.getD i.toNat noY).2.1 := by clear hnext hexit hyes' hno hb2 hyl hy; (subst hA; subst_vars; simp only [AR.std, natCast_eq, sG, reduceCtorEq] at *; try simp (disch := omega) only [AR.std, natCast_eq, sG, reduceCtorEq] at *)
      have hgb : A.gb (A.el p (A.nat i)) 0 = (ys.getD i.toNat noY).1 := by clear hnext hexit hyes' hno hb2 hyl hy hgl; (subst hA; subst_vars; simp only [AR.std, natCast_eq, sG, reduceCtorEq] at *; try simp (disch := omega) only [AR.std, natCast_eq, sG, reduceCtorEq] at *)
      have hge : A.gi (A.el p (A.nat i)) 2 = (ys.getD i.toNat noY).2.2 := by clear hnext hexit hyes' hno hb2 hyl hy hgl hgb; (subst hA; subst_vars; simp only [AR.std, natCast_eq, sG, reduceCtorEq] at *; try simp (disch := omega) only [AR.std, natCast_eq, sG, reduceCtorEq] at *)
      refine callS hA rfl (DyOk_fs C (b := b2) hgl (by simp only [hgb, hge]; exact hb2) hyl) ?_; rintro _ rfl
      have hnx := fun h => hnext gi (hb2.1 h)
      have hnot : b2 = false → b = false := fun h => hno (allY_not hlt (fun h2 => by rw [hb2.2 h2] at h; cases h))
      clear hgl hgb hge hnext hexit hb2 hyl hno hyes' hy
      iterate 2 (all_goals try cbv; all_goals repeat' (first | with_reducible exact True.intro | with_reducible refine And.intro ?_ ?_ | intro _))
      all_goals try exact oG
      · rename_i g2
        have : b2 = false := by cases b2 <;> first | rfl | (exfalso; clear hnx hnot; subst hA; cases g2)
        rw [hnot this]
      · rename_i g2
        have : b2 = true := by cases b2 <;> first | rfl | (exfalso; clear hnx hnot; subst hA; cases g2)
        have hnx2 := hnx this
        clear hnx hnot g2
        obtain ⟨y1, hy1⟩ : ∃ y, y = i + 1 := ⟨_, rfl⟩
        refine ⟨⟨y1, ?_⟩, ?_, ?_⟩
        rotate_left
        · cbv
          exact nG
        · (subst hA; subst_vars; simp only [AR.std, natCast_eq, sG, reduceCtorEq] at *; try simp (disch := omega) only [AR.std, natCast_eq, sG, reduceCtorEq] at *); omega
        · rw [hy1]; exact hnx2
    · rename_i g
      have gi : ys.length ≤ i := by clear hnext hexit hyes' hno hb2 hyl hy; (subst hA; subst_vars; simp only [AR.std, natCast_eq, sG, reduceCtorEq] at *; try simp (disch := omega) only [AR.std, natCast_eq, sG, reduceCtorEq] at *); omega
      rw [hyes' (hexit gi)]

set_option maxHeartbeats 1000000 in
set_option maxRecDepth 100000 in
theorem l8both_fs (C : Cx P gl) {ys zs : List Cell3} {p q : List PV} {n m : Int} {b : Bool} (hp : p = cells3 ys) (hq : q = cells3 zs) (hb : b = true ↔ matOk n ys ∧ matOk m zs ∧ n = m)
    (hl : ys.length ≤ 2000000) (hy : ∀ y ∈ ys, y.2.1.length ≤ 2000000) (hm : zs.length ≤ 2000000) (hz : ∀ y ∈ zs, y.2.1.length ≤ 2000000) :
    FS P gl 49 [.agg [I n, .lst p], .agg [I m, .lst q]] (· = B b) := by
  obtain ⟨b1, hb1⟩ := bool_of (matOk n ys)
  obtain ⟨b2, hb2⟩ := bool_of (matOk m zs)
  have hbb : b = (b1 && b2 && decide (n = m)) := by
    rw [Bool.eq_iff_iff, hb, Bool.and_eq_true, Bool.and_eq_true, hb1, hb2, decide_eq_true_eq, and_assoc]
  have h1 := fun (P' : Program) (C' : Cx P' gl) => specMatOk_fs C' (n := n) hp hb1 hl hy
  have h2 := fun (P' : Program) (C' : Cx P' gl) => specMatOk_fs C' (n := m) hq hb2 hm hz
  clear hb hb1 hb2
  obtain ⟨rfl, hG⟩ := C
  refine FS_ofT (args := fun A => [.agg [I n, .lst p], .agg [I m, .lst q]]) (R := fun A rr => rr = B b) Tryz.hT Tryz.mix Tryz.func49 rfl rfl (Nat.le_of_ble_eq_true rfl) ?_
  generalize hP : Tryz.prog = P
  intro A hA
  have C : Tryz.Cx P gl := ⟨hP.symm, hG⟩
  have hI : intsL = A.ints := by subst hA; rfl
  iterate 2 (all_goals try cbv; all_goals repeat' (first | with_reducible exact True.intro | with_reducible refine And.intro ?_ ?_ | intro _))
  all_goals try exact oG
  refine callS hA rfl (h1 P C) ?_; rintro _ rfl
  iterate 2 (all_goals try cbv; all_goals repeat' (first | with_reducible exact True.intro | with_reducible refine And.intro ?_ ?_ | intro _))
  all_goals try exact oG
  refine ⟨_, fun _ => h2 P C, ?_⟩
  iterate 2 (all_goals try cbv; all_goals repeat' (first | with_reducible exact True.intro | with_reducible refine And.intro ?_ ?_ | intro _))
  all_goals try exact oG
  have e2 : A.pick (A.pick b1 b2 false) (A.eq n m) false = b := by
    rw [hbb]
    subst hA
    show (bif (bif b1 then b2 else false) then n == m else false) = _
    cases b1 <;> cases b2 <;> simp
    rfl
  exact congrArg (fun x => PV.val (.bool x)) e2

end Tryz
end Go.Proofs
