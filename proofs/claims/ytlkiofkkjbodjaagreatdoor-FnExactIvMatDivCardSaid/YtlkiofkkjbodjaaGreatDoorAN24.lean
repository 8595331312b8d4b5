/- Contracts: sums and differences of intervals, as the reference has them. -/
import Derived.Test.YtlkiofkkjbodjaaGreatDoorAP4
import Derived.Test.YtlkiofkkjbodjaaGreatDoorAN11
import Derived.Test.YtlkiofkkjbodjaaGreatDoorAEvD
set_option maxHeartbeats 1000000
set_option maxRecDepth 100000
namespace Go.Proofs
open Go Go.Pe Go.Dg
namespace Tryz
set_option linter.unusedSimpArgs false
set_option linter.unusedVariables false
variable {P : Program} {gl : List (Nat × Obj)}

theorem specIvMatOk_fs (C : Cx P gl) {vs : List Cell6} {p : List PV} {n : Int} {b : Bool} (hp : p = cells6 vs) (hb : b = true ↔ ivmOk n vs) (hl : vs.length ≤ 2000000) (hy : ∀ v ∈ vs, v.1.2.1.length ≤ 2000000 ∧ v.2.2.1.length ≤ 2000000) :
  FS P gl 48 [.agg [I n, .lst p]] (· = B b) := by
 obtain ⟨c, hc⟩ : ∃ c, c = !(decide (1 ≤ n) && decide (n ≤ 4) && decide ((vs.length : Int) = n * n)) := ⟨_, rfl⟩
 have hcf : c = true → b = false := by
  intro h
  cases hbc : b with
  | false => rfl
  | true =>
   obtain ⟨h1, h2, h3, _⟩ := hb.1 hbc
   rw [hc] at h
   simp [h1, h2, h3] at h
 have hct : c = false → 1 ≤ n ∧ n ≤ 4 ∧ (vs.length : Int) = n * n := by
  intro h
  rw [hc] at h
  simpa [and_assoc] using h
 have hyes : c = false → allV vs → b = true := fun h h2 => hb.2 ⟨(hct h).1, (hct h).2.1, (hct h).2.2, h2⟩
 have hno : ¬allV vs → b = false := by
  intro h
  cases hbc : b with
  | false => rfl
  | true => exact absurd (hb.1 hbc).2.2.2 h
 clear hb
 obtain ⟨rfl, hG⟩ := C
 refine FS_ofT (args := fun A => [.agg [I n, .lst p]]) (R := fun A rr => rr = B b) Tryz.hT Tryz.mix Tryz.func48 rfl rfl (Nat.le_of_ble_eq_true rfl) ?_
 generalize hP : Tryz.prog = P
 intro A hA
 have C : Tryz.Cx P gl := ⟨hP.symm, hG⟩
 have hI : intsL = A.ints := by subst hA; rfl
 have e : A.pick (A.pick (A.lt n 1) true (A.lt 4 n)) true (A.ne (A.cast (A.len p)) (A.mul .i64 n n)) = c := by
  rw [hc, hp]
  clear hcf hct hyes hno
  subst hA
  simp only [AR.std, c6len]
  by_cases h1 : n < 1
  ·simp [h1]; try omega
  ·by_cases h2 : 4 < n
   ·simp [h1, h2]; try omega
   ·have hm : n * n ≤ 16 ∧ 0 ≤ n * n := by
     rcases (by omega : n = 1 ∨ n = 2 ∨ n = 3 ∨ n = 4) with rfl | rfl | rfl | rfl <;> decide
    rw [wrapi (by omega) (by omega)]
    have h3 : 1 ≤ n := by omega
    have h4 : n ≤ 4 := by omega
    simp [h1, h2, h3, h4]
    rfl
 iterate 2 (all_goals try cbv; all_goals with_reducible repeat' first | exact True.intro | refine And.intro ?_ ?_ | intro _)
 all_goals try exact oI
 ·rename_i g
  rw [hcf (by rw [← e]; exact g)]
 ·rename_i g
  have hcf' : c = false := by rw [← e]; exact g
  have hyes' := hyes hcf'
  clear g e hcf hct hyes hc
  refine loopI hA [] (ι := Int) (fun x => [(3, .pv (I x))]) (fun x => []) (fun x => (vs.length - x).toNat) (fun x => voksI vs x) 0 (by rfl) ?_ ?_ ?_
  all_goals try exact tI
  ·exact voksI_zero vs
  rintro i hinv
  have hi0 := hinv.1
  have hi1 := hinv.2.1
  have hnext := fun hi => @voksI_next vs i hinv hi
  have hexit := fun hi => @voksI_exit vs i hinv hi
  have hyl : (vs.getD i.toNat noV).1.2.1.length ≤ 2000000 ∧ (vs.getD i.toNat noV).2.2.1.length ≤ 2000000 := by
   rcases Nat.lt_or_ge i.toNat vs.length with h | h
   ·rw [List.getD, List.getElem?_eq_getElem h]; exact hy _ (List.getElem_mem h)
   ·rw [List.getD, List.getElem?_eq_none h]; simp [noV, noY]
  obtain ⟨b2, hb2⟩ := bool_of (okV (vs.getD i.toNat noV))
  clear hinv
  iterate 2 (all_goals try cbv; all_goals with_reducible repeat' first | exact True.intro | refine And.intro ?_ ?_ | intro _)
  all_goals try exact oI
  ·rename_i g
   have gi : i < vs.length := by clear hnext hexit hyes' hno hb2 hyl hy; (subst hA; subst_vars; simp only [AR.std, natCast_eq, sI, reduceCtorEq] at *; try simp (disch := omega) only [AR.std, natCast_eq, sI, reduceCtorEq] at *); omega
   have hlt : i.toNat < vs.length := by omega
   have h1l : A.gl (A.el p (A.nat i)) 1 = intsL (vs.getD i.toNat noV).1.2.1 := by clear hnext hexit hyes' hno hb2 hyl hy; (subst hA; subst_vars; simp only [AR.std, natCast_eq, sI, reduceCtorEq] at *; try simp (disch := omega) only [AR.std, natCast_eq, sI, reduceCtorEq] at *)
   have h1b : A.gb (A.el p (A.nat i)) 0 = (vs.getD i.toNat noV).1.1 := by clear hnext hexit hyes' hno hb2 hyl hy h1l; (subst hA; subst_vars; simp only [AR.std, natCast_eq, sI, reduceCtorEq] at *; try simp (disch := omega) only [AR.std, natCast_eq, sI, reduceCtorEq] at *)
   have h1e : A.gi (A.el p (A.nat i)) 2 = (vs.getD i.toNat noV).1.2.2 := by clear hnext hexit hyes' hno hb2 hyl hy h1l h1b; (subst hA; subst_vars; simp only [AR.std, natCast_eq, sI, reduceCtorEq] at *; try simp (disch := omega) only [AR.std, natCast_eq, sI, reduceCtorEq] at *)
   have h2l : A.gl (A.el p (A.nat i)) 4 = intsL (vs.getD i.toNat noV).2.2.1 := by clear hnext hexit hyes' hno hb2 hyl hy h1l h1b h1e; (subst hA; subst_vars; simp only [AR.std, natCast_eq, sI, reduceCtorEq] at *; try simp (disch := omega) only [AR.std, natCast_eq, sI, reduceCtorEq] at *)
   have h2b : A.gb (A.el p (A.nat i)) 3 = (vs.getD i.toNat noV).2.1 := by clear hnext hexit hyes' hno hb2 hyl hy h1l h1b h1e h2l; (subst hA; subst_vars; simp only [AR.std, natCast_eq, sI, reduceCtorEq] at *; try simp (disch := omega) only [AR.std, natCast_eq, sI, reduceCtorEq] at *)
   have h2e : A.gi (A.el p (A.nat i)) 5 = (vs.getD i.toNat noV).2.2.2 := by clear hnext hexit hyes' hno hb2 hyl hy h1l h1b h1e h2l h2b; (subst hA; subst_vars; simp only [AR.std, natCast_eq, sI, reduceCtorEq] at *; try simp (disch := omega) only [AR.std, natCast_eq, sI, reduceCtorEq] at *)
   refine callS hA rfl (IvOk_fs C (b := b2) h1l h2l (by simp only [h1b, h1e, h2b, h2e]; exact hb2) hyl.1 hyl.2) ?_; rintro _ rfl
   have hnx := fun h => hnext gi (hb2.1 h)
   have hnot : b2 = false → b = false := fun h => hno (allV_not hlt (fun h2 => by rw [hb2.2 h2] at h; cases h))
   clear h1l h1b h1e h2l h2b h2e hnext hexit hb2 hyl hno hyes' hy
   iterate 2 (all_goals try cbv; all_goals with_reducible repeat' first | exact True.intro | refine And.intro ?_ ?_ | intro _)
   all_goals try exact oI
   ·rename_i g2
    have : b2 = false := by cases b2 <;> first | rfl | (exfalso; clear hnx hnot; subst hA; cases g2)
    rw [hnot this]
   ·rename_i g2
    have : b2 = true := by cases b2 <;> first | rfl | (exfalso; clear hnx hnot; subst hA; cases g2)
    have hnx2 := hnx this
    clear hnx hnot g2
    obtain ⟨y1, hy1⟩ : ∃ y, y = i + 1 := ⟨_, rfl⟩
    refine ⟨⟨y1, ?_⟩, ?_, ?_⟩
    rotate_left
    ·cbv
     exact nI
    ·(subst hA; subst_vars; simp only [AR.std, natCast_eq, sI, reduceCtorEq] at *; try simp (disch := omega) only [AR.std, natCast_eq, sI, reduceCtorEq] at *); omega
    ·rw [hy1]; exact hnx2
  ·rename_i g
   have gi : vs.length ≤ i := by clear hnext hexit hyes' hno hb2 hyl hy; (subst hA; subst_vars; simp only [AR.std, natCast_eq, sI, reduceCtorEq] at *; try simp (disch := omega) only [AR.std, natCast_eq, sI, reduceCtorEq] at *); omega
   rw [hyes' (hexit gi)]

theorem l10both_fs (C : Cx P gl) {vs ws : List Cell6} {p q : List PV} {n m : Int} {b : Bool} (hp : p = cells6 vs) (hq : q = cells6 ws) (hb : b = true ↔ ivmOk n vs ∧ ivmOk m ws ∧ n = m)
  (hl : vs.length ≤ 2000000) (hy : ∀ v ∈ vs, v.1.2.1.length ≤ 2000000 ∧ v.2.2.1.length ≤ 2000000) (hm : ws.length ≤ 2000000) (hz : ∀ v ∈ ws, v.1.2.1.length ≤ 2000000 ∧ v.2.2.1.length ≤ 2000000) :
  FS P gl 61 [.agg [I n, .lst p], .agg [I m, .lst q]] (· = B b) := by
 obtain ⟨b1, hb1⟩ := bool_of (ivmOk n vs)
 obtain ⟨b2, hb2⟩ := bool_of (ivmOk m ws)
 have hbb : b = (b1 && b2 && decide (n = m)) := by
  rw [Bool.eq_iff_iff, hb, Bool.and_eq_true, Bool.and_eq_true, hb1, hb2, decide_eq_true_eq, and_assoc]
 have h1 := fun (P' : Program) (C' : Cx P' gl) => specIvMatOk_fs C' (n := n) hp hb1 hl hy
 have h2 := fun (P' : Program) (C' : Cx P' gl) => specIvMatOk_fs C' (n := m) hq hb2 hm hz
 clear hb hb1 hb2
 obtain ⟨rfl, hG⟩ := C
 refine FS_ofT (args := fun A => [.agg [I n, .lst p], .agg [I m, .lst q]]) (R := fun A rr => rr = B b) Tryz.hT Tryz.mix Tryz.func61 rfl rfl (Nat.le_of_ble_eq_true rfl) ?_
 generalize hP : Tryz.prog = P
 intro A hA
 have C : Tryz.Cx P gl := ⟨hP.symm, hG⟩
 have hI : intsL = A.ints := by subst hA; rfl
 iterate 2 (all_goals try cbv; all_goals with_reducible repeat' first | exact True.intro | refine And.intro ?_ ?_ | intro _)
 all_goals try exact oI
 refine callS hA rfl (h1 P C) ?_; rintro _ rfl
 iterate 2 (all_goals try cbv; all_goals with_reducible repeat' first | exact True.intro | refine And.intro ?_ ?_ | intro _)
 all_goals try exact oI
 refine ⟨_, fun _ => h2 P C, ?_⟩
 iterate 2 (all_goals try cbv; all_goals with_reducible repeat' first | exact True.intro | refine And.intro ?_ ?_ | intro _)
 all_goals try exact oI
 have e2 : A.pick (A.pick b1 b2 false) (A.eq n m) false = b := by
  rw [hbb]
  subst hA
  show (bif (bif b1 then b2 else false) then n == m else false) = _
  cases b1 <;> cases b2 <;> simp
  rfl
 exact congrArg (fun x => PV.val (.bool x)) e2

end Tryz
end Go.Proofs

set_option maxHeartbeats 1000000
set_option maxRecDepth 100000
namespace Go.Proofs
open Go Go.Pe Go.Dg
namespace Tryz
set_option linter.unusedSimpArgs false
set_option linter.unusedVariables false
variable {P : Program} {gl : List (Nat × Obj)}

theorem l7own_fs (C : Cx P gl) {d : Dyadic} {p : List PV} {s : Bool} {e : Int} (hp : p = intsL (dg (cZ d).natAbs)) (hs : s = decide (cZ d < 0)) (hl : (dg (cZ d).natAbs).length ≤ 2000000) :
  FS P gl 93 [.agg [B s, .lst p, I e]] (· = .agg [B s, .lst p, I e]) := by
 have hs' : s = (s && decide ((cZ d).natAbs ≠ 0)) := by
  rw [hs, Bool.eq_iff_iff, Bool.and_eq_true, decide_eq_true_eq, decide_eq_true_eq]; omega
 have hcall := fun (P' : Program) (C' : Cx P' gl) => l3make_fs C' hp hs' (by omega)
 clear hs hs'
 obtain ⟨rfl, hG⟩ := C
 refine FS_ofT (args := fun A => [.agg [B s, .lst p, I e]]) (R := fun A rr => rr = .agg [B s, .lst p, I e]) Tryz.hT Tryz.mix Tryz.func93 rfl rfl (Nat.le_of_ble_eq_true rfl) ?_
 generalize hP : Tryz.prog = P
 intro A hA
 have C : Tryz.Cx P gl := ⟨hP.symm, hG⟩
 have hI : intsL = A.ints := by subst hA; rfl
 iterate 2 (all_goals try cbv; all_goals with_reducible repeat' first | exact True.intro | refine And.intro ?_ ?_ | intro _)
 all_goals try exact oH
 refine ⟨_, hcall P C, ?_⟩
 iterate 2 (all_goals try cbv; all_goals with_reducible repeat' first | exact True.intro | refine And.intro ?_ ?_ | intro _)
 all_goals try exact oH

theorem l7add_fs (C : Cx P gl) {y1 y2 y3 y4 e1 e2 e3 e4 g h : Int} {p1 p2 p3 p4 r x : List PV} {s1 s2 s3 s4 u v : Bool} {d1 d2 : Dyadic}
  (a1 : p1 = intsL (dg y1.natAbs)) (b1 : s1 = decide (y1 < 0)) (a2 : p2 = intsL (dg y2.natAbs)) (b2 : s2 = decide (y2 < 0)) (a3 : p3 = intsL (dg y3.natAbs)) (b3 : s3 = decide (y3 < 0)) (a4 : p4 = intsL (dg y4.natAbs)) (b4 : s4 = decide (y4 < 0))
  (hd1 : d1 = mk y1 e1 + mk y3 e3) (hd2 : d2 = mk y2 e2 + mk y4 e4) (hr : r = intsL (dg (cZ d1).natAbs)) (hu : u = decide (cZ d1 < 0)) (hg : g = cE d1) (hx : x = intsL (dg (cZ d2).natAbs)) (hv : v = decide (cZ d2 < 0)) (hh : h = cE d2)
  (c1 : e1.natAbs ≤ 100000) (c2 : e2.natAbs ≤ 100000) (c3 : e3.natAbs ≤ 100000) (c4 : e4.natAbs ≤ 100000) (l1 : (dg y1.natAbs).length ≤ 1000000) (l2 : (dg y2.natAbs).length ≤ 1000000) (l3 : (dg y3.natAbs).length ≤ 1000000) (l4 : (dg y4.natAbs).length ≤ 1000000) :
  FS P gl 133 [.agg [B s1, .lst p1, I e1, B s2, .lst p2, I e2], .agg [B s3, .lst p3, I e3, B s4, .lst p4, I e4]] (· = .agg [B u, .lst r, I g, B v, .lst x, I h]) := by
 have hcall1 := fun (P' : Program) (C' : Cx P' gl) => l4add_fs C' a1 b1 a3 b3 hd1 hr hu hg c1 c3 l1 l3
 have hcall2 := fun (P' : Program) (C' : Cx P' gl) => l4add_fs C' a2 b2 a4 b4 hd2 hx hv hh c2 c4 l2 l4
 clear hd1 hd2 hr hu hg hx hv hh
 obtain ⟨rfl, hG⟩ := C
 refine FS_ofT (args := fun A => [.agg [B s1, .lst p1, I e1, B s2, .lst p2, I e2], .agg [B s3, .lst p3, I e3, B s4, .lst p4, I e4]]) (R := fun A rr => rr = .agg [B u, .lst r, I g, B v, .lst x, I h]) Tryz.hT Tryz.mix Tryz.func133 rfl rfl (Nat.le_of_ble_eq_true rfl) ?_
 generalize hP : Tryz.prog = P
 intro A hA
 have C : Tryz.Cx P gl := ⟨hP.symm, hG⟩
 have hI : intsL = A.ints := by subst hA; rfl
 iterate 2 (all_goals try cbv; all_goals with_reducible repeat' first | exact True.intro | refine And.intro ?_ ?_ | intro _)
 all_goals try exact oH
 refine ⟨_, hcall1 P C, ?_⟩
 iterate 2 (all_goals try cbv; all_goals with_reducible repeat' first | exact True.intro | refine And.intro ?_ ?_ | intro _)
 all_goals try exact oH
 refine callS hA rfl (hcall2 P C) ?_; rintro _ rfl
 iterate 2 (all_goals try cbv; all_goals with_reducible repeat' first | exact True.intro | refine And.intro ?_ ?_ | intro _)
 all_goals try exact oH

end Tryz
end Go.Proofs

