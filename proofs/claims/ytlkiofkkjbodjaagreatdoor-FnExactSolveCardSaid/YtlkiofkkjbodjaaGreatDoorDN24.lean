/- Contracts: sums and differences of intervals, as the reference has them. -/
import Derived.Test.YtlkiofkkjbodjaaGreatDoorDM5
import Derived.Test.YtlkiofkkjbodjaaGreatDoorDN11
import Derived.Test.YtlkiofkkjbodjaaGreatDoorDEvD
import Derived.Test.YtlkiofkkjbodjaaGreatDoorDN21
set_option maxHeartbeats 1000000
set_option maxRecDepth 100000
namespace Go.Proofs
open Go Go.Pe Go.Dg
namespace Tryz
set_option linter.unusedSimpArgs false
set_option linter.unusedVariables false
variable {P : Program} {gl : List (Nat × Obj)}

theorem specMatOk_fs (C : Cx P gl) {ys : List Cell3} {p : List PV} {n : Int} {b : Bool} (hp : p = cells3 ys) (hb : b = true ↔ matOk n ys) (hl : ys.length ≤ 2000000) (hy : ∀ y ∈ ys, y.2.1.length ≤ 2000000) :
  FS P gl 67 [.agg [I n, .lst p]] (· = B b) := by
 obtain ⟨c, hc⟩ : ∃ c, c = !(decide (1 ≤ n) && decide (n ≤ 4) && decide ((ys.length : Int) = n * n)) := ⟨_, rfl⟩
 have hcf : c = true → b = false := by
  intro h
  cases hbc : b with
  | false => rfl
  | true =>
   obtain ⟨h1, h2, h3, _⟩ := hb.1 hbc
   rw [hc] at h
   simp [h1, h2, h3] at h
 have hct : c = false → 1 ≤ n ∧ n ≤ 4 ∧ (ys.length : Int) = n * n := by
  intro h
  rw [hc] at h
  simpa [and_assoc] using h
 have hyes : c = false → allY ys → b = true := fun h h2 => hb.2 ⟨(hct h).1, (hct h).2.1, (hct h).2.2, h2⟩
 have hno : ¬allY ys → b = false := by
  intro h
  cases hbc : b with
  | false => rfl
  | true => exact absurd (hb.1 hbc).2.2.2 h
 clear hb
 refine gS C func67 rfl rfl rfl fun A hA hI => ?_
 have e : A.pick (A.pick (A.lt n 1) true (A.lt 4 n)) true (A.ne (A.cast (A.len p)) (A.mul .i64 n n)) = c := by
  rw [hc, hp]
  clear hcf hct hyes hno
  subst hA
  simp only [AR.std, c3len]
  by_cases h1 : n < 1
  ·simp [h1]; try omega
  ·by_cases h2 : 4 < n
   ·simp [h1, h2]; try omega
   ·have hm : n * n ≤ 16 ∧ 0 ≤ n * n := by
     rcases (by omega : n = 1 ∨ n = 2 ∨ n = 3 ∨ n = 4) with rfl | rfl | rfl | rfl <;> decide
    rw [wrapi (by omega) (by omega)]
    have h3 : 1 ≤ n := by omega
    have h4 : n ≤ 4 := by omega
    simp [h1, h2, h3, h4]
    rfl
 iterate 2 all_goals try cbv; with_reducible repeat' first | exact ⟨⟩ | apply And.intro | intro _
 all_goals try exact oG
 ·rename_i g
  rw [hcf (by rw [← e]; exact g)]
 ·rename_i g
  have hcf' : c = false := by rw [← e]; exact g
  have hyes' := hyes hcf'
  clear g e hcf hct hyes hc
  refine loopI hA [] (ι := Int) (fun x => [(3, .pv (I x))]) (fun x => []) (fun x => (ys.length - x).toNat) (fun x => doksI ys x) 0 (by rfl) ?_ ?_ ?_
  all_goals try exact tG
  ·exact doksI_zero ys
  rintro i hinv
  have hi0 := hinv.1
  have hi1 := hinv.2.1
  have hnext := fun hi => @doksI_next ys i hinv hi
  have hexit := fun hi => @doksI_exit ys i hinv hi
  have hyl : (ys.getD i.toNat noY).2.1.length ≤ 2000000 := by
   rcases Nat.lt_or_ge i.toNat ys.length with h | h
   ·rw [List.getD, List.getElem?_eq_getElem h]; exact hy _ (List.getElem_mem h)
   ·rw [List.getD, List.getElem?_eq_none h]; simp [noY]
  obtain ⟨b2, hb2⟩ := bool_of (okY (ys.getD i.toNat noY))
  clear hinv
  iterate 2 all_goals try cbv; with_reducible repeat' first | exact ⟨⟩ | apply And.intro | intro _
  all_goals try exact oG
  ·rename_i g
   have gi : i < ys.length := by clear hnext hexit hyes' hno hb2 hyl hy; exact eG
   have hlt : i.toNat < ys.length := by omega
   have hgl : A.gl (A.el p (A.nat i)) 1 = intsL (ys.getD i.toNat noY).2.1 := by clear hnext hexit hyes' hno hb2 hyl hy; (subst hA; subst_vars; simp only [AR.std, natCast_eq, sG, reduceCtorEq] at *; try simp (disch := omega) only [AR.std, natCast_eq, sG, reduceCtorEq] at *)
   have hgb : A.gb (A.el p (A.nat i)) 0 = (ys.getD i.toNat noY).1 := by clear hnext hexit hyes' hno hb2 hyl hy hgl; (subst hA; subst_vars; simp only [AR.std, natCast_eq, sG, reduceCtorEq] at *; try simp (disch := omega) only [AR.std, natCast_eq, sG, reduceCtorEq] at *)
   have hge : A.gi (A.el p (A.nat i)) 2 = (ys.getD i.toNat noY).2.2 := by clear hnext hexit hyes' hno hb2 hyl hy hgl hgb; (subst hA; subst_vars; simp only [AR.std, natCast_eq, sG, reduceCtorEq] at *; try simp (disch := omega) only [AR.std, natCast_eq, sG, reduceCtorEq] at *)
   refine callS hA rfl (DyOk_fs C (b := b2) hgl (by simp only [hgb, hge]; exact hb2) hyl) ?_; rintro _ rfl
   have hnx := fun h => hnext gi (hb2.1 h)
   have hnot : b2 = false → b = false := fun h => hno (allY_not hlt (fun h2 => by rw [hb2.2 h2] at h; cases h))
   clear hgl hgb hge hnext hexit hb2 hyl hno hyes' hy
   iterate 2 all_goals try cbv; with_reducible repeat' first | exact ⟨⟩ | apply And.intro | intro _
   all_goals try exact oG
   ·rename_i g2
    have : b2 = false := by cases b2 <;> first | rfl | (exfalso; clear hnx hnot; subst hA; cases g2)
    rw [hnot this]
   ·rename_i g2
    have : b2 = true := by cases b2 <;> first | rfl | (exfalso; clear hnx hnot; subst hA; cases g2)
    have hnx2 := hnx this
    clear hnx hnot g2
    obtain ⟨y1, hy1⟩ : ∃ y, y = i + 1 := ⟨_, rfl⟩
    refine ⟨⟨y1, ?_⟩, ?_, ?_⟩
    rotate_left
    ·cbv
     exact nG
    ·exact eG
    ·rw [hy1]; exact hnx2
  ·rename_i g
   have gi : ys.length ≤ i := by clear hnext hexit hyes' hno hb2 hyl hy; exact eG
   rw [hyes' (hexit gi)]

end Tryz
end Go.Proofs

namespace Go.Proofs
open Go Go.Pe Go.Dg
namespace Tryz
set_option linter.unusedSimpArgs false
set_option linter.unusedVariables false
variable {P : Program} {gl : List (Nat × Obj)}

end Tryz
end Go.Proofs

namespace Go.Proofs
open Go Go.Pe Go.Dg
namespace Tryz
set_option linter.unusedSimpArgs false
set_option linter.unusedVariables false
variable {P : Program} {gl : List (Nat × Obj)}

theorem dg_zero : dg 0 = [] := List.eq_nil_of_length_eq_zero (dg_len0.2 rfl)

theorem fits_zero : fits 0 := by
 have : cZ (0 : Dyadic) = 0 := cZ_eq_zero.2 rfl
 refine ⟨by rw [this, show Int.natAbs 0 = 0 from rfl, dg_zero]; decide, by decide, by decide⟩

end Tryz
end Go.Proofs

set_option maxHeartbeats 1000000
set_option maxRecDepth 100000
namespace Go.Proofs
open Go Go.Pe Go.Dg
namespace Tryz
set_option linter.unusedSimpArgs false
set_option linter.unusedVariables false
variable {P : Program} {gl : List (Nat × Obj)}

theorem l7own_fs (C : Cx P gl) {d : Dyadic} {p : List PV} {s : Bool} {e : Int} (hp : p = intsL (dg (cZ d).natAbs)) (hs : s = decide (cZ d < 0)) (hl : (dg (cZ d).natAbs).length ≤ 2000000) :
  FS P gl 93 [.agg [B s, .lst p, I e]] (· = .agg [B s, .lst p, I e]) := by
 have hs' : s = (s && decide ((cZ d).natAbs ≠ 0)) := by
  rw [hs, Bool.eq_iff_iff, Bool.and_eq_true, decide_eq_true_eq, decide_eq_true_eq]; omega
 have hcall := fun (P' : Program) (C' : Cx P' gl) => l3make_fs C' hp hs' (by omega)
 clear hs hs'
 refine gS C func93 rfl rfl rfl fun A hA hI => ?_
 iterate 2 all_goals try cbv; with_reducible repeat' first | exact ⟨⟩ | apply And.intro | intro _
 all_goals try exact oH
 refine ⟨_, hcall P C, ?_⟩
 iterate 2 all_goals try cbv; with_reducible repeat' first | exact ⟨⟩ | apply And.intro | intro _
 all_goals try exact oH

def outI (w : Bool) (p q r x : List PV) (s t u v : Bool) (e f g h : Int) : Prop :=
 (w = true → r = p ∧ u = s ∧ g = e ∧ x = q ∧ v = t ∧ h = f) ∧ (w = false → r = [] ∧ u = false ∧ g = 0 ∧ x = [] ∧ v = false ∧ h = 0)

theorem l7fits_fs (C : Cx P gl) {d1 d2 : Dyadic} {p q r x : List PV} {s t u v w : Bool} {e f g h : Int} (hp : p = intsL (dg (cZ d1).natAbs)) (hs : s = decide (cZ d1 < 0)) (he : e = cE d1)
  (hq : q = intsL (dg (cZ d2).natAbs)) (ht : t = decide (cZ d2 < 0)) (hf : f = cE d2) (hl : (dg (cZ d1).natAbs).length ≤ 2000000) (hm : (dg (cZ d2).natAbs).length ≤ 2000000)
  (hw : w = true ↔ fits d1 ∧ fits d2) (ho : outI w p q r x s t u v e f g h) :
  FS P gl 72 [.agg [B s, .lst p, I e, B t, .lst q, I f]] (· = .tup [.agg [B u, .lst r, I g, B v, .lst x, I h], B w]) := by
 obtain ⟨c1, hc1⟩ := bool_of (fits d1)
 obtain ⟨c2, hc2⟩ := bool_of (fits d2)
 have k1 : c1 = true ↔ dyOk s (dg (cZ d1).natAbs) e := by rw [hc1]; exact (dyOk_cells ⟨hs, rfl, he⟩).symm
 have k2 : c2 = true ↔ dyOk t (dg (cZ d2).natAbs) f := by rw [hc2]; exact (dyOk_cells ⟨ht, rfl, hf⟩).symm
 have hwv : w = (c1 && c2) := by rw [Bool.eq_iff_iff, hw, Bool.and_eq_true, hc1, hc2]
 have hcall1 := fun (P' : Program) (C' : Cx P' gl) => DyOk_fs C' hp k1 hl
 have hcall2 := fun (P' : Program) (C' : Cx P' gl) => DyOk_fs C' hq k2 hm
 have hown1 := fun (P' : Program) (C' : Cx P' gl) => l7own_fs C' (e := e) hp hs hl
 have hown2 := fun (P' : Program) (C' : Cx P' gl) => l7own_fs C' (e := f) hq ht hm
 obtain ⟨ho1, ho2⟩ := ho
 clear hw k1 k2 hc1 hc2 hp hs he hq ht hf
 refine gS C func72 rfl rfl rfl fun A hA hI => ?_
 iterate 2 all_goals try cbv; with_reducible repeat' first | exact ⟨⟩ | apply And.intro | intro _
 all_goals try exact oH
 refine callS hA rfl (hcall1 P C) ?_; rintro _ rfl
 iterate 2 all_goals try cbv; with_reducible repeat' first | exact ⟨⟩ | apply And.intro | intro _
 all_goals try exact oH
 refine ⟨_, fun _ => hcall2 P C, ?_⟩
 iterate 2 all_goals try cbv; with_reducible repeat' first | exact ⟨⟩ | apply And.intro | intro _
 all_goals try exact oH
 ·rename_i gg
  have hw : w = false := by subst hA; rw [hwv]; cases c1 <;> cases c2 <;> first | rfl | exact absurd gg (by decide)
  obtain ⟨rfl, rfl, rfl, rfl, rfl, rfl⟩ := ho2 hw
  rw [hw]
 ·rename_i gg
  have hw : w = true := by subst hA; rw [hwv]; cases c1 <;> cases c2 <;> first | rfl | exact absurd gg (by decide)
  obtain ⟨rfl, rfl, rfl, rfl, rfl, rfl⟩ := ho1 hw
  rw [hw]
  refine ⟨_, hown1 P C, ?_⟩
  iterate 2 all_goals try cbv; with_reducible repeat' first | exact ⟨⟩ | apply And.intro | intro _
  all_goals try exact oH
  refine callS hA rfl (hown2 P C) ?_; rintro _ rfl
  iterate 2 all_goals try cbv; with_reducible repeat' first | exact ⟨⟩ | apply And.intro | intro _
  all_goals try exact oH

end Tryz
end Go.Proofs

