/- Contracts: a number as a Dy, of memory of its own. -/
import Derived.Test.YtlkiofkkjbodjaaGreatDoorBM4
import Derived.Test.YtlkiofkkjbodjaaGreatDoorBN11
import Derived.Test.YtlkiofkkjbodjaaGreatDoorBEvD
import Derived.Test.YtlkiofkkjbodjaaGreatDoorBPeTk
set_option maxHeartbeats 1000000
set_option maxRecDepth 100000
namespace Go.Proofs
open Go Go.Pe Go.Dg
namespace Tryz
set_option linter.unusedSimpArgs false
set_option linter.unusedVariables false
variable {P : Program} {gl : List (Nat × Obj)}

theorem nW (C : Cx P gl) {ys : List aC} {p : List PV} {n : Int} {b : Bool} (hp : p = aB ys) (hb : b = true ↔ gM n ys) (hl : ys.length ≤ 2000000) (hy : ∀ y ∈ ys, y.2.1.length ≤ 2000000) :
  FS P gl 67 [.agg [I n, .lst p]] (· = B b) := by
 obtain ⟨c, hc⟩ : ∃ c, c = !(decide (1 ≤ n) && decide (n ≤ 4) && decide ((ys.length : Int) = n * n)) := ⟨_, rfl⟩
 have hcf : c = true → b = false := by
  intro h
  cases hbc : b with
  | false => rfl
  | true =>
   obtain ⟨h1, h2, h3, _⟩ := hb.1 hbc
   rw [hc] at h
   simp [h1, h2, h3] at h
 have hct : c = false → 1 ≤ n ∧ n ≤ 4 ∧ (ys.length : Int) = n * n := by
  intro h
  rw [hc] at h
  simpa [and_assoc] using h
 have aVP : c = false → nO ys → b = true := fun h h2 => hb.2 ⟨(hct h).1, (hct h).2.1, (hct h).2.2, h2⟩
 have hno : ¬nO ys → b = false := by
  intro h
  cases hbc : b with
  | false => rfl
  | true => exact absurd (hb.1 hbc).2.2.2 h
 clear hb
 refine gS C func67 rfl rfl rfl fun A hA hI => ?_
 have e : A.pick (A.pick (A.lt n 1) true (A.lt 4 n)) true (A.ne (A.cast (A.len p)) (A.mul .i64 n n)) = c := by
  rw [hc, hp]
  clear hcf hct aVP hno
  subst hA
  simp only [AR.std, aKC]
  by_cases h1 : n < 1
  ·simp [h1]; try omega
  ·by_cases h2 : 4 < n
   ·simp [h1, h2]; try omega
   ·have hm : n * n ≤ 16 ∧ 0 ≤ n * n := by
     rcases (by omega : n = 1 ∨ n = 2 ∨ n = 3 ∨ n = 4) with rfl | rfl | rfl | rfl <;> decide
    rw [aX (by omega) (by omega)]
    have h3 : 1 ≤ n := by omega
    have h4 : n ≤ 4 := by omega
    simp [h1, h2, h3, h4]
    rfl
 iterate 2 all_goals try cbv; with_reducible repeat' first | exact ⟨⟩ | apply And.intro | intro _
 all_goals try exact oG
 ·rename_i g
  rw [hcf (by rw [← e]; exact g)]
 ·rename_i g
  have hcf' : c = false := by rw [← e]; exact g
  have hyes' := aVP hcf'
  clear g e hcf hct aVP hc
  refine aZ hA [] (ι := Int) (fun x => [(3, .pv (I x))]) (fun x => []) (fun x => (ys.length - x).toNat) (fun x => yY ys x) 0 (by rfl) ?_ ?_ ?_
  all_goals try exact tG
  ·exact yZ ys
  rintro i hinv
  have hi0 := hinv.1
  have hi1 := hinv.2.1
  have aJ := fun hi => @zA ys i hinv hi
  have aN := fun hi => @zB ys i hinv hi
  have hyl : (ys.getD i.toNat noY).2.1.length ≤ 2000000 := by
   rcases Nat.lt_or_ge i.toNat ys.length with h | h
   ·rw [List.getD, List.getElem?_eq_getElem h]; exact hy _ (List.getElem_mem h)
   ·rw [List.getD, List.getElem?_eq_none h]; simp [noY]
  obtain ⟨b2, hb2⟩ := fV (okY (ys.getD i.toNat noY))
  clear hinv
  iterate 2 all_goals try cbv; with_reducible repeat' first | exact ⟨⟩ | apply And.intro | intro _
  all_goals try exact oG
  ·rename_i g
   have gi : i < ys.length := by clear aJ aN hyes' hno hb2 hyl hy; exact eG
   have hlt : i.toNat < ys.length := by omega
   have hgl : A.gl (A.el p (A.nat i)) 1 = aA (ys.getD i.toNat noY).2.1 := by clear aJ aN hyes' hno hb2 hyl hy; (subst hA; subst_vars; simp only [AR.std, bBG, sG, reduceCtorEq] at *; try simp (disch := omega) only [AR.std, bBG, sG, reduceCtorEq] at *)
   have hgb : A.gb (A.el p (A.nat i)) 0 = (ys.getD i.toNat noY).1 := by clear aJ aN hyes' hno hb2 hyl hy hgl; (subst hA; subst_vars; simp only [AR.std, bBG, sG, reduceCtorEq] at *; try simp (disch := omega) only [AR.std, bBG, sG, reduceCtorEq] at *)
   have hge : A.gi (A.el p (A.nat i)) 2 = (ys.getD i.toNat noY).2.2 := by clear aJ aN hyes' hno hb2 hyl hy hgl hgb; (subst hA; subst_vars; simp only [AR.std, bBG, sG, reduceCtorEq] at *; try simp (disch := omega) only [AR.std, bBG, sG, reduceCtorEq] at *)
   refine aD hA rfl (aDR C (b := b2) hgl (by simp only [hgb, hge]; exact hb2) hyl) ?_; rintro _ rfl
   have hnx := fun h => aJ gi (hb2.1 h)
   have aMY : b2 = false → b = false := fun h => hno (aFM hlt (fun h2 => by rw [hb2.2 h2] at h; cases h))
   clear hgl hgb hge aJ aN hb2 hyl hno hyes' hy
   iterate 2 all_goals try cbv; with_reducible repeat' first | exact ⟨⟩ | apply And.intro | intro _
   all_goals try exact oG
   ·rename_i g2
    have : b2 = false := by cases b2 <;> first | rfl | (exfalso; clear hnx aMY; subst hA; cases g2)
    rw [aMY this]
   ·rename_i g2
    have : b2 = true := by cases b2 <;> first | rfl | (exfalso; clear hnx aMY; subst hA; cases g2)
    have tK := hnx this
    clear hnx aMY g2
    obtain ⟨y1, hy1⟩ : ∃ y, y = i + 1 := ⟨_, rfl⟩
    refine ⟨⟨y1, ?_⟩, ?_, ?_⟩
    rotate_left
    ·cbv
     exact nG
    ·exact eG
    ·rw [hy1]; exact tK
  ·rename_i g
   have gi : ys.length ≤ i := by clear aJ aN hyes' hno hb2 hyl hy; exact eG
   rw [hyes' (aN gi)]

end Tryz
end Go.Proofs

namespace Go.Proofs
open Go Go.Pe Go.Dg
namespace Tryz
set_option linter.unusedSimpArgs false
set_option linter.unusedVariables false
variable {P : Program} {gl : List (Nat × Obj)}

end Tryz
end Go.Proofs

namespace Go.Proofs
open Go Go.Pe Go.Dg
namespace Tryz
set_option linter.unusedSimpArgs false
set_option linter.unusedVariables false
variable {P : Program} {gl : List (Nat × Obj)}

theorem aO : dg 0 = [] := List.eq_nil_of_length_eq_zero (cO.2 rfl)

end Tryz
end Go.Proofs

namespace Go.Proofs
open Go Go.Pe Go.Dg
namespace Tryz
set_option linter.unusedSimpArgs false
set_option linter.unusedVariables false
variable {P : Program} {gl : List (Nat × Obj)}

end Tryz
end Go.Proofs

namespace Go.Proofs
open Go Go.Pe Go.Dg
namespace Tryz
set_option linter.unusedSimpArgs false
set_option linter.unusedVariables false
variable {P : Program} {gl : List (Nat × Obj)}

end Tryz
end Go.Proofs

namespace Go.Proofs
open Go Go.Pe Go.Dg
namespace Tryz
set_option linter.unusedSimpArgs false
set_option linter.unusedVariables false
variable {P : Program} {gl : List (Nat × Obj)}

theorem aQ1 (C : Cx P gl) {z e f : Int} {p r : List PV} {s u : Bool} {d : Dyadic} (hp : p = aA (dg z.natAbs)) (hs : s = decide (z < 0)) (hd : d = mk z e)
  (hr : r = aA (dg (cZ d).natAbs)) (hu : u = decide (cZ d < 0)) (hf : f = cE d) (h0 : e.natAbs ≤ 1000000000) (hl : (dg z.natAbs).length ≤ 10000000) (hn : z ≠ 0) (nA : fits d) :
  FN P gl 111 [.agg [B s, .lst p, I e]] (fun own rr => own = [.row 3 1 r] ∧ rr = .tup [.agg [.pv (B u), .own 0, .pv (I f)], .pv (B true)]) :=
 kO (aXW C hp hs hd hr hu hf h0 hl hn nA) (by rintro _ _ ⟨rfl, rfl⟩; exact ⟨by simpa using gI hr _ _, rfl⟩)

end Tryz
end Go.Proofs

