/- Contracts: products of numbers and of matrices in the reference. -/
import Derived.Test.YtlkiofkkjbodjaaGreatDoorAP11
import Derived.Test.YtlkiofkkjbodjaaGreatDoorAN14
import Derived.Test.YtlkiofkkjbodjaaGreatDoorAN22
import Derived.Test.YtlkiofkkjbodjaaGreatDoorAEvD
import Derived.Test.YtlkiofkkjbodjaaGreatDoorAN29
import Derived.Test.YtlkiofkkjbodjaaGreatDoorAN9
namespace Go.Proofs
open Go Go.Pe Go.Dg
namespace Tryz
set_option linter.unusedSimpArgs false
set_option linter.unusedVariables false
variable {P : Program} {gl : List (Nat × Obj)}

theorem xSpanPlus {a b : Cell6} {d1 d2 d3 d4 : Dyadic} {L E : Nat} (h1 : X d1 L E a.1) (h2 : X d2 L E a.2) (h3 : X d3 L E b.1) (h4 : X d4 L E b.2) (hL : L ≤ 1000000) (hE : E ≤ 100000) :
  ∃ y : Cell6, X (d1 + d3) (L + E + 2) E y.1 ∧ X (d2 + d4) (L + E + 2) E y.2 ∧ ∀ (P : Program) (gl : List (Nat × Obj)), Cx P gl → FS P gl 135 [cell6 a, cell6 b] (· = cell6 y) := by
 have one : ∀ {d d' : Dyadic} {y y' : Cell3}, X d L E y → X d' L E y' → ∃ z z' w f : Int, y.1 = decide (z < 0) ∧ y.2.1 = dg z.natAbs ∧ y'.1 = decide (z' < 0) ∧ y'.2.1 = dg z'.natAbs ∧ sumD z y.2.2 z' y'.2.2 w f ∧ y.2.2.natAbs ≤ 100000 ∧ y'.2.2.natAbs ≤ 100000 ∧ (dg z.natAbs).length ≤ 1000000 ∧ (dg z'.natAbs).length ≤ 1000000 ∧
   X (d + d') (L + E + 2) E (decide (w < 0), dg w.natAbs, f) := by
  intro d d' y y' h h'
  obtain ⟨z1, a1, a2, a3, a4, a5⟩ := h
  obtain ⟨z2, b1, b2, b3, b4, b5⟩ := h'
  obtain ⟨w, f, hd⟩ := sumD_ex z1 y.2.2 z2 y'.2.2
  have hlen : (dg w.natAbs).length ≤ L + E + 2 ∧ f.natAbs ≤ E := by
   obtain ⟨x, y, ha, rfl⟩ := hd
   obtain ⟨c2, c1, c3⟩ := align_len ha b4 a4 b5 a5
   exact ⟨by have := Go.Pe.dg_len_add c1 c2; omega, c3⟩
  exact ⟨z1, z2, w, f, a1, a2, b1, b2, hd, by omega, by omega, by omega, by omega, w, rfl, rfl, by rw [sumD_mk hd, a3, b3], hlen.1, hlen.2⟩
 obtain ⟨z1, z3, w1, f1, a1, a2, a3, a4, a5, a6, a7, a8, a9, a10⟩ := one h1 h3
 obtain ⟨z2, z4, w2, f2, b1, b2, b3, b4, b5, b6, b7, b8, b9, b10⟩ := one h2 h4
 refine ⟨((decide (w1 < 0), dg w1.natAbs, f1), (decide (w2 < 0), dg w2.natAbs, f2)), a10, b10, ?_⟩
 intro P gl C
 exact spanPlus_fs C (by rw [a2]) a1 (by rw [b2]) b1 (by rw [a4]) a3 (by rw [b4]) b3 a5 b5 rfl rfl rfl rfl a6 b6 a7 b7 a8 b8 a9 b9

theorem endV {vs : List Cell6} (hva : allV vs) {k : Nat} (hk : k < vs.length) : vs.getD k noV = (canY (dvA vs k), canY (dvB vs k)) := allV_can hva hk

end Tryz
end Go.Proofs

namespace Go.Proofs
open Go Go.Pe Go.Dg
namespace Tryz
set_option linter.unusedSimpArgs false
set_option linter.unusedVariables false
variable {P : Program} {gl : List (Nat × Obj)}

end Tryz
end Go.Proofs

namespace Go.Proofs
open Go Go.Pe Go.Dg
namespace Tryz
set_option linter.unusedSimpArgs false
set_option linter.unusedVariables false
variable {P : Program} {gl : List (Nat × Obj)}

end Tryz
end Go.Proofs

namespace Go.Proofs
open Go Go.Pe Go.Dg
namespace Tryz
set_option linter.unusedSimpArgs false
set_option linter.unusedVariables false
variable {P : Program} {gl : List (Nat × Obj)}

end Tryz
end Go.Proofs

namespace Go.Proofs
open Go Go.Pe Go.Dg
namespace Tryz
set_option linter.unusedSimpArgs false
set_option linter.unusedVariables false
variable {P : Program} {gl : List (Nat × Obj)}

end Tryz
end Go.Proofs

set_option maxHeartbeats 1000000
set_option maxRecDepth 100000
namespace Go.Proofs
open Go Go.Pe Go.Dg
namespace Tryz
set_option linter.unusedSimpArgs false
set_option linter.unusedVariables false
variable {P : Program} {gl : List (Nat × Obj)}

theorem exactTimes_fs (C : Cx P gl) {z1 e1 z2 e2 w f : Int} {p q r : List PV} {s t u : Bool} (hp : p = intsL (dg z1.natAbs)) (hs : s = decide (z1 < 0)) (hq : q = intsL (dg z2.natAbs)) (ht : t = decide (z2 < 0))
  (hw : w = z1 * z2) (hf : f = e1 + e2) (hr : r = intsL (dg w.natAbs)) (hu : u = decide (w < 0))
  (h1 : e1.natAbs ≤ 100000) (h2 : e2.natAbs ≤ 100000) (hl : (dg z1.natAbs).length ≤ 1000000) (hm : (dg z2.natAbs).length ≤ 1000000) :
  FS P gl 83 [.agg [B s, .lst p, I e1], .agg [B t, .lst q, I e2]] (· = .agg [B u, .lst r, I f]) := by
 have hv : val (dg z1.natAbs) * val (dg z2.natAbs) = ((w.natAbs : Nat) : Int) := by
  rw [val_dg, val_dg, hw, Int.natAbs_mul, Int.natCast_mul]
 have hc := fun (P' : Program) (C' : Cx P' gl) => times_fs C' hp hq (valid_dg _) (valid_dg _) hv hr (by omega)
 have hz : decide (0 < (dg w.natAbs).length) = decide (w ≠ 0) := by
  have := dg_len0 (n := w.natAbs)
  rw [decide_eq_decide]
  omega
 have hsg : (xor s t && decide (w ≠ 0)) = u := by
  rw [hu, hs, ht, hw]
  rcases Int.lt_trichotomy z1 0 with a | a | a <;> rcases Int.lt_trichotomy z2 0 with b | b | b
  ·have := Int.mul_pos_of_neg_of_neg a b
   simp [a, b]; omega
  ·simp [b]
  ·have := Int.mul_neg_of_neg_of_pos a b
   simp [a, Int.not_lt.2 (Int.le_of_lt b), this]; omega
  ·simp [a]
  ·simp [a]
  ·simp [a]
  ·have := Int.mul_neg_of_pos_of_neg a b
   simp [b, Int.not_lt.2 (Int.le_of_lt a), this]; omega
  ·simp [b]
  ·have := Int.mul_pos a b
   simp [Int.not_lt.2 (Int.le_of_lt a), Int.not_lt.2 (Int.le_of_lt b)]; omega
 obtain ⟨m, hm'⟩ : ∃ m, m = (dg w.natAbs).length := ⟨_, rfl⟩
 have hrl : r.length = m := by rw [hr, ints_len, hm']
 rw [← hm'] at hz
 clear hp hs hq ht hw hr hu hv hm'
 obtain ⟨rfl, hG⟩ := C
 refine FS_ofT (args := fun A => [.agg [B s, .lst p, I e1], .agg [B t, .lst q, I e2]]) (R := fun A rr => rr = .agg [B u, .lst r, I f]) Tryz.hT Tryz.mix Tryz.func83 rfl rfl (Nat.le_of_ble_eq_true rfl) ?_
 generalize hP : Tryz.prog = P
 intro A hA
 have C : Tryz.Cx P gl := ⟨hP.symm, hG⟩
 have hI : intsL = A.ints := by subst hA; rfl
 have he : A.add .i64 e1 e2 = f := by clear hsg hz hrl hc; (subst hA; subst_vars; simp only [AR.std, natCast_eq, sG, reduceCtorEq] at *; try simp (disch := omega) only [AR.std, natCast_eq, sG, reduceCtorEq] at *)
 have hb : A.pick (A.bnot (A.beq s t)) (A.lt 0 (A.cast (A.len r))) false = u := by
  have e2 : A.lt 0 (A.cast (A.len r)) = decide (w ≠ 0) := by
   rw [← hz, ← hrl]
   clear hsg hz hrl hc he
   subst hA
   simp [AR.std]
  rw [e2, ← hsg]
  clear hsg hz hrl hc he e2
  subst hA
  cases s <;> cases t <;> simp [AR.std]
 iterate 2 (all_goals try cbv; all_goals with_reducible repeat' first | exact True.intro | refine And.intro ?_ ?_ | intro _)
 all_goals try exact oG
 refine callS hA rfl (hc P C) ?_; rintro _ rfl
 iterate 2 (all_goals try cbv; all_goals with_reducible repeat' first | exact True.intro | refine And.intro ?_ ?_ | intro _)
 all_goals try exact oG
 simp only [he, hb]

theorem xTimes {d1 d2 : Dyadic} {L E L2 E2 : Nat} {y1 y2 : Cell3} (h1 : X d1 L E y1) (h2 : X d2 L2 E2 y2) (hL : L ≤ 1000000) (hE : E ≤ 100000) (hL2 : L2 ≤ 1000000) (hE2 : E2 ≤ 100000) : ∃ y, X (d1 * d2) (L + L2) (E + E2) y ∧
  ∀ (P : Program) (gl : List (Nat × Obj)) (p q r : List PV), Cx P gl → p = intsL y1.2.1 → q = intsL y2.2.1 → r = intsL y.2.1 → FS P gl 83 [.agg [B y1.1, .lst p, I y1.2.2], .agg [B y2.1, .lst q, I y2.2.2]] (· = .agg [B y.1, .lst r, I y.2.2]) := by
 obtain ⟨z1, a1, a2, a3, a4, a5⟩ := h1
 obtain ⟨z2, b1, b2, b3, b4, b5⟩ := h2
 refine ⟨(decide (z1 * z2 < 0), dg (z1 * z2).natAbs, y1.2.2 + y2.2.2), ⟨z1 * z2, rfl, rfl, by rw [a3, b3, mk_mul], ?_, ?_⟩, ?_⟩
 ·rw [Int.natAbs_mul]; exact dg_len_mul a4 b4
 ·simp only; omega
 ·intro P gl p q r C hp hq hr
  exact exactTimes_fs C (by rw [hp, a2]) a1 (by rw [hq, b2]) b1 rfl rfl hr rfl (by omega) (by omega) (by omega) (by omega)

end Tryz
end Go.Proofs

namespace Go.Proofs
open Go Go.Pe Go.Dg
namespace Tryz
set_option linter.unusedSimpArgs false
set_option linter.unusedVariables false
variable {P : Program} {gl : List (Nat × Obj)}

end Tryz
end Go.Proofs

namespace Go.Proofs
open Go Go.Pe Go.Dg
namespace Tryz
set_option linter.unusedSimpArgs false
set_option linter.unusedVariables false
variable {P : Program} {gl : List (Nat × Obj)}

end Tryz
end Go.Proofs

set_option maxHeartbeats 1000000
set_option maxRecDepth 100000
namespace Go.Proofs
open Go Go.Pe Go.Dg
namespace Tryz
set_option linter.unusedSimpArgs false
set_option linter.unusedVariables false
variable {P : Program} {gl : List (Nat × Obj)}

theorem l3mul_fs (C : Cx P gl) {z1 z2 w : Int} {p q r : List PV} {s t u : Bool} (hp : p = intsL (dg z1.natAbs)) (hs : s = decide (z1 < 0)) (hq : q = intsL (dg z2.natAbs)) (ht : t = decide (z2 < 0))
  (hw : w = z1 * z2) (hr : r = intsL (dg w.natAbs)) (hu : u = decide (w < 0)) (hl : (dg z1.natAbs).length ≤ 1000000) (hm : (dg z2.natAbs).length ≤ 1000000) :
  FS P gl 145 [.agg [B s, .lst p], .agg [B t, .lst q]] (· = .agg [B u, .lst r]) := by
 have hv : val (dg z1.natAbs) * val (dg z2.natAbs) = ((w.natAbs : Nat) : Int) := by
  rw [val_dg, val_dg, hw, Int.natAbs_mul, Int.natCast_mul]
 have hc := fun (P' : Program) (C' : Cx P' gl) => l2mul_fs C' hp hq (valid_dg _) (valid_dg _) hv hr (by omega)
 have hlw : (dg w.natAbs).length ≤ 2000000 := by rw [hw, Int.natAbs_mul]; have := dg_len_mul hl hm; omega
 obtain ⟨b, hb⟩ : ∃ b, b = xor s t := ⟨_, rfl⟩
 have hsg : u = (b && decide (w.natAbs ≠ 0)) := by
  rw [hb, hu, hs, ht, hw]
  rcases Int.lt_trichotomy z1 0 with a | a | a <;> rcases Int.lt_trichotomy z2 0 with b | b | b
  ·have := Int.mul_pos_of_neg_of_neg a b
   simp [a, b]; omega
  ·simp [b]
  ·have := Int.mul_neg_of_neg_of_pos a b
   simp [a, Int.not_lt.2 (Int.le_of_lt b), this]; omega
  ·simp [a]
  ·simp [a]
  ·simp [a]
  ·have := Int.mul_neg_of_pos_of_neg a b
   simp [b, Int.not_lt.2 (Int.le_of_lt a), this]; omega
  ·simp [b]
  ·have := Int.mul_pos a b
   simp [Int.not_lt.2 (Int.le_of_lt a), Int.not_lt.2 (Int.le_of_lt b)]; omega
 have hk := fun (P' : Program) (C' : Cx P' gl) => l3make_fs C' hr hsg (by omega)
 clear hp hs hq ht hw hr hu hv hsg hlw
 obtain ⟨rfl, hG⟩ := C
 refine FS_ofT (args := fun A => [.agg [B s, .lst p], .agg [B t, .lst q]]) (R := fun A rr => rr = .agg [B u, .lst r]) Tryz.hT Tryz.mix Tryz.func145 rfl rfl (Nat.le_of_ble_eq_true rfl) ?_
 generalize hP : Tryz.prog = P
 intro A hA
 have C : Tryz.Cx P gl := ⟨hP.symm, hG⟩
 have hI : intsL = A.ints := by subst hA; rfl
 have hb2 : A.bnot (A.beq s t) = b := by
  clear hc hk
  subst hA hb
  cases s <;> cases t <;> rfl
 iterate 2 (all_goals try cbv; all_goals with_reducible repeat' first | exact True.intro | refine And.intro ?_ ?_ | intro _)
 all_goals try exact oG
 all_goals try simp only [hb2]
 refine ⟨_, hc P C, ?_⟩
 iterate 2 (all_goals try cbv; all_goals with_reducible repeat' first | exact True.intro | refine And.intro ?_ ?_ | intro _)
 all_goals try exact oG
 all_goals try simp only [hb2]
 refine callS hA rfl (hk P C) ?_; rintro _ rfl
 iterate 2 (all_goals try cbv; all_goals with_reducible repeat' first | exact True.intro | refine And.intro ?_ ?_ | intro _)
 all_goals try exact oG

theorem l4mul_fs (C : Cx P gl) {z1 e1 z2 e2 f : Int} {p q r : List PV} {s t u : Bool} {d : Dyadic} (hp : p = intsL (dg z1.natAbs)) (hs : s = decide (z1 < 0)) (hq : q = intsL (dg z2.natAbs)) (ht : t = decide (z2 < 0))
  (hd : d = mk z1 e1 * mk z2 e2) (hr : r = intsL (dg (cZ d).natAbs)) (hu : u = decide (cZ d < 0)) (hf : f = cE d)
  (h1 : e1.natAbs ≤ 100000) (h2 : e2.natAbs ≤ 100000) (hl : (dg z1.natAbs).length ≤ 1000000) (hm : (dg z2.natAbs).length ≤ 1000000) :
  FS P gl 71 [.agg [B s, .lst p, I e1], .agg [B t, .lst q, I e2]] (· = .agg [B u, .lst r, I f]) := by
 obtain ⟨w, hw⟩ : ∃ w, w = z1 * z2 := ⟨_, rfl⟩
 obtain ⟨g, hg⟩ : ∃ g, g = e1 + e2 := ⟨_, rfl⟩
 obtain ⟨r', hr'⟩ : ∃ r', r' = intsL (dg w.natAbs) := ⟨_, rfl⟩
 obtain ⟨u', hu'⟩ : ∃ u', u' = decide (w < 0) := ⟨_, rfl⟩
 have hlw : (dg w.natAbs).length ≤ 2000000 := by rw [hw, Int.natAbs_mul]; have := dg_len_mul hl hm; omega
 have c1 := fun (P' : Program) (C' : Cx P' gl) => l3mul_fs C' hp hs hq ht hw hr' hu' hl hm
 have c2 := fun (P' : Program) (C' : Cx P' gl) => l4make_fs C' hr' hu' (show d = mk w g by rw [hd, mk_mul, hw, hg]) hr hu hf (by omega) (by omega)
 have hg1 : g.natAbs ≤ 200000 := by omega
 clear hp hs hq ht hd hr hu hf hr' hu' hw hlw hl hm
 obtain ⟨rfl, hG⟩ := C
 refine FS_ofT (args := fun A => [.agg [B s, .lst p, I e1], .agg [B t, .lst q, I e2]]) (R := fun A rr => rr = .agg [B u, .lst r, I f]) Tryz.hT Tryz.mix Tryz.func71 rfl rfl (Nat.le_of_ble_eq_true rfl) ?_
 generalize hP : Tryz.prog = P
 intro A hA
 have C : Tryz.Cx P gl := ⟨hP.symm, hG⟩
 have hI : intsL = A.ints := by subst hA; rfl
 have he : A.add .i64 e1 e2 = g := by clear c1 c2; (subst hA; subst_vars; simp only [AR.std, natCast_eq, sG, reduceCtorEq] at *; try simp (disch := omega) only [AR.std, natCast_eq, sG, reduceCtorEq] at *)
 iterate 2 (all_goals try cbv; all_goals with_reducible repeat' first | exact True.intro | refine And.intro ?_ ?_ | intro _)
 all_goals try exact oG
 refine ⟨_, c1 P C, ?_⟩
 iterate 2 (all_goals try cbv; all_goals with_reducible repeat' first | exact True.intro | refine And.intro ?_ ?_ | intro _)
 all_goals try exact oG
 all_goals try simp only [he]
 refine callS hA rfl (c2 P C) ?_; rintro _ rfl
 iterate 2 (all_goals try cbv; all_goals with_reducible repeat' first | exact True.intro | refine And.intro ?_ ?_ | intro _)
 all_goals try exact oG

end Tryz
end Go.Proofs

