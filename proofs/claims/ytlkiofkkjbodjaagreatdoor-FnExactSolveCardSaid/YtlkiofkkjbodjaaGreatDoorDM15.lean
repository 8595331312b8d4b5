/- Contracts: products of numbers and of matrices in the reference. -/
import Derived.Test.YtlkiofkkjbodjaaGreatDoorDN24
import Derived.Test.YtlkiofkkjbodjaaGreatDoorDPeFl
import Derived.Test.YtlkiofkkjbodjaaGreatDoorDN21
import Derived.Test.YtlkiofkkjbodjaaGreatDoorDEvD
import Derived.Test.YtlkiofkkjbodjaaGreatDoorDM5
namespace Go.Proofs
open Go Go.Pe Go.Dg
namespace Tryz
set_option linter.unusedSimpArgs false
set_option linter.unusedVariables false
variable {P : Program} {gl : List (Nat × Obj)}

end Tryz
end Go.Proofs

namespace Go.Proofs
open Go Go.Pe Go.Dg
namespace Tryz
set_option linter.unusedSimpArgs false
set_option linter.unusedVariables false
variable {P : Program} {gl : List (Nat × Obj)}

theorem dy_fn (C : Cx P gl) {z e f : Int} {p r : List PV} {s u : Bool} {d : Dyadic} (hp : p = intsL (dg z.natAbs)) (hs : s = decide (z < 0)) (hd : d = mk z e)
  (hr : r = intsL (dg (cZ d).natAbs)) (hu : u = decide (cZ d < 0)) (hf : f = cE d) (h0 : e.natAbs ≤ 1000000000) (hl : (dg z.natAbs).length ≤ 10000000) (hn : z ≠ 0) (hfit : fits d) :
  FN P gl 111 [.agg [B s, .lst p, I e]] (fun own rr => own = [.row 3 1 r] ∧ rr = .tup [.agg [.pv (B u), .own 0, .pv (I f)], .pv (B true)]) :=
 FN_of (dy_fx C hp hs hd hr hu hf h0 hl hn hfit) (by rintro _ _ ⟨rfl, rfl⟩; exact ⟨by simpa using closed_ints hr _ _, rfl⟩)

end Tryz
end Go.Proofs

namespace Go.Proofs
open Go Go.Pe Go.Dg
namespace Tryz
set_option linter.unusedSimpArgs false
set_option linter.unusedVariables false
variable {P : Program} {gl : List (Nat × Obj)}

end Tryz
end Go.Proofs

set_option maxHeartbeats 1000000
set_option maxRecDepth 100000
namespace Go.Proofs
open Go Go.Pe Go.Dg
namespace Tryz
set_option linter.unusedSimpArgs false
set_option linter.unusedVariables false
variable {P : Program} {gl : List (Nat × Obj)}

theorem l7ownZ_fs (C : Cx P gl) {z e : Int} {p : List PV} {s : Bool} (hp : p = intsL (dg z.natAbs)) (hs : s = decide (z < 0)) (hl : (dg z.natAbs).length ≤ 1000000000) : FS P gl 93 [.agg [B s, .lst p, I e]] (· = .agg [B s, .lst p, I e]) := by
 have hs' : s = (s && decide (z.natAbs ≠ 0)) := by
  rw [hs, Bool.eq_iff_iff, Bool.and_eq_true, decide_eq_true_eq, decide_eq_true_eq]
  omega
 have hm := fun (P' : Program) (C' : Cx P' gl) => l3make_fs C' hp hs' hl
 clear hp hs hs'
 refine gS C func93 rfl rfl rfl fun A hA hI => ?_
 iterate 2 all_goals try cbv; with_reducible repeat' first | exact ⟨⟩ | apply And.intro | intro _
 all_goals try exact oG
 refine ⟨_, hm P C, ?_⟩
 iterate 2 all_goals try cbv; with_reducible repeat' first | exact ⟨⟩ | apply And.intro | intro _
 all_goals try exact oG

theorem l8new_fx (C : Cx P gl) {n : Int} {u : List PV} (hn : 0 ≤ n) (hn4 : n ≤ 100) (hu : u = cells3 (List.replicate (n * n).toNat noY)) :
  FX P gl 142 [] [.pv (I n)] (fun own rr => own = [.row 64 3 u] ∧ rr = .agg [.pv (I n), .own 0]) := by
 have hnn : 0 ≤ n * n ∧ n * n ≤ 10000 := by
  have h3 : n * n ≤ 100 * n := Int.mul_le_mul_of_nonneg_right hn4 hn
  have h4 := Int.mul_nonneg hn hn
  omega
 obtain ⟨k, hk⟩ : ∃ k, k = n * n := ⟨_, rfl⟩
 rw [← hk] at hu hnn
 refine gX C func142 rfl rfl rfl fun A hA hI => ?_
 have ek : A.mul .i64 n n = k := by
  clear hu
  subst hA
  simp only [AR.std]
  rw [← hk, wrapi (by omega) (by omega)]
 iterate 2 all_goals try cbv; with_reducible repeat' first | exact ⟨⟩ | apply And.intro | intro _
 all_goals try exact oG
 all_goals simp only [ek]
 ·have e0 : A.rep k (.agg [B false, .lst [], I 0]) = u := by
   rw [hu]; subst hA
   show List.replicate k.toNat (cell3 noY) = _
   rw [c3rep]
  simp only [e0]
  subst hA
  exact ⟨[1], _, _, by decide, Nat.zero_le _, rfl, rfl, rfl, rfl, rfl, rfl⟩

theorem l8new_fn (C : Cx P gl) {n : Int} {u : List PV} (hn : 0 ≤ n) (hn4 : n ≤ 100) (hu : u = cells3 (List.replicate (n * n).toNat noY)) :
  FN P gl 142 [I n] (fun own rr => own = [.row 64 3 u] ∧ rr = .agg [.pv (I n), .own 0]) :=
 FN_of (l8new_fx C hn hn4 hu) (by rintro _ _ ⟨rfl, rfl⟩; exact ⟨by simpa using closed_zero hu _ _, rfl⟩)

end Tryz
end Go.Proofs

set_option maxHeartbeats 1000000
set_option maxRecDepth 100000
namespace Go.Proofs
open Go Go.Pe Go.Dg
namespace Tryz
set_option linter.unusedSimpArgs false
set_option linter.unusedVariables false
variable {P : Program} {gl : List (Nat × Obj)}

theorem l3mul_fs (C : Cx P gl) {z1 z2 w : Int} {p q r : List PV} {s t u : Bool} (hp : p = intsL (dg z1.natAbs)) (hs : s = decide (z1 < 0)) (hq : q = intsL (dg z2.natAbs)) (ht : t = decide (z2 < 0))
  (hw : w = z1 * z2) (hr : r = intsL (dg w.natAbs)) (hu : u = decide (w < 0)) (hl : (dg z1.natAbs).length ≤ 1000000) (hm : (dg z2.natAbs).length ≤ 1000000) :
  FS P gl 145 [.agg [B s, .lst p], .agg [B t, .lst q]] (· = .agg [B u, .lst r]) := by
 have hv : val (dg z1.natAbs) * val (dg z2.natAbs) = ((w.natAbs : Nat) : Int) := by
  rw [val_dg, val_dg, hw, Int.natAbs_mul, Int.natCast_mul]
 have hc := fun (P' : Program) (C' : Cx P' gl) => l2mul_fs C' hp hq (valid_dg _) (valid_dg _) hv hr (by omega)
 have hlw : (dg w.natAbs).length ≤ 2000000 := by rw [hw, Int.natAbs_mul]; have := dg_len_mul hl hm; omega
 obtain ⟨b, hb⟩ : ∃ b, b = xor s t := ⟨_, rfl⟩
 have hsg : u = (b && decide (w.natAbs ≠ 0)) := by
  rw [hb, hu, hs, ht, hw]
  rcases Int.lt_trichotomy z1 0 with a | a | a <;> rcases Int.lt_trichotomy z2 0 with b | b | b
  ·have := Int.mul_pos_of_neg_of_neg a b
   simp [a, b]; omega
  ·simp [b]
  ·have := Int.mul_neg_of_neg_of_pos a b
   simp [a, Int.not_lt.2 (Int.le_of_lt b), this]; omega
  ·simp [a]
  ·simp [a]
  ·simp [a]
  ·have := Int.mul_neg_of_pos_of_neg a b
   simp [b, Int.not_lt.2 (Int.le_of_lt a), this]; omega
  ·simp [b]
  ·have := Int.mul_pos a b
   simp [Int.not_lt.2 (Int.le_of_lt a), Int.not_lt.2 (Int.le_of_lt b)]; omega
 have hk := fun (P' : Program) (C' : Cx P' gl) => l3make_fs C' hr hsg (by omega)
 clear hp hs hq ht hw hr hu hv hsg hlw
 refine gS C func145 rfl rfl rfl fun A hA hI => ?_
 have hb2 : A.bnot (A.beq s t) = b := by
  clear hc hk
  subst hA hb
  cases s <;> cases t <;> rfl
 iterate 2 all_goals try cbv; with_reducible repeat' first | exact ⟨⟩ | apply And.intro | intro _
 all_goals try exact oG
 all_goals try simp only [hb2]
 refine ⟨_, hc P C, ?_⟩
 iterate 2 all_goals try cbv; with_reducible repeat' first | exact ⟨⟩ | apply And.intro | intro _
 all_goals try exact oG
 all_goals try simp only [hb2]
 refine callS hA rfl (hk P C) ?_; rintro _ rfl
 iterate 2 all_goals try cbv; with_reducible repeat' first | exact ⟨⟩ | apply And.intro | intro _
 all_goals try exact oG

theorem l4mul_fs (C : Cx P gl) {z1 e1 z2 e2 f : Int} {p q r : List PV} {s t u : Bool} {d : Dyadic} (hp : p = intsL (dg z1.natAbs)) (hs : s = decide (z1 < 0)) (hq : q = intsL (dg z2.natAbs)) (ht : t = decide (z2 < 0))
  (hd : d = mk z1 e1 * mk z2 e2) (hr : r = intsL (dg (cZ d).natAbs)) (hu : u = decide (cZ d < 0)) (hf : f = cE d)
  (h1 : e1.natAbs ≤ 100000) (h2 : e2.natAbs ≤ 100000) (hl : (dg z1.natAbs).length ≤ 1000000) (hm : (dg z2.natAbs).length ≤ 1000000) :
  FS P gl 71 [.agg [B s, .lst p, I e1], .agg [B t, .lst q, I e2]] (· = .agg [B u, .lst r, I f]) := by
 obtain ⟨w, hw⟩ : ∃ w, w = z1 * z2 := ⟨_, rfl⟩
 obtain ⟨g, hg⟩ : ∃ g, g = e1 + e2 := ⟨_, rfl⟩
 obtain ⟨r', hr'⟩ : ∃ r', r' = intsL (dg w.natAbs) := ⟨_, rfl⟩
 obtain ⟨u', hu'⟩ : ∃ u', u' = decide (w < 0) := ⟨_, rfl⟩
 have hlw : (dg w.natAbs).length ≤ 2000000 := by rw [hw, Int.natAbs_mul]; have := dg_len_mul hl hm; omega
 have c1 := fun (P' : Program) (C' : Cx P' gl) => l3mul_fs C' hp hs hq ht hw hr' hu' hl hm
 have c2 := fun (P' : Program) (C' : Cx P' gl) => l4make_fs C' hr' hu' (show d = mk w g by rw [hd, mk_mul, hw, hg]) hr hu hf (by omega) (by omega)
 have hg1 : g.natAbs ≤ 200000 := by omega
 clear hp hs hq ht hd hr hu hf hr' hu' hw hlw hl hm
 refine gS C func71 rfl rfl rfl fun A hA hI => ?_
 have he : A.add .i64 e1 e2 = g := by clear c1 c2; (subst hA; subst_vars; simp only [AR.std, natCast_eq, sG, reduceCtorEq] at *; try simp (disch := omega) only [AR.std, natCast_eq, sG, reduceCtorEq] at *)
 iterate 2 all_goals try cbv; with_reducible repeat' first | exact ⟨⟩ | apply And.intro | intro _
 all_goals try exact oG
 refine ⟨_, c1 P C, ?_⟩
 iterate 2 all_goals try cbv; with_reducible repeat' first | exact ⟨⟩ | apply And.intro | intro _
 all_goals try exact oG
 all_goals try simp only [he]
 refine callS hA rfl (c2 P C) ?_; rintro _ rfl
 iterate 2 all_goals try cbv; with_reducible repeat' first | exact ⟨⟩ | apply And.intro | intro _
 all_goals try exact oG

end Tryz
end Go.Proofs

