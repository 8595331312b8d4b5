/- Contracts: products of numbers and of matrices in the reference. -/
import Derived.Test.YthmkdfmapdbenaaGreatDoorCM10
import Derived.Test.YthmkdfmapdbenaaGreatDoorCEvD
namespace Go.Proofs
open Go Go.Pe Go.Dg
namespace Tryz
set_option linter.unusedSimpArgs false
set_option linter.unusedVariables false
variable {P : Program} {gl : List (Nat × Obj)}

set_option maxHeartbeats 1000000 in
set_option maxRecDepth 100000 in
theorem l3mul_fs (C : Cx P gl) {z1 z2 w : Int} {p q r : List PV} {s t u : Bool} (hp : p = intsL (dg z1.natAbs)) (hs : s = decide (z1 < 0)) (hq : q = intsL (dg z2.natAbs)) (ht : t = decide (z2 < 0))
    (hw : w = z1 * z2) (hr : r = intsL (dg w.natAbs)) (hu : u = decide (w < 0)) (hl : (dg z1.natAbs).length ≤ 1000000) (hm : (dg z2.natAbs).length ≤ 1000000) :
    FS P gl 143 [.agg [B s, .lst p], .agg [B t, .lst q]] (· = .agg [B u, .lst r]) := by
  have hv : val (dg z1.natAbs) * val (dg z2.natAbs) = ((w.natAbs : Nat) : Int) := by
    rw [val_dg, val_dg, hw, Int.natAbs_mul, Int.natCast_mul]
  have hc := fun (P' : Program) (C' : Cx P' gl) => l2mul_fs C' hp hq (valid_dg _) (valid_dg _) hv hr (by omega)
  have hlw : (dg w.natAbs).length ≤ 2000000 := by rw [hw, Int.natAbs_mul]; have := dg_len_mul hl hm; omega
  obtain ⟨b, hb⟩ : ∃ b, b = xor s t := ⟨_, rfl⟩
  have hsg : u = (b && decide (w.natAbs ≠ 0)) := by
    rw [hb, hu, hs, ht, hw]
    rcases Int.lt_trichotomy z1 0 with a | a | a <;> rcases Int.lt_trichotomy z2 0 with b | b | b
    · have := Int.mul_pos_of_neg_of_neg a b
      simp [a, b]; omega
    · simp [b]
    · have := Int.mul_neg_of_neg_of_pos a b
      simp [a, Int.not_lt.2 (Int.le_of_lt b), this]; omega
    · simp [a]
    · simp [a]
    · simp [a]
    · have := Int.mul_neg_of_pos_of_neg a b
      simp [b, Int.not_lt.2 (Int.le_of_lt a), this]; omega
    · simp [b]
    · have := Int.mul_pos a b
      simp [Int.not_lt.2 (Int.le_of_lt a), Int.not_lt.2 (Int.le_of_lt b)]; omega
  have hk := fun (P' : Program) (C' : Cx P' gl) => l3make_fs C' hr hsg (by omega)
  clear hp hs hq ht hw hr hu hv hsg hlw
  obtain ⟨rfl, hG⟩ := C
  refine FS_ofT (args := fun A => [.agg [B s, .lst p], .agg [B t, .lst q]]) (R := fun A rr => rr = .agg [B u, .lst r]) Tryz.hT Tryz.mix Tryz.func143 rfl rfl (Nat.le_of_ble_eq_true rfl) ?_
  generalize hP : Tryz.prog = P
  intro A hA
  have C : Tryz.Cx P gl := ⟨hP.symm, hG⟩
  have hI : intsL = A.ints := by subst hA; rfl
  have hb2 : A.bnot (A.beq s t) = b := by
    clear hc hk
    subst hA hb
    cases s <;> cases t <;> rfl
  iterate 2 (all_goals try cbv; all_goals repeat' (first | with_reducible exact True.intro | with_reducible refine And.intro ?_ ?_ | intro _))
  all_goals try exact oG
  all_goals try simp only [hb2]
  refine ⟨_, hc P C, ?_⟩
  iterate 2 (all_goals try cbv; all_goals repeat' (first | with_reducible exact True.intro | with_reducible refine And.intro ?_ ?_ | intro _))
  all_goals try exact oG
  all_goals try simp only [hb2]
  refine callS hA rfl (hk P C) ?_; rintro _ rfl
  iterate 2 (all_goals try cbv; all_goals repeat' (first | with_reducible exact True.intro | with_reducible refine And.intro ?_ ?_ | intro _))
  all_goals try exact oG

set_option maxHeartbeats 1000000 in
set_option maxRecDepth 100000 in
theorem l4mul_fs (C : Cx P gl) {z1 e1 z2 e2 f : Int} {p q r : List PV} {s t u : Bool} {d : Dyadic} (hp : p = intsL (dg z1.natAbs)) (hs : s = decide (z1 < 0)) (hq : q = intsL (dg z2.natAbs)) (ht : t = decide (z2 < 0))
    (hd : d = mk z1 e1 * mk z2 e2) (hr : r = intsL (dg (cZ d).natAbs)) (hu : u = decide (cZ d < 0)) (hf : f = cE d)
    (h1 : e1.natAbs ≤ 100000) (h2 : e2.natAbs ≤ 100000) (hl : (dg z1.natAbs).length ≤ 1000000) (hm : (dg z2.natAbs).length ≤ 1000000) :
    FS P gl 105 [.agg [B s, .lst p, I e1], .agg [B t, .lst q, I e2]] (· = .agg [B u, .lst r, I f]) := by
  obtain ⟨w, hw⟩ : ∃ w, w = z1 * z2 := ⟨_, rfl⟩
  obtain ⟨g, hg⟩ : ∃ g, g = e1 + e2 := ⟨_, rfl⟩
  obtain ⟨r', hr'⟩ : ∃ r', r' = intsL (dg w.natAbs) := ⟨_, rfl⟩
  obtain ⟨u', hu'⟩ : ∃ u', u' = decide (w < 0) := ⟨_, rfl⟩
  have hlw : (dg w.natAbs).length ≤ 2000000 := by rw [hw, Int.natAbs_mul]; have := dg_len_mul hl hm; omega
  have c1 := fun (P' : Program) (C' : Cx P' gl) => l3mul_fs C' hp hs hq ht hw hr' hu' hl hm
  have c2 := fun (P' : Program) (C' : Cx P' gl) => l4make_fs C' hr' hu' (show d = mk w g by rw [hd, mk_mul, hw, hg]) hr hu hf (by omega) (by omega)
  have hg1 : g.natAbs ≤ 200000 := by omega
  clear hp hs hq ht hd hr hu hf hr' hu' hw hlw hl hm
  obtain ⟨rfl, hG⟩ := C
  refine FS_ofT (args := fun A => [.agg [B s, .lst p, I e1], .agg [B t, .lst q, I e2]]) (R := fun A rr => rr = .agg [B u, .lst r, I f]) Tryz.hT Tryz.mix Tryz.func105 rfl rfl (Nat.le_of_ble_eq_true rfl) ?_
  generalize hP : Tryz.prog = P
  intro A hA
  have C : Tryz.Cx P gl := ⟨hP.symm, hG⟩
  have hI : intsL = A.ints := by subst hA; rfl
  have he : A.add .i64 e1 e2 = g := by clear c1 c2; (subst hA; subst_vars; simp only [AR.std, natCast_eq, sG, reduceCtorEq] at *; try simp (disch := omega) only [AR.std, natCast_eq, sG, reduceCtorEq] at *)
  iterate 2 (all_goals try cbv; all_goals repeat' (first | with_reducible exact True.intro | with_reducible refine And.intro ?_ ?_ | intro _))
  all_goals try exact oG
  refine ⟨_, c1 P C, ?_⟩
  iterate 2 (all_goals try cbv; all_goals repeat' (first | with_reducible exact True.intro | with_reducible refine And.intro ?_ ?_ | intro _))
  all_goals try exact oG
  all_goals try simp only [he]
  refine callS hA rfl (c2 P C) ?_; rintro _ rfl
  iterate 2 (all_goals try cbv; all_goals repeat' (first | with_reducible exact True.intro | with_reducible refine And.intro ?_ ?_ | intro _))
  all_goals try exact oG

end Tryz
end Go.Proofs
