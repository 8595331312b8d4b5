/- Contracts: exact numbers. -/
import Derived.Test.YtlkiofkkjbodjaaGreatDoorAN9
set_option maxHeartbeats 1000000
set_option maxRecDepth 100000
namespace Go.Proofs
open Go Go.Pe Go.Dg
namespace Tryz
set_option linter.unusedSimpArgs false
set_option linter.unusedVariables false
variable {P : Program} {gl : List (Nat × Obj)}

theorem IvOk_fs (C : Cx P gl) {l m : List Int} {e f : Int} {p q : List PV} {s t b : Bool} (hp : p = intsL l) (hq : q = intsL m) (hb : b = true ↔ ivOk s l e t m f) (hl : l.length ≤ 2000000) (hm : m.length ≤ 2000000) :
  FS P gl 120 [.agg [B s, .lst p, I e, B t, .lst q, I f]] (· = B b) := by
 obtain ⟨c1, hc1⟩ := bool_of (dyOk s l e)
 obtain ⟨c2, hc2⟩ := bool_of (dyOk t m f)
 obtain ⟨c, hc⟩ : ∃ c : Int, c = cmpD (dval s l e) (dval t m f) := ⟨_, rfl⟩
 have h1 : b = (c1 && (c2 && decide (c ≤ 0))) := by
  rw [Bool.eq_iff_iff, hb, ivOk, Bool.and_eq_true, Bool.and_eq_true, decide_eq_true_eq, hc1, hc2, hc, cmpD_le]
 have h2 : c1 = true → c2 = true → p = intsL (dg (cZ (dval s l e)).natAbs) ∧ s = decide (cZ (dval s l e) < 0) ∧ e = cE (dval s l e) ∧ q = intsL (dg (cZ (dval t m f)).natAbs) ∧ t = decide (cZ (dval t m f) < 0) ∧ f = cE (dval t m f) ∧
   e.natAbs ≤ 100000 ∧ f.natAbs ≤ 100000 ∧ (dg (cZ (dval s l e)).natAbs).length ≤ 1000000 ∧ (dg (cZ (dval t m f)).natAbs).length ≤ 1000000 := by
  intro a1 a2
  obtain ⟨⟨x1, x2, x3⟩, y1, y2, y3⟩ := dyOk_val (hc1.1 a1)
  obtain ⟨⟨x4, x5, x6⟩, y4, y5, y6⟩ := dyOk_val (hc2.1 a2)
  exact ⟨by rw [hp, ← x2], x1, x3, by rw [hq, ← x5], x4, x6, by omega, by omega, by omega, by omega⟩
 have hcv : ∀ x y, x = dval s l e → y = dval t m f → c = cmpD x y := by rintro x y rfl rfl; exact hc
 clear hc
 generalize dval s l e = d1 at *
 generalize dval t m f = d2 at *
 have h3 : c = cmpD (mk (cZ d1) (cE d1)) (mk (cZ d2) (cE d2)) := hcv _ _ (mk_canon _) (mk_canon _)
 clear hcv hb
 obtain ⟨rfl, hG⟩ := C
 refine FS_ofT (args := fun A => [.agg [B s, .lst p, I e, B t, .lst q, I f]]) (R := fun A rr => rr = B b) Tryz.hT Tryz.mix Tryz.func120 rfl rfl (Nat.le_of_ble_eq_true rfl) ?_
 generalize hP : Tryz.prog = P
 intro A hA
 have C : Tryz.Cx P gl := ⟨hP.symm, hG⟩
 have hI : intsL = A.ints := by subst hA; rfl
 iterate 2 (all_goals try cbv; all_goals with_reducible repeat' first | exact True.intro | refine And.intro ?_ ?_ | intro _)
 all_goals try exact oH
 refine callS hA rfl (DyOk_fs C hp hc1 hl) ?_; rintro _ rfl
 iterate 2 (all_goals try cbv; all_goals with_reducible repeat' first | exact True.intro | refine And.intro ?_ ?_ | intro _)
 all_goals try exact oH
 refine ⟨_, fun _ => DyOk_fs C hq hc2 hm, ?_⟩
 iterate 2 (all_goals try cbv; all_goals with_reducible repeat' first | exact True.intro | refine And.intro ?_ ?_ | intro _)
 all_goals try exact oH
 refine ⟨I c, fun g => ?_, ?_⟩
 ·have g1 : c1 = true ∧ c2 = true := by subst hA; cases c1 <;> cases c2 <;> first | exact ⟨rfl, rfl⟩ | exact absurd g (by decide)
  obtain ⟨x1, x2, x3, x4, x5, x6, x7, x8, x9, x10⟩ := h2 g1.1 g1.2
  rw [x3, x6] at *
  exact l4cmp_fs C x1 x2 x4 x5 h3 x7 x8 x9 x10
 iterate 2 (all_goals try cbv; all_goals with_reducible repeat' first | exact True.intro | refine And.intro ?_ ?_ | intro _)
 all_goals try exact oH
 have e1 : A.pick (A.pick c1 c2 false) (A.le c 0) false = b := by
  subst hA; rw [h1]; cases c1 <;> cases c2 <;> rfl
 simp only [e1]

end Tryz
end Go.Proofs

set_option maxHeartbeats 1000000
set_option maxRecDepth 100000
namespace Go.Proofs
open Go Go.Pe Go.Dg
namespace Tryz
set_option linter.unusedSimpArgs false
set_option linter.unusedVariables false
variable {P : Program} {gl : List (Nat × Obj)}

theorem min_std2 (a b : Int) : AR.std.min a b = min a b := by show (if b < a then b else a) = _; split <;> omega

theorem max_sub {A : AR} (hA : A = AR.std) {a w e : Int} (hw : w = e) (h1 : a.natAbs ≤ 100000) (h2 : e.natAbs ≤ 100000) : A.max (A.sub .i64 a w) 0 = max (a - e) 0 := by
 subst hA hw
 have h : AR.std.sub .i64 a w = a - w := wrapi (by omega) (by omega)
 rw [h]
 show (if (0 : Int) > a - w then (0 : Int) else a - w) = _
 split <;> omega

theorem aligned_fs (C : Cx P gl) {z1 e1 z2 e2 x y e : Int} {p q p' q' : List PV} {s t : Bool} (hp : p = intsL (dg z1.natAbs)) (hq : q = intsL (dg z2.natAbs))
  (hI : alignI z2 e2 z1 e1 y x e) (hp' : p' = intsL (dg x.natAbs)) (hq' : q' = intsL (dg y.natAbs))
  (h1 : e1.natAbs ≤ 100000) (h2 : e2.natAbs ≤ 100000) (hl : (dg z1.natAbs).length ≤ 1000000) (hm : (dg z2.natAbs).length ≤ 1000000) :
  FS P gl 156 [.agg [B s, .lst p, I e1], .agg [B t, .lst q, I e2]] (· = .tup [.lst p', .lst q', I e]) := by
 obtain ⟨u1, u2, d1, d2, d3⟩ := align_up hI
 have b3 := (align_len hI hm hl h2 h1).2.2
 have hx := valid_dg z1.natAbs
 have hy := valid_dg z2.natAbs
 have k1 : (dg z1.natAbs).length = 0 ↔ z1 = 0 := by rw [dg_len0]; omega
 have k2 : (dg z2.natAbs).length = 0 ↔ z2 = 0 := by rw [dg_len0]; omega
 have v1 : val (dg z1.natAbs) * 2 ^ (max (e1 - e) 0).toNat = (x.natAbs : Nat) := by rw [val_dg, ← u1, Int.natCast_mul, Int.natCast_pow]; rfl
 have v2 : val (dg z2.natAbs) * 2 ^ (max (e2 - e) 0).toNat = (y.natAbs : Nat) := by rw [val_dg, ← u2, Int.natCast_mul, Int.natCast_pow]; rfl
 clear hI u1 u2
 obtain ⟨rfl, hG⟩ := C
 refine FS_ofT (args := fun A => [.agg [B s, .lst p, I e1], .agg [B t, .lst q, I e2]]) (R := fun A rr => rr = .tup [.lst p', .lst q', I e]) Tryz.hT Tryz.mix Tryz.func156 rfl rfl (Nat.le_of_ble_eq_true rfl) ?_
 generalize hP : Tryz.prog = P
 intro A hA
 have C : Tryz.Cx P gl := ⟨hP.symm, hG⟩
 have hI : intsL = A.ints := by subst hA; rfl
 iterate 2 (all_goals try cbv; all_goals with_reducible repeat' first | exact True.intro | refine And.intro ?_ ?_ | intro _)
 all_goals try exact oH
 iterate 2 (all_goals try cbv; all_goals with_reducible repeat' first | exact True.intro | refine And.intro ?_ ?_ | intro _)
 all_goals try exact oH
 ·rename_i g1 g2
  have hw : e1 = e := (d1 (k2.1 (len_t hA hq g2))).symm
  refine ⟨_, up_fs C hp hx (max_sub hA hw h1 b3) v1 hp' (by omega) (by omega) (by omega), ?_⟩
  iterate 2 (all_goals try cbv; all_goals with_reducible repeat' first | exact True.intro | refine And.intro ?_ ?_ | intro _)
  all_goals try exact oH
  refine ⟨_, up_fs C hq hy (max_sub hA hw h2 b3) v2 hq' (by omega) (by omega) (by omega), ?_⟩
  iterate 2 (all_goals try cbv; all_goals with_reducible repeat' first | exact True.intro | refine And.intro ?_ ?_ | intro _)
  all_goals try exact oH
  simp only [hw]
 ·rename_i g1 g2
  have hw : e2 = e := (d2 (fun h => len_f hA hq g2 (k2.2 h)) (k1.1 (len_t hA hp g1))).symm
  refine ⟨_, up_fs C hp hx (max_sub hA hw h1 b3) v1 hp' (by omega) (by omega) (by omega), ?_⟩
  iterate 2 (all_goals try cbv; all_goals with_reducible repeat' first | exact True.intro | refine And.intro ?_ ?_ | intro _)
  all_goals try exact oH
  refine ⟨_, up_fs C hq hy (max_sub hA hw h2 b3) v2 hq' (by omega) (by omega) (by omega), ?_⟩
  iterate 2 (all_goals try cbv; all_goals with_reducible repeat' first | exact True.intro | refine And.intro ?_ ?_ | intro _)
  all_goals try exact oH
  simp only [hw]
 ·rename_i g1 g2
  have hw : e1 = e := (d1 (k2.1 (len_t hA hq g2))).symm
  refine ⟨_, up_fs C hp hx (max_sub hA hw h1 b3) v1 hp' (by omega) (by omega) (by omega), ?_⟩
  iterate 2 (all_goals try cbv; all_goals with_reducible repeat' first | exact True.intro | refine And.intro ?_ ?_ | intro _)
  all_goals try exact oH
  refine ⟨_, up_fs C hq hy (max_sub hA hw h2 b3) v2 hq' (by omega) (by omega) (by omega), ?_⟩
  iterate 2 (all_goals try cbv; all_goals with_reducible repeat' first | exact True.intro | refine And.intro ?_ ?_ | intro _)
  all_goals try exact oH
  simp only [hw]
 ·rename_i g1 g2
  have hw : A.min e1 e2 = e := by rw [d3 (fun h => len_f hA hq g2 (k2.2 h)) (fun h => len_f hA hp g1 (k1.2 h))]; subst hA; exact min_std2 _ _
  refine ⟨_, up_fs C hp hx (max_sub hA hw h1 b3) v1 hp' (by omega) (by omega) (by omega), ?_⟩
  iterate 2 (all_goals try cbv; all_goals with_reducible repeat' first | exact True.intro | refine And.intro ?_ ?_ | intro _)
  all_goals try exact oH
  refine ⟨_, up_fs C hq hy (max_sub hA hw h2 b3) v2 hq' (by omega) (by omega) (by omega), ?_⟩
  iterate 2 (all_goals try cbv; all_goals with_reducible repeat' first | exact True.intro | refine And.intro ?_ ?_ | intro _)
  all_goals try exact oH
  simp only [hw]

end Tryz
end Go.Proofs

