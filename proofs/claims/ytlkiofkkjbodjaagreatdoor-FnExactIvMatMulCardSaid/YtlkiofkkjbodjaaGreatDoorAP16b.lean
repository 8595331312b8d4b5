/- Contracts: products of intervals and of interval matrices, in the reference. -/
import Derived.Test.YtlkiofkkjbodjaaGreatDoorAN43a
import Derived.Test.YtlkiofkkjbodjaaGreatDoorAM15
import Derived.Test.YtlkiofkkjbodjaaGreatDoorAPeTp
set_option maxHeartbeats 4000000
set_option maxRecDepth 100000
namespace Go.Proofs
open Go Go.Pe Go.Dg
namespace Tryz
set_option linter.unusedSimpArgs false
set_option linter.unusedVariables false
variable {P : Program} {gl : List (Nat × Obj)}

theorem toNat_ltN {x : Int} {N k : Nat} (h0 : 0 ≤ x) (h1 : x < N) (h2 : N = k) : x.toNat < k := by omega

theorem l7mul_fs (C : Cx P gl) {a1 a2 b1 b2 d1 d2 : Dyadic} {s1 s2 t1 t2 u v : Bool} {p1 p2 q1 q2 r x : List PV} {e1 e2 f1 f2 g h : Int}
  (hs1 : s1 = decide (cZ a1 < 0)) (hp1 : p1 = intsL (dg (cZ a1).natAbs)) (he1 : e1 = cE a1) (hs2 : s2 = decide (cZ a2 < 0)) (hp2 : p2 = intsL (dg (cZ a2).natAbs)) (he2 : e2 = cE a2) (ht1 : t1 = decide (cZ b1 < 0)) (hq1 : q1 = intsL (dg (cZ b1).natAbs)) (hf1 : f1 = cE b1) (ht2 : t2 = decide (cZ b2 < 0)) (hq2 : q2 = intsL (dg (cZ b2).natAbs)) (hf2 : f2 = cE b2)
  (fa1 : fits a1) (fa2 : fits a2) (fb1 : fits b1) (fb2 : fits b2) (hd1 : d1 = mulLo a1 a2 b1 b2) (hd2 : d2 = mulHi a1 a2 b1 b2)
  (hu : u = decide (cZ d1 < 0)) (hr : r = intsL (dg (cZ d1).natAbs)) (hg : g = cE d1) (hv : v = decide (cZ d2 < 0)) (hx : x = intsL (dg (cZ d2).natAbs)) (hh : h = cE d2) :
  FS P gl 134 [.agg [B s1, .lst p1, I e1, B s2, .lst p2, I e2], .agg [B t1, .lst q1, I f1, B t2, .lst q2, I f2]] (· = .agg [B u, .lst r, I g, B v, .lst x, I h]) := by
 obtain ⟨eM, heM⟩ : ∃ f, f = mulE a1 a2 b1 b2 := ⟨_, rfl⟩
 have bM := fun k => mulE_can fa1 fa2 fb1 fb2 k
 rw [← heM] at bM
 have hd1' : d1 = eM (amin eM 3) := by rw [hd1, mulLo, heM]
 have hd2' : d2 = eM (amax eM 3) := by rw [hd2, mulHi, heM]
 obtain ⟨fa11, fa12, fa13⟩ := fa1
 obtain ⟨fa21, fa22, fa23⟩ := fa2
 obtain ⟨fb11, fb12, fb13⟩ := fb1
 obtain ⟨fb21, fb22, fb23⟩ := fb2
 obtain ⟨u0_, hu0_⟩ : ∃ x, x = decide (cZ (eM 0) < 0) := ⟨_, rfl⟩
 obtain ⟨r0_, hr0_⟩ : ∃ x, x = intsL (dg (cZ (eM 0)).natAbs) := ⟨_, rfl⟩
 obtain ⟨g0_, hg0_⟩ : ∃ x, x = cE (eM 0) := ⟨_, rfl⟩
 have k0_ := fun (P' : Program) (C' : Cx P' gl) => l4mul_fs C' (z1 := cZ a1) (e1 := e1) (z2 := cZ b1) (e2 := f1) hp1 hs1 hq1 ht1 (d := eM 0) (by rw [he1, hf1, mk_canon, mk_canon, heM]; rfl) hr0_ hu0_ hg0_ (by omega) (by omega) (by omega) (by omega)
 obtain ⟨u1_, hu1_⟩ : ∃ x, x = decide (cZ (eM 1) < 0) := ⟨_, rfl⟩
 obtain ⟨r1_, hr1_⟩ : ∃ x, x = intsL (dg (cZ (eM 1)).natAbs) := ⟨_, rfl⟩
 obtain ⟨g1_, hg1_⟩ : ∃ x, x = cE (eM 1) := ⟨_, rfl⟩
 have k1_ := fun (P' : Program) (C' : Cx P' gl) => l4mul_fs C' (z1 := cZ a1) (e1 := e1) (z2 := cZ b2) (e2 := f2) hp1 hs1 hq2 ht2 (d := eM 1) (by rw [he1, hf2, mk_canon, mk_canon, heM]; rfl) hr1_ hu1_ hg1_ (by omega) (by omega) (by omega) (by omega)
 obtain ⟨u2_, hu2_⟩ : ∃ x, x = decide (cZ (eM 2) < 0) := ⟨_, rfl⟩
 obtain ⟨r2_, hr2_⟩ : ∃ x, x = intsL (dg (cZ (eM 2)).natAbs) := ⟨_, rfl⟩
 obtain ⟨g2_, hg2_⟩ : ∃ x, x = cE (eM 2) := ⟨_, rfl⟩
 have k2_ := fun (P' : Program) (C' : Cx P' gl) => l4mul_fs C' (z1 := cZ a2) (e1 := e2) (z2 := cZ b1) (e2 := f1) hp2 hs2 hq1 ht1 (d := eM 2) (by rw [he2, hf1, mk_canon, mk_canon, heM]; rfl) hr2_ hu2_ hg2_ (by omega) (by omega) (by omega) (by omega)
 obtain ⟨u3_, hu3_⟩ : ∃ x, x = decide (cZ (eM 3) < 0) := ⟨_, rfl⟩
 obtain ⟨r3_, hr3_⟩ : ∃ x, x = intsL (dg (cZ (eM 3)).natAbs) := ⟨_, rfl⟩
 obtain ⟨g3_, hg3_⟩ : ∃ x, x = cE (eM 3) := ⟨_, rfl⟩
 have k3_ := fun (P' : Program) (C' : Cx P' gl) => l4mul_fs C' (z1 := cZ a2) (e1 := e2) (z2 := cZ b2) (e2 := f2) hp2 hs2 hq2 ht2 (d := eM 3) (by rw [he2, hf2, mk_canon, mk_canon, heM]; rfl) hr3_ hu3_ hg3_ (by omega) (by omega) (by omega) (by omega)
 have lm : [PV.agg [B u0_, .lst r0_, I g0_], PV.agg [B u1_, .lst r1_, I g1_], PV.agg [B u2_, .lst r2_, I g2_], PV.agg [B u3_, .lst r3_, I g3_]] = cells3 (canL eM 4) := by
  rw [show canL eM 4 = [canY (eM 0), canY (eM 1), canY (eM 2), canY (eM 3)] from rfl, hu0_, hr0_, hg0_, hu1_, hr1_, hg1_, hu2_, hr2_, hg2_, hu3_, hr3_, hg3_]; rfl
 clear hs1 hp1 he1 hs2 hp2 he2 ht1 hq1 hf1 ht2 hq2 hf2 hd1 hd2 heM fa11 fa12 fa13 fa21 fa22 fa23 fb11 fb12 fb13 fb21 fb22 fb23
 obtain ⟨rfl, hG⟩ := C
 refine FS_ofT (args := fun A => [.agg [B s1, .lst p1, I e1, B s2, .lst p2, I e2], .agg [B t1, .lst q1, I f1, B t2, .lst q2, I f2]]) (R := fun A rr => rr = .agg [B u, .lst r, I g, B v, .lst x, I h]) Tryz.hT Tryz.mix Tryz.func134 rfl rfl (Nat.le_of_ble_eq_true rfl) ?_
 generalize hP : Tryz.prog = P
 intro A hA
 have C : Tryz.Cx P gl := ⟨hP.symm, hG⟩
 have hI : intsL = A.ints := by subst hA; rfl
 iterate 2 (all_goals try cbv; all_goals with_reducible repeat' first | exact True.intro | refine And.intro ?_ ?_ | intro _)
 all_goals try exact oI
 first | (refine callS hA rfl (k0_ P C) ?_; rintro _ rfl) | refine ⟨_, k0_ P C, ?_⟩
 iterate 2 (all_goals try cbv; all_goals with_reducible repeat' first | exact True.intro | refine And.intro ?_ ?_ | intro _)
 all_goals try exact oI
 first | (refine callS hA rfl (k1_ P C) ?_; rintro _ rfl) | refine ⟨_, k1_ P C, ?_⟩
 iterate 2 (all_goals try cbv; all_goals with_reducible repeat' first | exact True.intro | refine And.intro ?_ ?_ | intro _)
 all_goals try exact oI
 first | (refine callS hA rfl (k2_ P C) ?_; rintro _ rfl) | refine ⟨_, k2_ P C, ?_⟩
 iterate 2 (all_goals try cbv; all_goals with_reducible repeat' first | exact True.intro | refine And.intro ?_ ?_ | intro _)
 all_goals try exact oI
 first | (refine callS hA rfl (k3_ P C) ?_; rintro _ rfl) | refine ⟨_, k3_ P C, ?_⟩
 clear k0_ k1_ k2_ k3_
 iterate 2 (all_goals try cbv; all_goals with_reducible repeat' first | exact True.intro | refine And.intro ?_ ?_ | intro _)
 all_goals try exact oI
 all_goals try exact okA_of hA (by intro x hx; simp only [List.mem_cons, List.not_mem_nil, or_false] at hx; rcases hx with rfl | rfl | rfl | rfl <;> exact ⟨rfl, rfl⟩)
 refine loopI hA [] (ι := Int × Bool × List PV × Int × Bool × List PV × Int × List PV) (fun x => [(5, .own 3), (7, .pv (I x.1))]) (fun x => [(3, .row 64 3 x.2.2.2.2.2.2.2), (4, .box [.pv (B x.2.1), .pv (.lst x.2.2.1), .pv (I x.2.2.2.1), .pv (B x.2.2.2.2.1), .pv (.lst x.2.2.2.2.2.1), .pv (I x.2.2.2.2.2.2.1)])]) (fun x => (4 - x.1).toNat) (fun x => 1 ≤ x.1 ∧ x.1 ≤ 4 ∧ (x.2.1 = decide (cZ (eM (amin eM (x.1.toNat - 1))) < 0) ∧ x.2.2.1 = intsL (dg (cZ (eM (amin eM (x.1.toNat - 1)))).natAbs) ∧ x.2.2.2.1 = cE (eM (amin eM (x.1.toNat - 1)))) ∧ (x.2.2.2.2.1 = decide (cZ (eM (amax eM (x.1.toNat - 1))) < 0) ∧ x.2.2.2.2.2.1 = intsL (dg (cZ (eM (amax eM (x.1.toNat - 1)))).natAbs) ∧ x.2.2.2.2.2.2.1 = cE (eM (amax eM (x.1.toNat - 1)))) ∧ x.2.2.2.2.2.2.2 = cells3 (canL eM 4)) (1, u0_, r0_, g0_, u0_, r0_, g0_, [.agg [B u0_, .lst r0_, I g0_], .agg [B u1_, .lst r1_, I g1_], .agg [B u2_, .lst r2_, I g2_], .agg [B u3_, .lst r3_, I g3_]]) (by rfl) ?_ ?_ ?_
 all_goals try exact tI
 ·exact ⟨by simp only; omega, by simp only; omega, ⟨hu0_, hr0_, hg0_⟩, ⟨hu0_, hr0_, hg0_⟩, lm⟩
 rintro ⟨i, u1, r1, g1, v1, x1, h1, qm⟩ ⟨hi0, hi1, ⟨hu1, hr1, hg1⟩, ⟨hv1, hx1, hh1⟩, hqm⟩
 simp only at hi0 hi1 hu1 hr1 hg1 hv1 hx1 hh1 hqm
 clear lm hu0_ hr0_ hg0_ hu1_ hr1_ hg1_ hu2_ hr2_ hg2_ hu3_ hr3_ hg3_
 obtain ⟨j, hj⟩ : ∃ j : Nat, j = i.toNat := ⟨_, rfl⟩
 rw [← hj] at hu1 hr1 hg1 hv1 hx1 hh1
 obtain ⟨dl, hdl⟩ : ∃ d, d = eM (amin eM (j - 1)) := ⟨_, rfl⟩
 obtain ⟨du, hdu⟩ : ∃ d, d = eM (amax eM (j - 1)) := ⟨_, rfl⟩
 rw [← hdl] at hu1 hr1 hg1
 rw [← hdu] at hv1 hx1 hh1
 obtain ⟨bl1, bl2⟩ := bM (amin eM (j - 1))
 obtain ⟨bu1, bu2⟩ := bM (amax eM (j - 1))
 obtain ⟨bl3, bl4⟩ := bM j
 rw [← hdl] at bl1 bl2
 rw [← hdu] at bu1 bu2
 have hfin : 4 ≤ i → (u1 = u ∧ r1 = r ∧ g1 = g) ∧ v1 = v ∧ x1 = x ∧ h1 = h := by
  intro h4
  have e1 : j - 1 = 3 := by omega
  rw [e1] at hdl hdu
  rw [hu, hr, hg, hv, hx, hh, hd1', hd2', ← hdl, ← hdu]
  exact ⟨⟨hu1, hr1, hg1⟩, hv1, hx1, hh1⟩
 obtain ⟨cl, hcl⟩ : ∃ c, c = cmpD dl (eM j) := ⟨_, rfl⟩
 obtain ⟨cu, hcu⟩ : ∃ c, c = cmpD du (eM j) := ⟨_, rfl⟩
 have nl1 : cl ≤ 0 → eM (amin eM j) = dl := fun h => by rw [show j = (j - 1) + 1 by omega, amin_ne (by rw [← hdl, show j - 1 + 1 = j by omega, ← hcl]; exact h), hdl]
 have nl2 : ¬cl ≤ 0 → eM (amin eM j) = eM j := fun h => by
  have := amin_eq (d := eM) (k := j - 1) (by rw [← hdl, show j - 1 + 1 = j by omega, ← hcl]; exact h)
  rw [show j - 1 + 1 = j by omega] at this
  rw [this]
 have nu1 : 0 ≤ cu → eM (amax eM j) = du := fun h => by rw [show j = (j - 1) + 1 by omega, amax_ne (by rw [← hdu, show j - 1 + 1 = j by omega, ← hcu]; exact h), hdu]
 have nu2 : ¬0 ≤ cu → eM (amax eM j) = eM j := fun h => by
  have := amax_eq (d := eM) (k := j - 1) (by rw [← hdu, show j - 1 + 1 = j by omega, ← hcu]; exact h)
  rw [show j - 1 + 1 = j by omega] at this
  rw [this]
 obtain ⟨u2, hu2⟩ : ∃ x, x = decide (cZ (eM j) < 0) := ⟨_, rfl⟩
 obtain ⟨r2, hr2⟩ : ∃ x, x = intsL (dg (cZ (eM j)).natAbs) := ⟨_, rfl⟩
 obtain ⟨g2, hg2⟩ : ∃ x, x = cE (eM j) := ⟨_, rfl⟩
 obtain ⟨u3, hu3⟩ : ∃ x, x = decide (cZ (eM (amin eM j)) < 0) := ⟨_, rfl⟩
 obtain ⟨r3, hr3⟩ : ∃ x, x = intsL (dg (cZ (eM (amin eM j))).natAbs) := ⟨_, rfl⟩
 obtain ⟨g3, hg3⟩ : ∃ x, x = cE (eM (amin eM j)) := ⟨_, rfl⟩
 obtain ⟨v3, hv3⟩ : ∃ x, x = decide (cZ (eM (amax eM j)) < 0) := ⟨_, rfl⟩
 obtain ⟨x3, hx3⟩ : ∃ x, x = intsL (dg (cZ (eM (amax eM j))).natAbs) := ⟨_, rfl⟩
 obtain ⟨h3, hh3⟩ : ∃ x, x = cE (eM (amax eM j)) := ⟨_, rfl⟩
 have cLess := fun (P' : Program) (C' : Cx P' gl) => l7less_fs C' (z1 := cZ dl) (z2 := cZ (eM j)) (c := cl) (u := u3) (r := r3) (g := g3) hr1 hu1 hr2 hu2 (e := g1) (f := g2) (by rw [hg1, hg2, mk_canon, mk_canon]; exact hcl)
  (fun h => by rw [hu3, hr3, hg3, nl1 h]; exact ⟨hu1.symm, hr1.symm, hg1.symm⟩) (fun h => by rw [hu3, hr3, hg3, nl2 h]; exact ⟨hu2.symm, hr2.symm, hg2.symm⟩) (by omega) (by omega) (by omega) (by omega)
 have cMore := fun (P' : Program) (C' : Cx P' gl) => l7more_fs C' (z1 := cZ du) (z2 := cZ (eM j)) (c := cu) (u := v3) (r := x3) (g := h3) hx1 hv1 hr2 hu2 (e := h1) (f := g2) (by rw [hh1, hg2, mk_canon, mk_canon]; exact hcu)
  (fun h => by rw [hv3, hx3, hh3, nu1 h]; exact ⟨hv1.symm, hx1.symm, hh1.symm⟩) (fun h => by rw [hv3, hx3, hh3, nu2 h]; exact ⟨hu2.symm, hr2.symm, hg2.symm⟩) (by omega) (by omega) (by omega) (by omega)
 have hga : j < 4 → (canL eM 4).getD j noY = canY (eM j) := fun h => canL_get h
 have hel2 : ∀ _ : Unit, i < 4 → A.gb (A.el qm (A.nat i)) 0 = u2 ∧ A.gl (A.el qm (A.nat i)) 1 = r2 ∧ A.gi (A.el qm (A.nat i)) 2 = g2 := by
  intro _ h4
  have w1 : A.el qm (A.nat i) = cell3 (canY (eM j)) := by
   rw [hqm, ← hga (by omega), hj]
   subst hA
   exact c3el (show i.toNat < (canL eM 4).length by rw [canL_len]; omega)
  rw [w1, hu2, hr2, hg2]
  subst hA
  exact ⟨rfl, rfl, rfl⟩
 have hql1 : qm.length = 4 := by rw [hqm, c3len, canL_len]
 have hinv : i < 4 → 1 ≤ i + 1 ∧ i + 1 ≤ 4 ∧ (u3 = decide (cZ (eM (amin eM ((i + 1).toNat - 1))) < 0) ∧ r3 = intsL (dg (cZ (eM (amin eM ((i + 1).toNat - 1)))).natAbs) ∧ g3 = cE (eM (amin eM ((i + 1).toNat - 1)))) ∧
   (v3 = decide (cZ (eM (amax eM ((i + 1).toNat - 1))) < 0) ∧ x3 = intsL (dg (cZ (eM (amax eM ((i + 1).toNat - 1)))).natAbs) ∧ h3 = cE (eM (amax eM ((i + 1).toNat - 1)))) := by
  intro h4
  rw [show (i + 1).toNat - 1 = j by omega]
  exact ⟨by omega, by omega, ⟨hu3, hr3, hg3⟩, hv3, hx3, hh3⟩
 clear hu1 hr1 hg1 hv1 hx1 hh1 hu2 hr2 hg2 hu3 hr3 hg3 hv3 hx3 hh3 hcl hcu nl1 nl2 nu1 nu2 hdl hdu bM bl1 bl2 bl3 bl4 bu1 bu2 hd1' hd2' hu hr hg hv hx hh hga hj
 iterate 2 (all_goals try cbv; all_goals with_reducible repeat' first | exact True.intro | refine And.intro ?_ ?_ | intro _)
 all_goals try exact oI
 ·rename_i g
  have h4 : i < 4 := by clear hinv hfin hel2; (subst hA; subst_vars; simp only [AR.std, natCast_eq, sI, reduceCtorEq] at *; try simp (disch := omega) only [AR.std, natCast_eq, sI, reduceCtorEq] at *); omega
  obtain ⟨w1, w2, w3⟩ := hel2 () h4
  have hin := hinv h4
  clear hinv hfin hel2
  all_goals try simp only [w1, w2, w3]
  first | (refine callS hA rfl (cLess P C) ?_; rintro _ rfl) | refine ⟨_, cLess P C, ?_⟩
  iterate 2 (all_goals try cbv; all_goals with_reducible repeat' first | exact True.intro | refine And.intro ?_ ?_ | intro _)
  all_goals try exact oI
  all_goals try simp only [w1, w2, w3]
  first | (refine callS hA rfl (cMore P C) ?_; rintro _ rfl) | refine ⟨_, cMore P C, ?_⟩
  iterate 2 (all_goals try cbv; all_goals with_reducible repeat' first | exact True.intro | refine And.intro ?_ ?_ | intro _)
  all_goals try exact oI
  clear w1 w2 w3
  obtain ⟨y1, hy1⟩ : ∃ y, y = i + 1 := ⟨_, rfl⟩
  obtain ⟨y2, hy2⟩ : ∃ y, y = u3 := ⟨_, rfl⟩
  obtain ⟨y3, hy3⟩ : ∃ y, y = r3 := ⟨_, rfl⟩
  obtain ⟨y4, hy4⟩ : ∃ y, y = g3 := ⟨_, rfl⟩
  obtain ⟨y5, hy5⟩ : ∃ y, y = v3 := ⟨_, rfl⟩
  obtain ⟨y6, hy6⟩ : ∃ y, y = x3 := ⟨_, rfl⟩
  obtain ⟨y7, hy7⟩ : ∃ y, y = h3 := ⟨_, rfl⟩
  obtain ⟨y8, hy8⟩ : ∃ y, y = qm := ⟨_, rfl⟩
  refine ⟨⟨(y1, y2, y3, y4, y5, y6, y7, y8), ?_⟩, ?_, ?_⟩
  rotate_left
  ·cbv
   exact nI
  ·(subst hA; subst_vars; simp only [AR.std, natCast_eq, sI, reduceCtorEq] at *; try simp (disch := omega) only [AR.std, natCast_eq, sI, reduceCtorEq] at *); omega
  ·rw [hy1, hy2, hy3, hy4, hy5, hy6, hy7, hy8]
   obtain ⟨m1, m2, m3, m4⟩ := hin
   exact ⟨m1, m2, m3, m4, hqm⟩
 ·rename_i g
  obtain ⟨⟨e1, e2, e3⟩, e4, e5, e6⟩ := hfin (by clear hinv hfin hel2; (subst hA; subst_vars; simp only [AR.std, natCast_eq, sI, reduceCtorEq] at *; try simp (disch := omega) only [AR.std, natCast_eq, sI, reduceCtorEq] at *); omega)
  rw [e1, e2, e3, e4, e5, e6]

theorem mulStepV {gl : List (Nat × Obj)} {vs ws : List Cell6} {m i j : Nat} (hva : allV vs) (hwa : allV ws) (hm4 : m ≤ 4) (hvl : vs.length = m * m) (hwl : ws.length = m * m) (hi : i < m) (hj : j < m) (k : Nat) (hk : k < m) :
  (∀ P', Cx P' gl → FS P' gl 134 [cell6 (vs.getD (i * m + k) noV), cell6 (ws.getD (k * m + j) noV)] (· = cell6 (canY (ivLo m (dvA vs) (dvB vs) (dvA ws) (dvB ws) i j k), canY (ivHi m (dvA vs) (dvB vs) (dvA ws) (dvB ws) i j k)))) ∧
  (∀ P', Cx P' gl → FS P' gl 133 [cell6 (canY (psum (ivLo m (dvA vs) (dvB vs) (dvA ws) (dvB ws) i j) k), canY (psum (ivHi m (dvA vs) (dvB vs) (dvA ws) (dvB ws) i j) k)), cell6 (canY (ivLo m (dvA vs) (dvB vs) (dvA ws) (dvB ws) i j k), canY (ivHi m (dvA vs) (dvB vs) (dvA ws) (dvB ws) i j k))]
   (· = cell6 (canY (psum (ivLo m (dvA vs) (dvB vs) (dvA ws) (dvB ws) i j) (k + 1)), canY (psum (ivHi m (dvA vs) (dvB vs) (dvA ws) (dvB ws) i j) (k + 1))))) := by
 obtain ⟨g1, g2⟩ := allV_fits hva (k := i * m + k) (by rw [hvl]; exact place_lt hi hk)
 obtain ⟨g3, g4⟩ := allV_fits hwa (k := k * m + j) (by rw [hwl]; exact place_lt hk hj)
 refine ⟨fun P' C' => ?_, fun P' C' => ?_⟩
 ·rw [endV hva (k := i * m + k) (by rw [hvl]; exact place_lt hi hk), endV hwa (k := k * m + j) (by rw [hwl]; exact place_lt hk hj)]
  exact l7mul_fs C' rfl rfl rfl rfl rfl rfl rfl rfl rfl rfl rfl rfl g1 g2 g3 g4 rfl rfl rfl rfl rfl rfl rfl rfl
 ·obtain ⟨⟨b1, b2⟩, b3, b4⟩ := ivm_psum hva hwa hvl hwl hm4 hi hj k (by omega)
  obtain ⟨⟨y1, x1⟩, y2, x2⟩ := ivm_X hva hwa hvl hwl hi hj k hk
  have b5 := X_can x1
  have b6 := X_cE x1
  have b7 := X_can x2
  have b8 := X_cE x2
  exact l7add_fs C' (y1 := cZ (psum (ivLo m (dvA vs) (dvB vs) (dvA ws) (dvB ws) i j) k)) (y2 := cZ (psum (ivHi m (dvA vs) (dvB vs) (dvA ws) (dvB ws) i j) k)) (y3 := cZ (ivLo m (dvA vs) (dvB vs) (dvA ws) (dvB ws) i j k)) (y4 := cZ (ivHi m (dvA vs) (dvB vs) (dvA ws) (dvB ws) i j k)) rfl rfl rfl rfl rfl rfl rfl rfl
   (d1 := psum (ivLo m (dvA vs) (dvB vs) (dvA ws) (dvB ws) i j) (k + 1)) (d2 := psum (ivHi m (dvA vs) (dvB vs) (dvA ws) (dvB ws) i j) (k + 1))
   (by show psum _ k + _ = mk _ (cE _) + mk _ (cE _); rw [mk_canon, mk_canon]) (by show psum _ k + _ = mk _ (cE _) + mk _ (cE _); rw [mk_canon, mk_canon]) rfl rfl rfl rfl rfl rfl
   (by show (cE (psum (ivLo m (dvA vs) (dvB vs) (dvA ws) (dvB ws) i j) k)).natAbs ≤ _; omega) (by show (cE (psum (ivHi m (dvA vs) (dvB vs) (dvA ws) (dvB ws) i j) k)).natAbs ≤ _; omega) (by show (cE (ivLo m (dvA vs) (dvB vs) (dvA ws) (dvB ws) i j k)).natAbs ≤ _; omega) (by show (cE (ivHi m (dvA vs) (dvB vs) (dvA ws) (dvB ws) i j k)).natAbs ≤ _; omega) (by omega) (by omega) (by omega) (by omega)

theorem sw_at (n : Int) (vs ws : List Cell6) {w i j : Nat} (hw : w = n.toNat) (hj : j < w) : ivmLo n vs ws (i * w + j) = psum (ivLo w (dvA vs) (dvB vs) (dvA ws) (dvB ws) i j) w ∧ ivmHi n vs ws (i * w + j) = psum (ivHi w (dvA vs) (dvB vs) (dvA ws) (dvB ws) i j) w := by
 subst hw
 exact times_at hj

theorem l10mul_fs (C : Cx P gl) {vs ws : List Cell6} {p q r : List PV} {n m : Int} (hp : p = cells6 vs) (hq : q = cells6 ws) (hr : r = cells6 (canV (ivmLo n vs ws) (ivmHi n vs ws) vs.length)) (hn1 : 1 ≤ n) (hn4 : n ≤ 4) (hvl : (vs.length : Int) = n * n) (hwl : (ws.length : Int) = n * n) (hva : allV vs) (hwa : allV ws) :
  FS P gl 62 [.agg [I n, .lst p], .agg [I m, .lst q]] (· = .agg [I n, .lst r]) := by
 have hn : 0 ≤ n := by omega
 have hnn : n * n = ((n.toNat * n.toNat : Nat) : Int) := by rw [Int.natCast_mul, Int.toNat_of_nonneg hn]
 obtain ⟨w, hw⟩ : ∃ w, w = n.toNat := ⟨_, rfl⟩
 obtain ⟨N, hN⟩ : ∃ N, N = vs.length := ⟨_, rfl⟩
 rw [← hw] at hnn
 have hw4 : w ≤ 4 := by omega
 have hNw : N = w * w := by omega
 have hww : w * w ≤ 4 * 4 := Nat.mul_le_mul hw4 hw4
 obtain ⟨u0, hu0⟩ : ∃ u, u = cells6 (List.replicate N noV) := ⟨_, rfl⟩
 have hnew := fun (P' : Program) (C' : Cx P' gl) => l10new_fn C' (n := n) (u := u0) hn (by omega) (by rw [hu0, hNw, hnn]; rfl)
 obtain ⟨G, hG⟩ : ∃ G : Nat → List PV, G = fun k => cells6 (partV (ivmLo n vs ws) (ivmHi n vs ws) N k) := ⟨_, rfl⟩
 have hG0 : u0 = G 0 := by rw [hG, hu0]; simp only [partV_zero]
 have hGN : G (w * w) = r := by rw [hG, hr, ← hN, ← hNw]; simp only [partV_all]
 have hGl : ∀ k, k ≤ N → (G k).length = N := by intro k hk; rw [hG]; simp only [c6len]; exact partV_len hk
 have hmul : ∀ a b : Int, 0 ≤ a → 0 ≤ b → a < n → b < n → (a * n + b).toNat = a.toNat * w + b.toNat ∧ a.toNat * w + b.toNat < N ∧ a * n + b = ((a.toNat * w + b.toNat : Nat) : Int) := by
  intro a b h1 h2 h3 h4
  have e1 : a * n = ((a.toNat * w : Nat) : Int) := by rw [Int.natCast_mul, hw, Int.toNat_of_nonneg h1, Int.toNat_of_nonneg hn]
  have := place_lt (n := w) (i := a.toNat) (j := b.toNat) (by omega) (by omega)
  omega
 have hbnd : ∀ a b : Int, 0 ≤ a → 0 ≤ b → a < n → b < n → 0 ≤ a * n ∧ a * n ≤ 16 ∧ a * n + b < N := by
  intro a b h1 h2 h3 h4
  obtain ⟨g1, g2, g3⟩ := hmul a b h1 h2 h3 h4
  have := Int.mul_nonneg h1 hn
  omega
 have hpl : p.length = N := by rw [hp, c6len, hN]
 have hql : q.length = N := by rw [hq, c6len]; omega
 have hzN : ws.length = N := by omega
 have hstep : ∀ (i j k : Int), 0 ≤ i → 0 ≤ j → 0 ≤ k → i < n → j < n → k < n → ∃ (x y : Int) (s1 s2 t1 t2 u1 u2 b1 b2 : Bool) (p1 p2 q1 q2 x1 x2 z1 z2 : List PV) (e1 e2 f1 f2 g1 g2 d1 d2 : Int), (x = i * n + k ∧ y = k * n + j ∧ 0 ≤ x ∧ x < N ∧ 0 ≤ y ∧ y < N) ∧ (∃ v, vs.getD x.toNat noV = v ∧ cell6 v = .agg [B s1, .lst p1, I e1, B s2, .lst p2, I e2]) ∧ (∃ v, ws.getD y.toNat noV = v ∧ cell6 v = .agg [B t1, .lst q1, I f1, B t2, .lst q2, I f2]) ∧ (∀ P', Cx P' gl → FS P' gl 134 [.agg [B s1, .lst p1, I e1, B s2, .lst p2, I e2], .agg [B t1, .lst q1, I f1, B t2, .lst q2, I f2]] (· = .agg [B u1, .lst x1, I g1, B u2, .lst x2, I g2])) ∧ (∀ (P' : Program) (a1 a2 : Bool) (r1 r2 : List PV) (h1 h2 : Int), Cx P' gl → ((a1 = (canY (psum (ivLo w (dvA vs) (dvB vs) (dvA ws) (dvB ws) i.toNat j.toNat) k.toNat)).1 ∧ r1 = intsL (canY (psum (ivLo w (dvA vs) (dvB vs) (dvA ws) (dvB ws) i.toNat j.toNat) k.toNat)).2.1 ∧ h1 = (canY (psum (ivLo w (dvA vs) (dvB vs) (dvA ws) (dvB ws) i.toNat j.toNat) k.toNat)).2.2) ∧ a2 = (canY (psum (ivHi w (dvA vs) (dvB vs) (dvA ws) (dvB ws) i.toNat j.toNat) k.toNat)).1 ∧ r2 = intsL (canY (psum (ivHi w (dvA vs) (dvB vs) (dvA ws) (dvB ws) i.toNat j.toNat) k.toNat)).2.1 ∧ h2 = (canY (psum (ivHi w (dvA vs) (dvB vs) (dvA ws) (dvB ws) i.toNat j.toNat) k.toNat)).2.2) → FS P' gl 133 [.agg [B a1, .lst r1, I h1, B a2, .lst r2, I h2], .agg [B u1, .lst x1, I g1, B u2, .lst x2, I g2]] (· = .agg [B b1, .lst z1, I d1, B b2, .lst z2, I d2])) ∧ (b1 = (canY (psum (ivLo w (dvA vs) (dvB vs) (dvA ws) (dvB ws) i.toNat j.toNat) (k + 1).toNat)).1 ∧ z1 = intsL (canY (psum (ivLo w (dvA vs) (dvB vs) (dvA ws) (dvB ws) i.toNat j.toNat) (k + 1).toNat)).2.1 ∧ d1 = (canY (psum (ivLo w (dvA vs) (dvB vs) (dvA ws) (dvB ws) i.toNat j.toNat) (k + 1).toNat)).2.2) ∧ b2 = (canY (psum (ivHi w (dvA vs) (dvB vs) (dvA ws) (dvB ws) i.toNat j.toNat) (k + 1).toNat)).1 ∧ z2 = intsL (canY (psum (ivHi w (dvA vs) (dvB vs) (dvA ws) (dvB ws) i.toNat j.toNat) (k + 1).toNat)).2.1 ∧ d2 = (canY (psum (ivHi w (dvA vs) (dvB vs) (dvA ws) (dvB ws) i.toNat j.toNat) (k + 1).toNat)).2.2 := by
  intro i j k hi0 hj0 hk0 hi hj hk
  obtain ⟨x1, x2, x3⟩ := hmul i k hi0 hk0 hi hk
  obtain ⟨y1, y2, y3⟩ := hmul k j hk0 hj0 hk hj
  obtain ⟨m1, m2⟩ := mulStepV (gl := gl) hva hwa hw4 (by omega) (by omega) (i := i.toNat) (j := j.toNat) (by omega) (by omega) k.toNat (by omega)
  obtain ⟨v, hv⟩ : ∃ v, v = vs.getD (i.toNat * w + k.toNat) noV := ⟨_, rfl⟩
  obtain ⟨u, hu⟩ : ∃ v, v = ws.getD (k.toNat * w + j.toNat) noV := ⟨_, rfl⟩
  rw [← hv, ← hu] at m1
  refine ⟨i * n + k, k * n + j, v.1.1, v.2.1, u.1.1, u.2.1, _, _, _, _, intsL v.1.2.1, intsL v.2.2.1, intsL u.1.2.1, intsL u.2.2.1, _, _, _, _, v.1.2.2, v.2.2.2, u.1.2.2, u.2.2.2, _, _, _, _, ⟨rfl, rfl, by omega, by omega, by omega, by omega⟩, ⟨v, by rw [x1, hv], rfl⟩, ⟨u, by rw [y1, hu], rfl⟩, fun P' C' => m1 P' C', ?_, ⟨rfl, rfl, rfl⟩, rfl, rfl, rfl⟩
  rintro P' a1 a2 r1 r2 h1 h2 C' ⟨⟨k1, k2, k3⟩, k4, k5, k6⟩
  rw [k1, k2, k3, k4, k5, k6, show (k + 1).toNat = k.toNat + 1 by omega]
  exact m2 P' C'
 have hset : ∀ (i j : Int) (t : List PV) (a1 a2 : Bool) (r1 r2 : List PV) (h1 h2 : Int), 0 ≤ i → 0 ≤ j → i < n → j < n → t = G (i.toNat * w + j.toNat) → ((a1 = (canY (psum (ivLo w (dvA vs) (dvB vs) (dvA ws) (dvB ws) i.toNat j.toNat) w)).1 ∧ r1 = intsL (canY (psum (ivLo w (dvA vs) (dvB vs) (dvA ws) (dvB ws) i.toNat j.toNat) w)).2.1 ∧ h1 = (canY (psum (ivLo w (dvA vs) (dvB vs) (dvA ws) (dvB ws) i.toNat j.toNat) w)).2.2) ∧ a2 = (canY (psum (ivHi w (dvA vs) (dvB vs) (dvA ws) (dvB ws) i.toNat j.toNat) w)).1 ∧ r2 = intsL (canY (psum (ivHi w (dvA vs) (dvB vs) (dvA ws) (dvB ws) i.toNat j.toNat) w)).2.1 ∧ h2 = (canY (psum (ivHi w (dvA vs) (dvB vs) (dvA ws) (dvB ws) i.toNat j.toNat) w)).2.2) →
   ∃ x : Int, x = i * n + j ∧ 0 ≤ x ∧ x < N ∧ t.set x.toNat (.agg [B a1, .lst r1, I h1, B a2, .lst r2, I h2]) = G (i.toNat * w + (j + 1).toNat) := by
  rintro i j t a1 a2 r1 r2 h1 h2 hi0 hj0 hi hj ht ⟨⟨k1, k2, k3⟩, k4, k5, k6⟩
  obtain ⟨x1, x2, x3⟩ := hmul i j hi0 hj0 hi hj
  refine ⟨_, rfl, by omega, by omega, ?_⟩
  obtain ⟨g1, g2⟩ := sw_at n vs ws (i := i.toNat) (j := j.toNat) hw (by omega)
  rw [← g1] at k1 k2 k3
  rw [← g2] at k4 k5 k6
  rw [x1, k1, k2, k3, k4, k5, k6, ht, show (j + 1).toNat = j.toNat + 1 by omega, ← Nat.add_assoc, hG]
  simp only
  rw [← partV_set x2, ← c6set]
  rfl
 clear hvl hwl hnn hr hu0 hG hmul hva hwa
 obtain ⟨rfl, hG⟩ := C
 refine FS_ofT (args := fun A => [.agg [I n, .lst p], .agg [I m, .lst q]]) (R := fun A rr => rr = .agg [I n, .lst r]) Tryz.hT Tryz.mix Tryz.func62 rfl rfl (Nat.le_of_ble_eq_true rfl) ?_
 generalize hP : Tryz.prog = P
 intro A hA
 have C : Tryz.Cx P gl := ⟨hP.symm, hG⟩
 have hI : intsL = A.ints := by subst hA; rfl
 iterate 2 (all_goals try cbv; all_goals with_reducible repeat' first | exact True.intro | refine And.intro ?_ ?_ | intro _)
 all_goals try exact oI
 refine callN hA rfl (hnew P C) ?_; rintro _ _ ⟨rfl, rfl⟩; refine ⟨rfl, ?_⟩
 clear hnew
 iterate 2 (all_goals try cbv; all_goals with_reducible repeat' first | exact True.intro | refine And.intro ?_ ?_ | intro _)
 all_goals try exact oI
 refine loopI hA [] (ι := Int × List PV) (fun x => [(7, .pv (I x.1))]) (fun x => [(3, .row 110 6 x.2)]) (fun x => (n - x.1).toNat) (fun x => 0 ≤ x.1 ∧ x.1 ≤ n ∧ x.2 = G (x.1.toNat * w)) (0, u0) (by rfl) ?_ ?_ ?_
 all_goals try exact tI
 ·exact ⟨Int.le_refl _, hn, by rw [hG0]; simp only [Int.toNat_zero, Nat.zero_mul]⟩
 rintro ⟨i, t⟩ ⟨hi0, hi1, ht⟩
 simp only at hi0 hi1 ht
 clear hG0
 have t0 : t = G (i.toNat * w + (0 : Int).toNat) := by rw [ht]; simp only [Int.toNat_zero, Nat.add_zero]
 have hexi : i = n → t = r := by intro h; rw [ht, h, ← hw, hGN]
 clear ht
 iterate 2 (all_goals try cbv; all_goals with_reducible repeat' first | exact True.intro | refine And.intro ?_ ?_ | intro _)
 all_goals try exact oI
 ·rename_i g
  have gi : i < n := by clear hstep hset hexi hGl hGN t0; (subst hA; subst_vars; simp only [AR.std, natCast_eq, sI, reduceCtorEq] at *; try simp (disch := omega) only [AR.std, natCast_eq, sI, reduceCtorEq] at *); omega
  have hi2 : i + 1 ≤ n := by omega
  clear g hexi
  refine loopI hA [] (ι := Int × List PV) (fun x => [(8, .pv (I x.1))]) (fun x => [(3, .row 110 6 x.2)]) (fun x => (n - x.1).toNat) (fun x => 0 ≤ x.1 ∧ x.1 ≤ n ∧ x.2 = G (i.toNat * w + x.1.toNat)) (0, t) (by rfl) ?_ ?_ ?_
  all_goals try exact tI
  ·exact ⟨Int.le_refl _, hn, t0⟩
  rintro ⟨j, t2⟩ ⟨hj0, hj1, ht2⟩
  simp only at hj0 hj1 ht2
  clear t0
  have ht2l : t2.length = N := by
   rw [ht2]
   refine hGl _ ?_
   have := Nat.mul_le_mul_right w (show i.toNat + 1 ≤ w by omega)
   rw [Nat.add_mul, Nat.one_mul] at this
   omega
  have hexj : j = n → t2 = G ((i + 1).toNat * w) := by intro h; rw [ht2, h, ← hw, show (i + 1).toNat = i.toNat + 1 by omega, Nat.add_mul, Nat.one_mul]
  iterate 2 (all_goals try cbv; all_goals with_reducible repeat' first | exact True.intro | refine And.intro ?_ ?_ | intro _)
  all_goals try exact oI
  ·rename_i g
   have gj : j < n := by clear hstep hset hexj hGl hGN ht2 ht2l; (subst hA; subst_vars; simp only [AR.std, natCast_eq, sI, reduceCtorEq] at *; try simp (disch := omega) only [AR.std, natCast_eq, sI, reduceCtorEq] at *); omega
   have hj2 : j + 1 ≤ n := by omega
   clear g hexj
   refine loopI hA [.nilc 5 1, .nilc 5 4] (ι := Int × Bool × List PV × Int × Bool × List PV × Int) (fun x => [(10, .pv (I x.1))]) (fun x => [(5, .box [.pv (B x.2.1), .pv (.lst x.2.2.1), .pv (I x.2.2.2.1), .pv (B x.2.2.2.2.1), .pv (.lst x.2.2.2.2.2.1), .pv (I x.2.2.2.2.2.2)])]) (fun x => (n - x.1).toNat) (fun x => 0 ≤ x.1 ∧ x.1 ≤ n ∧ (x.2.1 = (canY (psum (ivLo w (dvA vs) (dvB vs) (dvA ws) (dvB ws) i.toNat j.toNat) x.1.toNat)).1 ∧ x.2.2.1 = intsL (canY (psum (ivLo w (dvA vs) (dvB vs) (dvA ws) (dvB ws) i.toNat j.toNat) x.1.toNat)).2.1 ∧ x.2.2.2.1 = (canY (psum (ivLo w (dvA vs) (dvB vs) (dvA ws) (dvB ws) i.toNat j.toNat) x.1.toNat)).2.2) ∧ x.2.2.2.2.1 = (canY (psum (ivHi w (dvA vs) (dvB vs) (dvA ws) (dvB ws) i.toNat j.toNat) x.1.toNat)).1 ∧ x.2.2.2.2.2.1 = intsL (canY (psum (ivHi w (dvA vs) (dvB vs) (dvA ws) (dvB ws) i.toNat j.toNat) x.1.toNat)).2.1 ∧ x.2.2.2.2.2.2 = (canY (psum (ivHi w (dvA vs) (dvB vs) (dvA ws) (dvB ws) i.toNat j.toNat) x.1.toNat)).2.2) (0, false, [], 0, false, [], 0) (by rfl) ?_ ?_ ?_
   all_goals try exact tI
   ·refine ⟨Int.le_refl _, hn, ⟨?_, ?_, ?_⟩, ?_, ?_, ?_⟩ <;> simp only [Int.toNat_zero, psum, canY_zero] <;> rfl
   rintro ⟨k, a1, r1, h1, a2, r2, h2⟩ ⟨hk0, hk1, hks⟩
   simp only at hk0 hk1 hks
   obtain ⟨b1, b2, b3⟩ := hbnd i j hi0 hj0 gi gj
   have b4 : k < n → i * n + k < N := fun h => (hbnd i k hi0 hk0 gi h).2.2
   have b5 : k < n → 0 ≤ k * n ∧ k * n ≤ 16 ∧ k * n + j < N := fun h => hbnd k j hk0 hj0 h gj
   have hexk : k = n → ∃ x : Int, x = i * n + j ∧ 0 ≤ x ∧ x < N ∧ t2.set x.toNat (.agg [B a1, .lst r1, I h1, B a2, .lst r2, I h2]) = G (i.toNat * w + (j + 1).toNat) := by
    intro h
    have hkw : k.toNat = w := by rw [h, hw]
    rw [hkw] at hks
    exact hset i j t2 a1 a2 r1 r2 h1 h2 hi0 hj0 gi gj ht2 hks
   have hst : ∀ _ : Unit, k < n → ∃ (x y : Int) (s1 s2 t1 t2 u1 u2 b1 b2 : Bool) (p1 p2 q1 q2 x1 x2 z1 z2 : List PV) (e1 e2 f1 f2 g1 g2 d1 d2 : Int), (x = i * n + k ∧ y = k * n + j ∧ 0 ≤ x ∧ x < N ∧ 0 ≤ y ∧ y < N) ∧
     ((A.gb (A.el p (A.nat x)) 0 = s1 ∧ A.gl (A.el p (A.nat x)) 1 = p1 ∧ A.gi (A.el p (A.nat x)) 2 = e1) ∧ A.gb (A.el p (A.nat x)) 3 = s2 ∧ A.gl (A.el p (A.nat x)) 4 = p2 ∧ A.gi (A.el p (A.nat x)) 5 = e2) ∧
     ((A.gb (A.el q (A.nat y)) 0 = t1 ∧ A.gl (A.el q (A.nat y)) 1 = q1 ∧ A.gi (A.el q (A.nat y)) 2 = f1) ∧ A.gb (A.el q (A.nat y)) 3 = t2 ∧ A.gl (A.el q (A.nat y)) 4 = q2 ∧ A.gi (A.el q (A.nat y)) 5 = f2) ∧
     (∀ P', Cx P' gl → FS P' gl 134 [.agg [B s1, .lst p1, I e1, B s2, .lst p2, I e2], .agg [B t1, .lst q1, I f1, B t2, .lst q2, I f2]] (· = .agg [B u1, .lst x1, I g1, B u2, .lst x2, I g2])) ∧ (∀ P', Cx P' gl → FS P' gl 133 [.agg [B a1, .lst r1, I h1, B a2, .lst r2, I h2], .agg [B u1, .lst x1, I g1, B u2, .lst x2, I g2]] (· = .agg [B b1, .lst z1, I d1, B b2, .lst z2, I d2])) ∧ (b1 = (canY (psum (ivLo w (dvA vs) (dvB vs) (dvA ws) (dvB ws) i.toNat j.toNat) (k + 1).toNat)).1 ∧ z1 = intsL (canY (psum (ivLo w (dvA vs) (dvB vs) (dvA ws) (dvB ws) i.toNat j.toNat) (k + 1).toNat)).2.1 ∧ d1 = (canY (psum (ivLo w (dvA vs) (dvB vs) (dvA ws) (dvB ws) i.toNat j.toNat) (k + 1).toNat)).2.2) ∧ b2 = (canY (psum (ivHi w (dvA vs) (dvB vs) (dvA ws) (dvB ws) i.toNat j.toNat) (k + 1).toNat)).1 ∧ z2 = intsL (canY (psum (ivHi w (dvA vs) (dvB vs) (dvA ws) (dvB ws) i.toNat j.toNat) (k + 1).toNat)).2.1 ∧ d2 = (canY (psum (ivHi w (dvA vs) (dvB vs) (dvA ws) (dvB ws) i.toNat j.toNat) (k + 1).toNat)).2.2 := by
    intro _ hk
    obtain ⟨x, y, s1, s2, t1, t2, u1, u2, b1, b2, p1, p2, q1, q2, x1, x2, z1, z2, e1, e2, f1, f2, g1, g2, d1, d2, ⟨m1, m2, m3, m4, m5, m6⟩, ⟨v, hv, m7⟩, ⟨y9, hy9, m8⟩, m9, m10, m11⟩ := hstep i j k hi0 hj0 hk0 gi gj hk
    have w1 : A.el p (A.nat x) = .agg [B s1, .lst p1, I e1, B s2, .lst p2, I e2] := by rw [← m7, ← hv, hp]; subst hA; exact c6el (toNat_ltN m3 m4 hN)
    have w2 : A.el q (A.nat y) = .agg [B t1, .lst q1, I f1, B t2, .lst q2, I f2] := by rw [← m8, ← hy9, hq]; subst hA; exact c6el (toNat_ltN m5 m6 hzN.symm)
    refine ⟨x, y, s1, s2, t1, t2, u1, u2, b1, b2, p1, p2, q1, q2, x1, x2, z1, z2, e1, e2, f1, f2, g1, g2, d1, d2, ⟨m1, m2, m3, m4, m5, m6⟩, ?_, ?_, m9, fun P' C' => m10 P' a1 a2 r1 r2 h1 h2 C' hks, m11⟩
    ·rw [w1]; subst hA; exact ⟨⟨rfl, rfl, rfl⟩, rfl, rfl, rfl⟩
    ·rw [w2]; subst hA; exact ⟨⟨rfl, rfl, rfl⟩, rfl, rfl, rfl⟩
   clear hks hstep hset ht2 hbnd
   iterate 2 (all_goals try cbv; all_goals with_reducible repeat' first | exact True.intro | refine And.intro ?_ ?_ | intro _)
   all_goals try exact oI
   ·rename_i g
    have gk : k < n := by clear hst hexk hGl hGN; (subst hA; subst_vars; simp only [AR.std, natCast_eq, sI, reduceCtorEq] at *; try simp (disch := omega) only [AR.std, natCast_eq, sI, reduceCtorEq] at *); omega
    have hk2 : k + 1 ≤ n := by omega
    obtain ⟨x, y, s1, s2, t1, t2, u1, u2, b1, b2, p1, p2, q1, q2, x1, x2, z1, z2, e1, e2, f1, f2, g1, g2, d1, d2, ⟨m1, m2, m3, m4, m5, m6⟩, ⟨⟨c1, c2, c3⟩, c4, c5, c6⟩, ⟨⟨c7, c8, c9⟩, c10, c11, c12⟩, m9, m10, ⟨n1, n2, n3⟩, n4, n5, n6⟩ := hst () gk
    clear hst hexk
    have hx1 : A.add .i64 (A.mul .i64 i n) k = x := by clear hGl hGN m9 m10 n1 n2 n3 n4 n5 n6 c1 c2 c3 c4 c5 c6 c7 c8 c9 c10 c11 c12 g hp hq; (subst hA; subst_vars; simp only [AR.std, natCast_eq, sI, reduceCtorEq] at *; try simp (disch := omega) only [AR.std, natCast_eq, sI, reduceCtorEq] at *)
    have hy1' : A.add .i64 (A.mul .i64 k n) j = y := by clear hGl hGN m9 m10 n1 n2 n3 n4 n5 n6 c1 c2 c3 c4 c5 c6 c7 c8 c9 c10 c11 c12 g hp hq hx1; (subst hA; subst_vars; simp only [AR.std, natCast_eq, sI, reduceCtorEq] at *; try simp (disch := omega) only [AR.std, natCast_eq, sI, reduceCtorEq] at *)
    clear g
    all_goals try simp only [hx1, hy1', c1, c2, c3, c4, c5, c6, c7, c8, c9, c10, c11, c12]
    iterate 2 (all_goals try cbv; all_goals with_reducible repeat' first | exact True.intro | refine And.intro ?_ ?_ | intro _)
    all_goals try exact oI
    all_goals try simp only [hx1, hy1', c1, c2, c3, c4, c5, c6, c7, c8, c9, c10, c11, c12]
    first | (refine callS hA rfl (m9 P C) ?_; rintro _ rfl) | refine ⟨_, m9 P C, ?_⟩
    iterate 2 (all_goals try cbv; all_goals with_reducible repeat' first | exact True.intro | refine And.intro ?_ ?_ | intro _)
    all_goals try exact oI
    first | (refine callS hA rfl (m10 P C) ?_; rintro _ rfl) | refine ⟨_, m10 P C, ?_⟩
    clear m9 m10
    iterate 2 (all_goals try cbv; all_goals with_reducible repeat' first | exact True.intro | refine And.intro ?_ ?_ | intro _)
    all_goals try exact oI
    clear hx1 hy1' c1 c2 c3 c4 c5 c6 c7 c8 c9 c10 c11 c12
    obtain ⟨y1, hy1⟩ : ∃ y, y = k + 1 := ⟨_, rfl⟩
    obtain ⟨y2, hy2⟩ : ∃ y, y = b1 := ⟨_, rfl⟩
    obtain ⟨y3, hy3⟩ : ∃ y, y = z1 := ⟨_, rfl⟩
    obtain ⟨y4, hy4⟩ : ∃ y, y = d1 := ⟨_, rfl⟩
    obtain ⟨y5, hy5⟩ : ∃ y, y = b2 := ⟨_, rfl⟩
    obtain ⟨y6, hy6⟩ : ∃ y, y = z2 := ⟨_, rfl⟩
    obtain ⟨y7, hy7⟩ : ∃ y, y = d2 := ⟨_, rfl⟩
    refine ⟨⟨(y1, y2, y3, y4, y5, y6, y7), ?_⟩, ?_, ?_⟩
    rotate_left
    ·cbv
     exact nI
    ·(subst hA; subst_vars; simp only [AR.std, natCast_eq, sI, reduceCtorEq] at *; try simp (disch := omega) only [AR.std, natCast_eq, sI, reduceCtorEq] at *); omega
    ·rw [hy1, hy2, hy3, hy4, hy5, hy6, hy7]
     exact ⟨by simp only; omega, hk2, ⟨n1, n2, n3⟩, n4, n5, n6⟩
   ·rename_i g
    obtain ⟨x, x1, x2, x3, x4⟩ := hexk (by clear hst hexk hGl hGN; (subst hA; subst_vars; simp only [AR.std, natCast_eq, sI, reduceCtorEq] at *; try simp (disch := omega) only [AR.std, natCast_eq, sI, reduceCtorEq] at *); omega)
    clear hst hexk g
    obtain ⟨t9, ht9⟩ : ∃ t9, t9 = t2.set x.toNat (.agg [B a1, .lst r1, I h1, B a2, .lst r2, I h2]) := ⟨_, rfl⟩
    have hx1 : A.add .i64 (A.mul .i64 i n) j = x := by clear x4 ht9 hGl hGN hp hq; (subst hA; subst_vars; simp only [AR.std, natCast_eq, sI, reduceCtorEq] at *; try simp (disch := omega) only [AR.std, natCast_eq, sI, reduceCtorEq] at *)
    have hst : A.set t2 (A.nat (A.add .i64 (A.mul .i64 i n) j)) (.agg [B a1, .lst r1, I h1, B a2, .lst r2, I h2]) = t9 := by rw [hx1, ht9]; clear hGl hGN hx1; subst hA; rfl
    rw [← ht9] at x4
    clear ht9 hx1
    all_goals try simp only [hst]
    clear hst
    obtain ⟨y1, hy1⟩ : ∃ y, y = j + 1 := ⟨_, rfl⟩
    obtain ⟨y2, hy2⟩ : ∃ y, y = t9 := ⟨_, rfl⟩
    refine ⟨⟨(y1, y2), ?_⟩, ?_, ?_⟩
    rotate_left
    ·cbv
     exact nI
    ·(subst hA; subst_vars; simp only [AR.std, natCast_eq, sI, reduceCtorEq] at *; try simp (disch := omega) only [AR.std, natCast_eq, sI, reduceCtorEq] at *); omega
    ·rw [hy1, hy2]
     exact ⟨by simp only; omega, hj2, x4⟩
  ·rename_i g
   have gj : j = n := by clear hstep hset hexj hGl hGN ht2 ht2l; (subst hA; subst_vars; simp only [AR.std, natCast_eq, sI, reduceCtorEq] at *; try simp (disch := omega) only [AR.std, natCast_eq, sI, reduceCtorEq] at *); omega
   have := hexj gj
   clear hexj hstep hset
   iterate 2 (all_goals try cbv; all_goals with_reducible repeat' first | exact True.intro | refine And.intro ?_ ?_ | intro _)
   all_goals try exact oI
   obtain ⟨y1, hy1⟩ : ∃ y, y = i + 1 := ⟨_, rfl⟩
   obtain ⟨y2, hy2⟩ : ∃ y, y = t2 := ⟨_, rfl⟩
   refine ⟨⟨(y1, y2), ?_⟩, ?_, ?_⟩
   rotate_left
   ·cbv
    exact nI
   ·(subst hA; subst_vars; simp only [AR.std, natCast_eq, sI, reduceCtorEq] at *; try simp (disch := omega) only [AR.std, natCast_eq, sI, reduceCtorEq] at *); omega
   ·rw [hy1, hy2]
    exact ⟨by simp only; omega, hi2, this⟩
 ·rename_i g
  have gi : i = n := by clear hstep hset hexi hGl hGN t0; (subst hA; subst_vars; simp only [AR.std, natCast_eq, sI, reduceCtorEq] at *; try simp (disch := omega) only [AR.std, natCast_eq, sI, reduceCtorEq] at *); omega
  have := hexi gi
  simp only [this]

end Tryz
end Go.Proofs
