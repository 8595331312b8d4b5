/- Contracts: quotients of intervals, in the reference: the quotient of two. -/
import Derived.Test.YtcbagjglchpagaaGreatDoorGN43a
namespace Go.Proofs
open Go Go.Pe Go.Dg
namespace Tryz
set_option linter.unusedSimpArgs false
set_option linter.unusedVariables false
variable {P : Program} {gl : List (Nat × Obj)}

set_option maxHeartbeats 4000000 in
set_option maxRecDepth 100000 in
theorem l7div_fs (C : Cx P gl) {a1 a2 b1 b2 d1 d2 : Dyadic} {s1 s2 t1 t2 u v : Bool} {p1 p2 q1 q2 r x : List PV} {e1 e2 f1 f2 g h low : Int}
    (hs1 : s1 = decide (cZ a1 < 0)) (hp1 : p1 = intsL (dg (cZ a1).natAbs)) (he1 : e1 = cE a1) (hs2 : s2 = decide (cZ a2 < 0)) (hp2 : p2 = intsL (dg (cZ a2).natAbs)) (he2 : e2 = cE a2) (ht1 : t1 = decide (cZ b1 < 0)) (hq1 : q1 = intsL (dg (cZ b1).natAbs)) (hf1 : f1 = cE b1) (ht2 : t2 = decide (cZ b2 < 0)) (hq2 : q2 = intsL (dg (cZ b2).natAbs)) (hf2 : f2 = cE b2)
    (fa1 : fits a1) (fa2 : fits a2) (fb1 : fits b1) (fb2 : fits b2) (n1 : b1 ≠ 0) (n2 : b2 ≠ 0) (hlow : low.natAbs ≤ 300) (hd1 : d1 = divLo a1 a2 b1 b2 low) (hd2 : d2 = divHi a1 a2 b1 b2 low)
    (hu : u = decide (cZ d1 < 0)) (hr : r = intsL (dg (cZ d1).natAbs)) (hg : g = cE d1) (hv : v = decide (cZ d2 < 0)) (hx : x = intsL (dg (cZ d2).natAbs)) (hh : h = cE d2) :
    FS P gl 58 [.agg [B s1, .lst p1, I e1, B s2, .lst p2, I e2], .agg [B t1, .lst q1, I f1, B t2, .lst q2, I f2], I low] (· = .agg [B u, .lst r, I g, B v, .lst x, I h]) := by
  obtain ⟨eL, heL⟩ : ∃ f, f = divE a1 a2 b1 b2 low 3 := ⟨_, rfl⟩
  obtain ⟨eU, heU⟩ : ∃ f, f = divE a1 a2 b1 b2 low 2 := ⟨_, rfl⟩
  have bL := fun k => divE_can (low := low) (m := 3) fa1 fa2 fb1 fb2 hlow k
  have bU := fun k => divE_can (low := low) (m := 2) fa1 fa2 fb1 fb2 hlow k
  rw [← heL] at bL
  rw [← heU] at bU
  have hd1' : d1 = eL (amin eL 3) := by rw [hd1, divLo, heL]
  have hd2' : d2 = eU (amax eU 3) := by rw [hd2, divHi, heU]
  obtain ⟨ea, hea⟩ : ∃ f, f = endA a1 a2 := ⟨_, rfl⟩
  obtain ⟨eb, heb⟩ : ∃ f, f = endB b1 b2 := ⟨_, rfl⟩
  have fA : ∀ k, fits (ea k) := fun k => by rw [hea]; rcases endA_cases a1 a2 k with h | h <;> rw [h] <;> assumption
  have fB : ∀ k, fits (eb k) ∧ eb k ≠ 0 := fun k => by rw [heb]; rcases endB_cases b1 b2 k with h | h <;> rw [h] <;> exact ⟨by assumption, by assumption⟩
  have dL : ∀ k, eL k = divD (ea k) (eb k) low 3 := fun k => by rw [heL, hea, heb]; rfl
  have dU : ∀ k, eU k = divD (ea k) (eb k) low 2 := fun k => by rw [heU, hea, heb]; rfl
  have la : [PV.agg [B s1, .lst p1, I e1], .agg [B s1, .lst p1, I e1], .agg [B s2, .lst p2, I e2], .agg [B s2, .lst p2, I e2]] = cells3 (canL ea 4) := by
    rw [hea, canL_A, hs1, hp1, he1, hs2, hp2, he2]; rfl
  have lb : [PV.agg [B t1, .lst q1, I f1], .agg [B t2, .lst q2, I f2], .agg [B t1, .lst q1, I f1], .agg [B t2, .lst q2, I f2]] = cells3 (canL eb 4) := by
    rw [heb, canL_B, ht1, hq1, hf1, ht2, hq2, hf2]; rfl
  obtain ⟨u0, hu0⟩ : ∃ x, x = decide (cZ (eL 0) < 0) := ⟨_, rfl⟩
  obtain ⟨r0, hr0⟩ : ∃ x, x = intsL (dg (cZ (eL 0)).natAbs) := ⟨_, rfl⟩
  obtain ⟨g0, hg0⟩ : ∃ x, x = cE (eL 0) := ⟨_, rfl⟩
  obtain ⟨v0, hv0⟩ : ∃ x, x = decide (cZ (eU 0) < 0) := ⟨_, rfl⟩
  obtain ⟨x0, hx0⟩ : ∃ x, x = intsL (dg (cZ (eU 0)).natAbs) := ⟨_, rfl⟩
  obtain ⟨h0, hh0⟩ : ∃ x, x = cE (eU 0) := ⟨_, rfl⟩
  have k0 := fun (P' : Program) (C' : Cx P' gl) => l4div_fs C' (low := low) (m := 3) hs1 hp1 he1 ht1 hq1 hf1 n1 fa1 fb1 (d := eL 0) (by rw [heL]; rfl) hu0 hr0 hg0 (by decide) (by decide) (by omega)
  have k1 := fun (P' : Program) (C' : Cx P' gl) => l4div_fs C' (low := low) (m := 2) hs1 hp1 he1 ht1 hq1 hf1 n1 fa1 fb1 (d := eU 0) (by rw [heU]; rfl) hv0 hx0 hh0 (by decide) (by decide) (by omega)
  clear hs1 hp1 he1 hs2 hp2 he2 ht1 hq1 hf1 ht2 hq2 hf2 hd1 hd2 heL heU hea heb fa1 fa2 fb1 fb2 n1 n2
  obtain ⟨rfl, hG⟩ := C
  refine FS_ofT (args := fun A => [.agg [B s1, .lst p1, I e1, B s2, .lst p2, I e2], .agg [B t1, .lst q1, I f1, B t2, .lst q2, I f2], I low]) (R := fun A rr => rr = .agg [B u, .lst r, I g, B v, .lst x, I h]) Tryz.hT Tryz.mix Tryz.func58 rfl rfl (Nat.le_of_ble_eq_true rfl) ?_
  generalize hP : Tryz.prog = P
  intro A hA
  have C : Tryz.Cx P gl := ⟨hP.symm, hG⟩
  have hI : intsL = A.ints := by subst hA; rfl
  iterate 2 (all_goals try cbv; all_goals repeat' (first | with_reducible exact True.intro | with_reducible refine And.intro ?_ ?_ | intro _))
  all_goals try exact oG
  all_goals try exact okA_of hA (by intro x hx; simp only [List.mem_cons, List.not_mem_nil, or_false] at hx; rcases hx with rfl | rfl | rfl | rfl <;> exact ⟨rfl, rfl⟩)
  refine ⟨_, k0 P C, ?_⟩
  iterate 2 (all_goals try cbv; all_goals repeat' (first | with_reducible exact True.intro | with_reducible refine And.intro ?_ ?_ | intro _))
  all_goals try exact oG
  refine ⟨_, k1 P C, ?_⟩
  clear k0 k1
  iterate 2 (all_goals try cbv; all_goals repeat' (first | with_reducible exact True.intro | with_reducible refine And.intro ?_ ?_ | intro _))
  all_goals try exact oG
  refine loopI hA [] (ι := Int × Bool × List PV × Int × Bool × List PV × Int × List PV × List PV) (fun x => [(7, .own 3), (8, .own 4), (10, .pv (I x.1))]) (fun x => [(3, .row 36 3 x.2.2.2.2.2.2.2.1), (4, .row 36 3 x.2.2.2.2.2.2.2.2), (5, .box [.pv (B x.2.1), .pv (.lst x.2.2.1), .pv (I x.2.2.2.1), .pv (B x.2.2.2.2.1), .pv (.lst x.2.2.2.2.2.1), .pv (I x.2.2.2.2.2.2.1)])]) (fun x => (4 - x.1).toNat) (fun x => 1 ≤ x.1 ∧ x.1 ≤ 4 ∧ (x.2.1 = decide (cZ (eL (amin eL (x.1.toNat - 1))) < 0) ∧ x.2.2.1 = intsL (dg (cZ (eL (amin eL (x.1.toNat - 1)))).natAbs) ∧ x.2.2.2.1 = cE (eL (amin eL (x.1.toNat - 1)))) ∧ (x.2.2.2.2.1 = decide (cZ (eU (amax eU (x.1.toNat - 1))) < 0) ∧ x.2.2.2.2.2.1 = intsL (dg (cZ (eU (amax eU (x.1.toNat - 1)))).natAbs) ∧ x.2.2.2.2.2.2.1 = cE (eU (amax eU (x.1.toNat - 1)))) ∧ x.2.2.2.2.2.2.2.1 = cells3 (canL ea 4) ∧ x.2.2.2.2.2.2.2.2 = cells3 (canL eb 4)) (1, u0, r0, g0, v0, x0, h0, [.agg [B s1, .lst p1, I e1], .agg [B s1, .lst p1, I e1], .agg [B s2, .lst p2, I e2], .agg [B s2, .lst p2, I e2]], [.agg [B t1, .lst q1, I f1], .agg [B t2, .lst q2, I f2], .agg [B t1, .lst q1, I f1], .agg [B t2, .lst q2, I f2]]) (by rfl) ?_ ?_ ?_
  all_goals try exact tG
  · exact ⟨by simp only; omega, by simp only; omega, ⟨hu0, hr0, hg0⟩, ⟨hv0, hx0, hh0⟩, la, lb⟩
  rintro ⟨i, u1, r1, g1, v1, x1, h1, qa, qb⟩ ⟨hi0, hi1, ⟨hu1, hr1, hg1⟩, ⟨hv1, hx1, hh1⟩, hqa, hqb⟩
  simp only at hi0 hi1 hu1 hr1 hg1 hv1 hx1 hh1 hqa hqb
  clear la lb hu0 hr0 hg0 hv0 hx0 hh0
  obtain ⟨j, hj⟩ : ∃ j : Nat, j = i.toNat := ⟨_, rfl⟩
  rw [← hj] at hu1 hr1 hg1 hv1 hx1 hh1
  obtain ⟨dl, hdl⟩ : ∃ d, d = eL (amin eL (j - 1)) := ⟨_, rfl⟩
  obtain ⟨du, hdu⟩ : ∃ d, d = eU (amax eU (j - 1)) := ⟨_, rfl⟩
  rw [← hdl] at hu1 hr1 hg1
  rw [← hdu] at hv1 hx1 hh1
  obtain ⟨bl1, bl2⟩ := bL (amin eL (j - 1))
  obtain ⟨bu1, bu2⟩ := bU (amax eU (j - 1))
  obtain ⟨bl3, bl4⟩ := bL j
  obtain ⟨bu3, bu4⟩ := bU j
  rw [← hdl] at bl1 bl2
  rw [← hdu] at bu1 bu2
  have fAj := fA j
  obtain ⟨fBj, nBj⟩ := fB j
  have dLj := dL j
  have dUj := dU j
  have hfin : 4 ≤ i → (u1 = u ∧ r1 = r ∧ g1 = g) ∧ v1 = v ∧ x1 = x ∧ h1 = h := by
    intro h4
    have e1 : j - 1 = 3 := by omega
    rw [e1] at hdl hdu
    rw [hu, hr, hg, hv, hx, hh, hd1', hd2', ← hdl, ← hdu]
    exact ⟨⟨hu1, hr1, hg1⟩, hv1, hx1, hh1⟩
  obtain ⟨cl, hcl⟩ : ∃ c, c = cmpD dl (eL j) := ⟨_, rfl⟩
  obtain ⟨cu, hcu⟩ : ∃ c, c = cmpD du (eU j) := ⟨_, rfl⟩
  have nl1 : cl ≤ 0 → eL (amin eL j) = dl := fun h => by rw [show j = (j - 1) + 1 by omega, amin_ne (by rw [← hdl, show j - 1 + 1 = j by omega, ← hcl]; exact h), hdl]
  have nl2 : ¬cl ≤ 0 → eL (amin eL j) = eL j := fun h => by
    have := amin_eq (d := eL) (k := j - 1) (by rw [← hdl, show j - 1 + 1 = j by omega, ← hcl]; exact h)
    rw [show j - 1 + 1 = j by omega] at this
    rw [this]
  have nu1 : 0 ≤ cu → eU (amax eU j) = du := fun h => by rw [show j = (j - 1) + 1 by omega, amax_ne (by rw [← hdu, show j - 1 + 1 = j by omega, ← hcu]; exact h), hdu]
  have nu2 : ¬0 ≤ cu → eU (amax eU j) = eU j := fun h => by
    have := amax_eq (d := eU) (k := j - 1) (by rw [← hdu, show j - 1 + 1 = j by omega, ← hcu]; exact h)
    rw [show j - 1 + 1 = j by omega] at this
    rw [this]
  obtain ⟨u2, hu2⟩ : ∃ x, x = decide (cZ (eL j) < 0) := ⟨_, rfl⟩
  obtain ⟨r2, hr2⟩ : ∃ x, x = intsL (dg (cZ (eL j)).natAbs) := ⟨_, rfl⟩
  obtain ⟨g2, hg2⟩ : ∃ x, x = cE (eL j) := ⟨_, rfl⟩
  obtain ⟨v2, hv2⟩ : ∃ x, x = decide (cZ (eU j) < 0) := ⟨_, rfl⟩
  obtain ⟨x2, hx2⟩ : ∃ x, x = intsL (dg (cZ (eU j)).natAbs) := ⟨_, rfl⟩
  obtain ⟨h2, hh2⟩ : ∃ x, x = cE (eU j) := ⟨_, rfl⟩
  obtain ⟨u3, hu3⟩ : ∃ x, x = decide (cZ (eL (amin eL j)) < 0) := ⟨_, rfl⟩
  obtain ⟨r3, hr3⟩ : ∃ x, x = intsL (dg (cZ (eL (amin eL j))).natAbs) := ⟨_, rfl⟩
  obtain ⟨g3, hg3⟩ : ∃ x, x = cE (eL (amin eL j)) := ⟨_, rfl⟩
  obtain ⟨v3, hv3⟩ : ∃ x, x = decide (cZ (eU (amax eU j)) < 0) := ⟨_, rfl⟩
  obtain ⟨x3, hx3⟩ : ∃ x, x = intsL (dg (cZ (eU (amax eU j))).natAbs) := ⟨_, rfl⟩
  obtain ⟨h3, hh3⟩ : ∃ x, x = cE (eU (amax eU j)) := ⟨_, rfl⟩
  have cLess := fun (P' : Program) (C' : Cx P' gl) => l7less_fs C' (z1 := cZ dl) (z2 := cZ (eL j)) (c := cl) (u := u3) (r := r3) (g := g3) hr1 hu1 hr2 hu2 (e := g1) (f := g2) (by rw [hg1, hg2, mk_canon, mk_canon]; exact hcl)
    (fun h => by rw [hu3, hr3, hg3, nl1 h]; exact ⟨hu1.symm, hr1.symm, hg1.symm⟩) (fun h => by rw [hu3, hr3, hg3, nl2 h]; exact ⟨hu2.symm, hr2.symm, hg2.symm⟩) (by omega) (by omega) (by omega) (by omega)
  have cMore := fun (P' : Program) (C' : Cx P' gl) => l7more_fs C' (z1 := cZ du) (z2 := cZ (eU j)) (c := cu) (u := v3) (r := x3) (g := h3) hx1 hv1 hx2 hv2 (e := h1) (f := h2) (by rw [hh1, hh2, mk_canon, mk_canon]; exact hcu)
    (fun h => by rw [hv3, hx3, hh3, nu1 h]; exact ⟨hv1.symm, hx1.symm, hh1.symm⟩) (fun h => by rw [hv3, hx3, hh3, nu2 h]; exact ⟨hv2.symm, hx2.symm, hh2.symm⟩) (by omega) (by omega) (by omega) (by omega)
  have hga : j < 4 → (canL ea 4).getD j noY = canY (ea j) := fun h => canL_get h
  have hgb : j < 4 → (canL eb 4).getD j noY = canY (eb j) := fun h => canL_get h
  have hel : ∀ _ : Unit, i < 4 → A.el qa (A.nat i) = cell3 (canY (ea j)) ∧ A.el qb (A.nat i) = cell3 (canY (eb j)) := by
    intro _ h4
    rw [hqa, hqb, ← hga (by omega), ← hgb (by omega), hj]
    subst hA
    exact ⟨c3el (show i.toNat < (canL ea 4).length by rw [canL_len]; omega), c3el (show i.toNat < (canL eb 4).length by rw [canL_len]; omega)⟩
  obtain ⟨sa, hsa⟩ : ∃ x, x = decide (cZ (ea j) < 0) := ⟨_, rfl⟩
  obtain ⟨pa, hpa⟩ : ∃ x, x = intsL (dg (cZ (ea j)).natAbs) := ⟨_, rfl⟩
  obtain ⟨xa, hxa⟩ : ∃ x, x = cE (ea j) := ⟨_, rfl⟩
  obtain ⟨sb, hsb⟩ : ∃ x, x = decide (cZ (eb j) < 0) := ⟨_, rfl⟩
  obtain ⟨pb, hpb⟩ : ∃ x, x = intsL (dg (cZ (eb j)).natAbs) := ⟨_, rfl⟩
  obtain ⟨xb, hxb⟩ : ∃ x, x = cE (eb j) := ⟨_, rfl⟩
  have hel2 : ∀ _ : Unit, i < 4 → (A.gb (A.el qa (A.nat i)) 0 = sa ∧ A.gl (A.el qa (A.nat i)) 1 = pa ∧ A.gi (A.el qa (A.nat i)) 2 = xa) ∧ A.gb (A.el qb (A.nat i)) 0 = sb ∧ A.gl (A.el qb (A.nat i)) 1 = pb ∧ A.gi (A.el qb (A.nat i)) 2 = xb := by
    intro _ h4
    obtain ⟨w1, w2⟩ := hel () h4
    rw [w1, w2, hsa, hpa, hxa, hsb, hpb, hxb]
    subst hA
    exact ⟨⟨rfl, rfl, rfl⟩, rfl, rfl, rfl⟩
  have c3 := fun (P' : Program) (C' : Cx P' gl) => l4div_fs C' (low := low) (m := 3) hsa hpa hxa hsb hpb hxb nBj fAj fBj dLj hu2 hr2 hg2 (by decide) (by decide) (by omega)
  have c2 := fun (P' : Program) (C' : Cx P' gl) => l4div_fs C' (low := low) (m := 2) hsa hpa hxa hsb hpb hxb nBj fAj fBj dUj hv2 hx2 hh2 (by decide) (by decide) (by omega)
  have hql : qa.length = 4 ∧ qb.length = 4 := by rw [hqa, hqb, c3len, c3len, canL_len, canL_len]; exact ⟨rfl, rfl⟩
  obtain ⟨hql1, hql2⟩ := hql
  have hinv : i < 4 → 1 ≤ i + 1 ∧ i + 1 ≤ 4 ∧ (u3 = decide (cZ (eL (amin eL ((i + 1).toNat - 1))) < 0) ∧ r3 = intsL (dg (cZ (eL (amin eL ((i + 1).toNat - 1)))).natAbs) ∧ g3 = cE (eL (amin eL ((i + 1).toNat - 1)))) ∧
      (v3 = decide (cZ (eU (amax eU ((i + 1).toNat - 1))) < 0) ∧ x3 = intsL (dg (cZ (eU (amax eU ((i + 1).toNat - 1)))).natAbs) ∧ h3 = cE (eU (amax eU ((i + 1).toNat - 1)))) := by
    intro h4
    rw [show (i + 1).toNat - 1 = j by omega]
    exact ⟨by omega, by omega, ⟨hu3, hr3, hg3⟩, hv3, hx3, hh3⟩
  clear hu1 hr1 hg1 hv1 hx1 hh1 hu2 hr2 hg2 hv2 hx2 hh2 hu3 hr3 hg3 hv3 hx3 hh3 hsa hpa hxa hsb hpb hxb hcl hcu nl1 nl2 nu1 nu2 hdl hdu bL bU fA fB dL dU bl1 bl2 bl3 bl4 bu1 bu2 bu3 bu4 fAj fBj nBj dLj dUj hd1' hd2' hu hr hg hv hx hh hga hgb hj
  iterate 2 (all_goals try cbv; all_goals repeat' (first | with_reducible exact True.intro | with_reducible refine And.intro ?_ ?_ | intro _))
  all_goals try exact oG
  · rename_i g
    have h4 : i < 4 := by clear hinv hfin hel2 hel; (subst hA; subst_vars; simp only [AR.std, natCast_eq, sG, reduceCtorEq] at *; try simp (disch := omega) only [AR.std, natCast_eq, sG, reduceCtorEq] at *); omega
    obtain ⟨⟨w1, w2, w3⟩, w4, w5, w6⟩ := hel2 () h4
    have hin := hinv h4
    clear hinv hfin hel2 hel
    all_goals try simp only [w1, w2, w3, w4, w5, w6]
    first | (refine callS hA rfl (c3 P C) ?_; rintro _ rfl) | refine ⟨_, c3 P C, ?_⟩
    iterate 2 (all_goals try cbv; all_goals repeat' (first | with_reducible exact True.intro | with_reducible refine And.intro ?_ ?_ | intro _))
    all_goals try exact oG
    all_goals try simp only [w1, w2, w3, w4, w5, w6]
    first | (refine callS hA rfl (cLess P C) ?_; rintro _ rfl) | refine ⟨_, cLess P C, ?_⟩
    iterate 2 (all_goals try cbv; all_goals repeat' (first | with_reducible exact True.intro | with_reducible refine And.intro ?_ ?_ | intro _))
    all_goals try exact oG
    all_goals try simp only [w1, w2, w3, w4, w5, w6]
    first | (refine callS hA rfl (c2 P C) ?_; rintro _ rfl) | refine ⟨_, c2 P C, ?_⟩
    iterate 2 (all_goals try cbv; all_goals repeat' (first | with_reducible exact True.intro | with_reducible refine And.intro ?_ ?_ | intro _))
    all_goals try exact oG
    all_goals try simp only [w1, w2, w3, w4, w5, w6]
    first | (refine callS hA rfl (cMore P C) ?_; rintro _ rfl) | refine ⟨_, cMore P C, ?_⟩
    iterate 2 (all_goals try cbv; all_goals repeat' (first | with_reducible exact True.intro | with_reducible refine And.intro ?_ ?_ | intro _))
    all_goals try exact oG
    clear w1 w2 w3 w4 w5 w6
    obtain ⟨y1, hy1⟩ : ∃ y, y = i + 1 := ⟨_, rfl⟩
    obtain ⟨y2, hy2⟩ : ∃ y, y = u3 := ⟨_, rfl⟩
    obtain ⟨y3, hy3⟩ : ∃ y, y = r3 := ⟨_, rfl⟩
    obtain ⟨y4, hy4⟩ : ∃ y, y = g3 := ⟨_, rfl⟩
    obtain ⟨y5, hy5⟩ : ∃ y, y = v3 := ⟨_, rfl⟩
    obtain ⟨y6, hy6⟩ : ∃ y, y = x3 := ⟨_, rfl⟩
    obtain ⟨y7, hy7⟩ : ∃ y, y = h3 := ⟨_, rfl⟩
    obtain ⟨y8, hy8⟩ : ∃ y, y = qa := ⟨_, rfl⟩
    obtain ⟨y9, hy9⟩ : ∃ y, y = qb := ⟨_, rfl⟩
    refine ⟨⟨(y1, y2, y3, y4, y5, y6, y7, y8, y9), ?_⟩, ?_, ?_⟩
    rotate_left
    · cbv
      exact nG
    · (subst hA; subst_vars; simp only [AR.std, natCast_eq, sG, reduceCtorEq] at *; try simp (disch := omega) only [AR.std, natCast_eq, sG, reduceCtorEq] at *); omega
    · rw [hy1, hy2, hy3, hy4, hy5, hy6, hy7, hy8, hy9]
      obtain ⟨m1, m2, m3, m4⟩ := hin
      exact ⟨m1, m2, m3, m4, hqa, hqb⟩
  · rename_i g
    obtain ⟨⟨e1, e2, e3⟩, e4, e5, e6⟩ := hfin (by clear hinv hfin hel2 hel; (subst hA; subst_vars; simp only [AR.std, natCast_eq, sG, reduceCtorEq] at *; try simp (disch := omega) only [AR.std, natCast_eq, sG, reduceCtorEq] at *); omega)
    rw [e1, e2, e3, e4, e5, e6]

end Tryz
end Go.Proofs
