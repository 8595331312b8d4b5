/- Contracts: the reference's intervals. -/
import Derived.Test.YtoadmidababheaaDoorN9
namespace Go.Proofs
open Go Go.Pe Go.Dg
namespace Tryd
set_option linter.unusedSimpArgs false
set_option linter.unusedVariables false
variable {P : Program} {gl : List (Nat × Obj)}

set_option maxHeartbeats 1000000 in
set_option maxRecDepth 100000 in
theorem IvOk_fs (C : Cx P gl) {l m : List Int} {e f : Int} {p q : List PV} {s t b : Bool} (hp : p = intsL l) (hq : q = intsL m) (hb : b = true ↔ ivOk s l e t m f) (hl : l.length ≤ 2000000) (hm : m.length ≤ 2000000) :
    FS P gl 29 [.agg [B s, .lst p, I e, B t, .lst q, I f]] (· = B b) := by
  obtain ⟨c1, hc1⟩ := bool_of (dyOk s l e)
  obtain ⟨c2, hc2⟩ := bool_of (dyOk t m f)
  obtain ⟨c, hc⟩ : ∃ c : Int, c = cmpD (dval s l e) (dval t m f) := ⟨_, rfl⟩
  have h1 : b = (c1 && (c2 && decide (c ≤ 0))) := by
    rw [Bool.eq_iff_iff, hb, ivOk, Bool.and_eq_true, Bool.and_eq_true, decide_eq_true_eq, hc1, hc2, hc, cmpD_le]
  have h2 : c1 = true → c2 = true → p = intsL (dg (cZ (dval s l e)).natAbs) ∧ s = decide (cZ (dval s l e) < 0) ∧ e = cE (dval s l e) ∧ q = intsL (dg (cZ (dval t m f)).natAbs) ∧ t = decide (cZ (dval t m f) < 0) ∧ f = cE (dval t m f) ∧
      e.natAbs ≤ 100000 ∧ f.natAbs ≤ 100000 ∧ (dg (cZ (dval s l e)).natAbs).length ≤ 1000000 ∧ (dg (cZ (dval t m f)).natAbs).length ≤ 1000000 := by
    intro a1 a2
    obtain ⟨⟨x1, x2, x3⟩, y1, y2, y3⟩ := dyOk_val (hc1.1 a1)
    obtain ⟨⟨x4, x5, x6⟩, y4, y5, y6⟩ := dyOk_val (hc2.1 a2)
    exact ⟨by rw [hp, ← x2], x1, x3, by rw [hq, ← x5], x4, x6, by omega, by omega, by omega, by omega⟩
  have hcv : ∀ x y, x = dval s l e → y = dval t m f → c = cmpD x y := by rintro x y rfl rfl; exact hc
  clear hc
  generalize dval s l e = d1 at *
  generalize dval t m f = d2 at *
  have h3 : c = cmpD (mk (cZ d1) (cE d1)) (mk (cZ d2) (cE d2)) := hcv _ _ (mk_canon _) (mk_canon _)
  clear hcv hb
  obtain ⟨rfl, hG⟩ := C
  refine FS_ofT (args := fun A => [.agg [B s, .lst p, I e, B t, .lst q, I f]]) (R := fun A rr => rr = B b) Tryd.hT Tryd.mix Tryd.func29 rfl rfl (Nat.le_of_ble_eq_true rfl) ?_
  generalize hP : Tryd.prog = P
  intro A hA
  have C : Tryd.Cx P gl := ⟨hP.symm, hG⟩
  have hI : intsL = A.ints := by subst hA; rfl
  all_goals try cbv
  all_goals repeat' (first | with_reducible exact True.intro | with_reducible refine And.intro ?_ ?_ | intro _)
  all_goals try cbv
  all_goals repeat' (first | with_reducible exact True.intro | with_reducible refine And.intro ?_ ?_ | intro _)
  all_goals first | ((first | with_reducible refine lei_of hA ?_ | with_reducible refine lti_of hA ?_ | with_reducible refine ltn_of hA ?_ | with_reducible refine nez_of hA ?_ | with_reducible refine okA_of hA ?_ | with_reducible refine allC_of hA ?_ | with_reducible refine cap_of hA ?_ | with_reducible refine len_le_of hA ?_ | with_reducible refine len_eq_of hA ?_ | with_reducible refine peq_of hA ?_ | with_reducible refine tru_of ?_); subst hA; subst_vars; simp only [AR.std, natCast_eq, sA, sB, sC, sD, reduceCtorEq, Bool.true_eq_false, Bool.false_eq_true] at *; (try simp (disch := omega) only [AR.std, natCast_eq, sA, sB, sC, sD, reduceCtorEq, Bool.true_eq_false, Bool.false_eq_true] at *); first | done | rfl | omega | exact ints_ok _ | exact ints_all _ | (apply ints_part <;> first | omega | rfl)) | (exfalso; subst hA; subst_vars; simp only [AR.std, natCast_eq, sA, sB, sC, sD, reduceCtorEq, Bool.true_eq_false, Bool.false_eq_true] at *; (try simp (disch := omega) only [AR.std, natCast_eq, sA, sB, sC, sD, reduceCtorEq, Bool.true_eq_false, Bool.false_eq_true] at *); first | done | rfl | omega | exact ints_ok _ | exact ints_all _ | (apply ints_part <;> first | omega | rfl)) | skip
  refine callS hA rfl (DyOk_fs C hp hc1 hl) ?_; rintro _ rfl
  all_goals try cbv
  all_goals repeat' (first | with_reducible exact True.intro | with_reducible refine And.intro ?_ ?_ | intro _)
  all_goals try cbv
  all_goals repeat' (first | with_reducible exact True.intro | with_reducible refine And.intro ?_ ?_ | intro _)
  all_goals first | ((first | with_reducible refine lei_of hA ?_ | with_reducible refine lti_of hA ?_ | with_reducible refine ltn_of hA ?_ | with_reducible refine nez_of hA ?_ | with_reducible refine okA_of hA ?_ | with_reducible refine allC_of hA ?_ | with_reducible refine cap_of hA ?_ | with_reducible refine len_le_of hA ?_ | with_reducible refine len_eq_of hA ?_ | with_reducible refine peq_of hA ?_ | with_reducible refine tru_of ?_); subst hA; subst_vars; simp only [AR.std, natCast_eq, sA, sB, sC, sD, reduceCtorEq, Bool.true_eq_false, Bool.false_eq_true] at *; (try simp (disch := omega) only [AR.std, natCast_eq, sA, sB, sC, sD, reduceCtorEq, Bool.true_eq_false, Bool.false_eq_true] at *); first | done | rfl | omega | exact ints_ok _ | exact ints_all _ | (apply ints_part <;> first | omega | rfl)) | (exfalso; subst hA; subst_vars; simp only [AR.std, natCast_eq, sA, sB, sC, sD, reduceCtorEq, Bool.true_eq_false, Bool.false_eq_true] at *; (try simp (disch := omega) only [AR.std, natCast_eq, sA, sB, sC, sD, reduceCtorEq, Bool.true_eq_false, Bool.false_eq_true] at *); first | done | rfl | omega | exact ints_ok _ | exact ints_all _ | (apply ints_part <;> first | omega | rfl)) | skip
  refine ⟨_, fun _ => DyOk_fs C hq hc2 hm, ?_⟩
  all_goals try cbv
  all_goals repeat' (first | with_reducible exact True.intro | with_reducible refine And.intro ?_ ?_ | intro _)
  all_goals try cbv
  all_goals repeat' (first | with_reducible exact True.intro | with_reducible refine And.intro ?_ ?_ | intro _)
  all_goals first | ((first | with_reducible refine lei_of hA ?_ | with_reducible refine lti_of hA ?_ | with_reducible refine ltn_of hA ?_ | with_reducible refine nez_of hA ?_ | with_reducible refine okA_of hA ?_ | with_reducible refine allC_of hA ?_ | with_reducible refine cap_of hA ?_ | with_reducible refine len_le_of hA ?_ | with_reducible refine len_eq_of hA ?_ | with_reducible refine peq_of hA ?_ | with_reducible refine tru_of ?_); subst hA; subst_vars; simp only [AR.std, natCast_eq, sA, sB, sC, sD, reduceCtorEq, Bool.true_eq_false, Bool.false_eq_true] at *; (try simp (disch := omega) only [AR.std, natCast_eq, sA, sB, sC, sD, reduceCtorEq, Bool.true_eq_false, Bool.false_eq_true] at *); first | done | rfl | omega | exact ints_ok _ | exact ints_all _ | (apply ints_part <;> first | omega | rfl)) | (exfalso; subst hA; subst_vars; simp only [AR.std, natCast_eq, sA, sB, sC, sD, reduceCtorEq, Bool.true_eq_false, Bool.false_eq_true] at *; (try simp (disch := omega) only [AR.std, natCast_eq, sA, sB, sC, sD, reduceCtorEq, Bool.true_eq_false, Bool.false_eq_true] at *); first | done | rfl | omega | exact ints_ok _ | exact ints_all _ | (apply ints_part <;> first | omega | rfl)) | skip
  refine ⟨I c, fun g => ?_, ?_⟩
  · have g1 : c1 = true ∧ c2 = true := by subst hA; cases c1 <;> cases c2 <;> first | exact ⟨rfl, rfl⟩ | exact absurd g (by decide)
    obtain ⟨x1, x2, x3, x4, x5, x6, x7, x8, x9, x10⟩ := h2 g1.1 g1.2
    rw [x3, x6] at *
    exact l4cmp_fs C x1 x2 x4 x5 h3 x7 x8 x9 x10
  all_goals try cbv
  all_goals repeat' (first | with_reducible exact True.intro | with_reducible refine And.intro ?_ ?_ | intro _)
  all_goals try cbv
  all_goals repeat' (first | with_reducible exact True.intro | with_reducible refine And.intro ?_ ?_ | intro _)
  all_goals first | ((first | with_reducible refine lei_of hA ?_ | with_reducible refine lti_of hA ?_ | with_reducible refine ltn_of hA ?_ | with_reducible refine nez_of hA ?_ | with_reducible refine okA_of hA ?_ | with_reducible refine allC_of hA ?_ | with_reducible refine cap_of hA ?_ | with_reducible refine len_le_of hA ?_ | with_reducible refine len_eq_of hA ?_ | with_reducible refine peq_of hA ?_ | with_reducible refine tru_of ?_); subst hA; subst_vars; simp only [AR.std, natCast_eq, sA, sB, sC, sD, reduceCtorEq, Bool.true_eq_false, Bool.false_eq_true] at *; (try simp (disch := omega) only [AR.std, natCast_eq, sA, sB, sC, sD, reduceCtorEq, Bool.true_eq_false, Bool.false_eq_true] at *); first | done | rfl | omega | exact ints_ok _ | exact ints_all _ | (apply ints_part <;> first | omega | rfl)) | (exfalso; subst hA; subst_vars; simp only [AR.std, natCast_eq, sA, sB, sC, sD, reduceCtorEq, Bool.true_eq_false, Bool.false_eq_true] at *; (try simp (disch := omega) only [AR.std, natCast_eq, sA, sB, sC, sD, reduceCtorEq, Bool.true_eq_false, Bool.false_eq_true] at *); first | done | rfl | omega | exact ints_ok _ | exact ints_all _ | (apply ints_part <;> first | omega | rfl)) | skip
  have e1 : A.pick (A.pick c1 c2 false) (A.le c 0) false = b := by
    subst hA; rw [h1]; cases c1 <;> cases c2 <;> rfl
  simp only [e1]

theorem add_len {z1 e1 z2 e2 : Int} {L E : Nat} (h1 : (dg z1.natAbs).length ≤ L) (h2 : (dg z2.natAbs).length ≤ L) (b1 : e1.natAbs ≤ E) (b2 : e2.natAbs ≤ E) :
    (dg (cZ (mk z1 e1 + mk z2 e2)).natAbs).length ≤ 2 * (L + E + 1) + 1 := by
  obtain ⟨x, y, e, ha⟩ := align_ex z1 e1 z2 e2
  obtain ⟨v1, v2⟩ := align_mk ha
  obtain ⟨c1, c2, c3⟩ := align_len ha h1 h2 b1 b2
  rw [← v1, ← v2, mk_add]
  refine Nat.le_trans (dg_len_mono (cZ_le _ _)) ?_
  have g1 := dg_len_add x.natAbs y.natAbs
  have g2 : (dg (x + y).natAbs).length ≤ (dg (x.natAbs + y.natAbs)).length := dg_len_mono (by omega)
  omega

set_option maxHeartbeats 1000000 in
set_option maxRecDepth 100000 in
theorem specIvWide_fs (C : Cx P gl) {l m o : List Int} {e f g : Int} {p q r : List PV} {s t u w : Bool} (hp : p = intsL l) (hq : q = intsL m) (hr : r = intsL o)
    (hw : w = true ↔ ivOk s l e t m f ∧ fits (dval t m f - dval s l e)) (ho : outD w (dval t m f - dval s l e) u o g) (hl : l.length ≤ 2000000) (hm : m.length ≤ 2000000) :
    FS P gl 9 [.agg [B s, .lst p, I e, B t, .lst q, I f]] (· = .tup [.agg [B u, .lst r, I g], B w]) := by
  obtain ⟨b, hb⟩ := bool_of (ivOk s l e t m f)
  have h0 : b = false → w = false := by
    intro h; cases w
    · rfl
    · have := hb.2 (hw.1 rfl).1; rw [h] at this; cases this
  have hz : w = false → u = false ∧ r = [] ∧ g = 0 := by
    intro h; obtain ⟨x1, x2, x3⟩ := ho.2 h; exact ⟨x1, by rw [hr, x2]; rfl, x3⟩
  have h1 : b = true → ∃ (z1 z2 : Int) (d : Dyadic) (o' : List Int) (r' : List PV) (u' : Bool) (g' : Int), p = intsL (dg z1.natAbs) ∧ s = decide (z1 < 0) ∧ p = intsL (dg (-z1).natAbs) ∧ (decide (0 < z1)) = decide (-z1 < 0) ∧ q = intsL (dg z2.natAbs) ∧ t = decide (z2 < 0) ∧
      d = mk z2 f + mk (-z1) e ∧ r' = intsL (dg (cZ d).natAbs) ∧ u' = decide (cZ d < 0) ∧ g' = cE d ∧ r' = intsL o' ∧ (w = true ↔ dyOk u' o' g') ∧ o'.length ≤ 2000000 ∧ (w = true → r = r' ∧ u = u' ∧ g = g') ∧
      e.natAbs ≤ 100000 ∧ f.natAbs ≤ 100000 ∧ (dg z1.natAbs).length ≤ 1000000 ∧ (dg z2.natAbs).length ≤ 1000000 ∧ (dg (-z1).natAbs).length ≤ 1000000 := by
    intro h
    have hok := hb.1 h
    obtain ⟨⟨x1, x2, x3⟩, y1, y2, y3⟩ := dyOk_val hok.1
    obtain ⟨⟨x4, x5, x6⟩, y4, y5, y6⟩ := dyOk_val hok.2.1
    clear hb h0 hz
    generalize dval s l e = d1 at *
    generalize dval t m f = d2 at *
    have hd : d2 - d1 = mk (cZ d2) f + mk (-cZ d1) e := by
      rw [x3, x6, ← mk_neg, mk_canon, mk_canon]; grind
    have hlen : (dg (cZ (d2 - d1)).natAbs).length ≤ 2000000 := by
      rw [hd]
      exact Nat.le_trans (add_len (L := 100) (E := 3000) y4 (by rw [Int.natAbs_neg]; exact y1) (by omega) (by omega)) (by decide)
    generalize hD : d2 - d1 = D at *
    have hcell : cellsD D (decide (cZ D < 0)) (dg (cZ D).natAbs) (cE D) := ⟨rfl, rfl, rfl⟩
    refine ⟨cZ d1, cZ d2, D, dg (cZ D).natAbs, _, _, _, by rw [hp, ← x2], x1, by rw [Int.natAbs_neg, hp, ← x2], ?_, by rw [hq, ← x5], x4, hd, rfl, rfl, rfl, rfl, ?_, ?_, ?_, by omega, by omega, by omega, by omega, by rw [Int.natAbs_neg]; omega⟩
    · rw [decide_eq_decide]; omega
    · rw [hw, dyOk_cells hcell]; exact ⟨fun h => h.2, fun h => ⟨hok, h⟩⟩
    · exact hlen
    · intro h
      obtain ⟨x1, x2, x3⟩ := ho.1 h
      exact ⟨by rw [hr, x2], x1, x3⟩
  clear hw ho
  obtain ⟨rfl, hG⟩ := C
  refine FS_ofT (args := fun A => [.agg [B s, .lst p, I e, B t, .lst q, I f]]) (R := fun A rr => rr = .tup [.agg [B u, .lst r, I g], B w]) Tryd.hT Tryd.mix Tryd.func9 rfl rfl (Nat.le_of_ble_eq_true rfl) ?_
  generalize hP : Tryd.prog = P
  intro A hA
  have C : Tryd.Cx P gl := ⟨hP.symm, hG⟩
  have hI : intsL = A.ints := by subst hA; rfl
  all_goals try cbv
  all_goals repeat' (first | with_reducible exact True.intro | with_reducible refine And.intro ?_ ?_ | intro _)
  all_goals try cbv
  all_goals repeat' (first | with_reducible exact True.intro | with_reducible refine And.intro ?_ ?_ | intro _)
  all_goals first | ((first | with_reducible refine lei_of hA ?_ | with_reducible refine lti_of hA ?_ | with_reducible refine ltn_of hA ?_ | with_reducible refine nez_of hA ?_ | with_reducible refine okA_of hA ?_ | with_reducible refine allC_of hA ?_ | with_reducible refine cap_of hA ?_ | with_reducible refine len_le_of hA ?_ | with_reducible refine len_eq_of hA ?_ | with_reducible refine peq_of hA ?_ | with_reducible refine tru_of ?_); subst hA; subst_vars; simp only [AR.std, natCast_eq, sA, sB, sC, sD, reduceCtorEq, Bool.true_eq_false, Bool.false_eq_true] at *; (try simp (disch := omega) only [AR.std, natCast_eq, sA, sB, sC, sD, reduceCtorEq, Bool.true_eq_false, Bool.false_eq_true] at *); first | done | rfl | omega | exact ints_ok _ | exact ints_all _ | (apply ints_part <;> first | omega | rfl)) | (exfalso; subst hA; subst_vars; simp only [AR.std, natCast_eq, sA, sB, sC, sD, reduceCtorEq, Bool.true_eq_false, Bool.false_eq_true] at *; (try simp (disch := omega) only [AR.std, natCast_eq, sA, sB, sC, sD, reduceCtorEq, Bool.true_eq_false, Bool.false_eq_true] at *); first | done | rfl | omega | exact ints_ok _ | exact ints_all _ | (apply ints_part <;> first | omega | rfl)) | skip
  refine callS hA rfl (IvOk_fs C hp hq hb hl hm) ?_; rintro _ rfl
  all_goals try cbv
  all_goals repeat' (first | with_reducible exact True.intro | with_reducible refine And.intro ?_ ?_ | intro _)
  all_goals try cbv
  all_goals repeat' (first | with_reducible exact True.intro | with_reducible refine And.intro ?_ ?_ | intro _)
  all_goals first | ((first | with_reducible refine lei_of hA ?_ | with_reducible refine lti_of hA ?_ | with_reducible refine ltn_of hA ?_ | with_reducible refine nez_of hA ?_ | with_reducible refine okA_of hA ?_ | with_reducible refine allC_of hA ?_ | with_reducible refine cap_of hA ?_ | with_reducible refine len_le_of hA ?_ | with_reducible refine len_eq_of hA ?_ | with_reducible refine peq_of hA ?_ | with_reducible refine tru_of ?_); subst hA; subst_vars; simp only [AR.std, natCast_eq, sA, sB, sC, sD, reduceCtorEq, Bool.true_eq_false, Bool.false_eq_true] at *; (try simp (disch := omega) only [AR.std, natCast_eq, sA, sB, sC, sD, reduceCtorEq, Bool.true_eq_false, Bool.false_eq_true] at *); first | done | rfl | omega | exact ints_ok _ | exact ints_all _ | (apply ints_part <;> first | omega | rfl)) | (exfalso; subst hA; subst_vars; simp only [AR.std, natCast_eq, sA, sB, sC, sD, reduceCtorEq, Bool.true_eq_false, Bool.false_eq_true] at *; (try simp (disch := omega) only [AR.std, natCast_eq, sA, sB, sC, sD, reduceCtorEq, Bool.true_eq_false, Bool.false_eq_true] at *); first | done | rfl | omega | exact ints_ok _ | exact ints_all _ | (apply ints_part <;> first | omega | rfl)) | skip
  · rename_i gg
    have gg : b = false := by subst hA; cases b <;> first | rfl | exact absurd gg (by decide)
    have hw := h0 gg
    obtain ⟨rfl, rfl, rfl⟩ := hz hw
    rw [hw]
  · rename_i gg
    have gg : b = true := by subst hA; cases b <;> first | rfl | exact absurd gg (by decide)
    obtain ⟨z1, z2, d, o', r', u', g', a1, a2, a3, a4, a5, a6, a7, a8, a9, a10, a11, a12, a13, a14, a15, a16, a17, a18, a19⟩ := h1 gg
    obtain ⟨s', hs'⟩ : ∃ s', s' = decide (0 < z1) := ⟨_, rfl⟩
    refine ⟨_, l4neg_fs C a1 a2 hs' (by omega), ?_⟩
    all_goals try cbv
    all_goals repeat' (first | with_reducible exact True.intro | with_reducible refine And.intro ?_ ?_ | intro _)
    all_goals try cbv
    all_goals repeat' (first | with_reducible exact True.intro | with_reducible refine And.intro ?_ ?_ | intro _)
    all_goals first | ((first | with_reducible refine lei_of hA ?_ | with_reducible refine lti_of hA ?_ | with_reducible refine ltn_of hA ?_ | with_reducible refine nez_of hA ?_ | with_reducible refine okA_of hA ?_ | with_reducible refine allC_of hA ?_ | with_reducible refine cap_of hA ?_ | with_reducible refine len_le_of hA ?_ | with_reducible refine len_eq_of hA ?_ | with_reducible refine peq_of hA ?_ | with_reducible refine tru_of ?_); subst hA; subst_vars; simp only [AR.std, natCast_eq, sA, sB, sC, sD, reduceCtorEq, Bool.true_eq_false, Bool.false_eq_true] at *; (try simp (disch := omega) only [AR.std, natCast_eq, sA, sB, sC, sD, reduceCtorEq, Bool.true_eq_false, Bool.false_eq_true] at *); first | done | rfl | omega | exact ints_ok _ | exact ints_all _ | (apply ints_part <;> first | omega | rfl)) | (exfalso; subst hA; subst_vars; simp only [AR.std, natCast_eq, sA, sB, sC, sD, reduceCtorEq, Bool.true_eq_false, Bool.false_eq_true] at *; (try simp (disch := omega) only [AR.std, natCast_eq, sA, sB, sC, sD, reduceCtorEq, Bool.true_eq_false, Bool.false_eq_true] at *); first | done | rfl | omega | exact ints_ok _ | exact ints_all _ | (apply ints_part <;> first | omega | rfl)) | skip
    refine ⟨_, l4add_fs C a5 a6 a3 (hs'.trans a4) a7 a8 a9 a10 a16 a15 a18 a19, ?_⟩
    all_goals try cbv
    all_goals repeat' (first | with_reducible exact True.intro | with_reducible refine And.intro ?_ ?_ | intro _)
    all_goals try cbv
    all_goals repeat' (first | with_reducible exact True.intro | with_reducible refine And.intro ?_ ?_ | intro _)
    all_goals first | ((first | with_reducible refine lei_of hA ?_ | with_reducible refine lti_of hA ?_ | with_reducible refine ltn_of hA ?_ | with_reducible refine nez_of hA ?_ | with_reducible refine okA_of hA ?_ | with_reducible refine allC_of hA ?_ | with_reducible refine cap_of hA ?_ | with_reducible refine len_le_of hA ?_ | with_reducible refine len_eq_of hA ?_ | with_reducible refine peq_of hA ?_ | with_reducible refine tru_of ?_); subst hA; subst_vars; simp only [AR.std, natCast_eq, sA, sB, sC, sD, reduceCtorEq, Bool.true_eq_false, Bool.false_eq_true] at *; (try simp (disch := omega) only [AR.std, natCast_eq, sA, sB, sC, sD, reduceCtorEq, Bool.true_eq_false, Bool.false_eq_true] at *); first | done | rfl | omega | exact ints_ok _ | exact ints_all _ | (apply ints_part <;> first | omega | rfl)) | (exfalso; subst hA; subst_vars; simp only [AR.std, natCast_eq, sA, sB, sC, sD, reduceCtorEq, Bool.true_eq_false, Bool.false_eq_true] at *; (try simp (disch := omega) only [AR.std, natCast_eq, sA, sB, sC, sD, reduceCtorEq, Bool.true_eq_false, Bool.false_eq_true] at *); first | done | rfl | omega | exact ints_ok _ | exact ints_all _ | (apply ints_part <;> first | omega | rfl)) | skip
    refine ⟨_, l4fits_fs C a11 a12 a13 (fun h => a14 h) (fun h => ⟨(hz h).2.1, (hz h).1, (hz h).2.2⟩), ?_⟩
    all_goals try cbv
    all_goals repeat' (first | with_reducible exact True.intro | with_reducible refine And.intro ?_ ?_ | intro _)
    all_goals try cbv
    all_goals repeat' (first | with_reducible exact True.intro | with_reducible refine And.intro ?_ ?_ | intro _)
    all_goals first | ((first | with_reducible refine lei_of hA ?_ | with_reducible refine lti_of hA ?_ | with_reducible refine ltn_of hA ?_ | with_reducible refine nez_of hA ?_ | with_reducible refine okA_of hA ?_ | with_reducible refine allC_of hA ?_ | with_reducible refine cap_of hA ?_ | with_reducible refine len_le_of hA ?_ | with_reducible refine len_eq_of hA ?_ | with_reducible refine peq_of hA ?_ | with_reducible refine tru_of ?_); subst hA; subst_vars; simp only [AR.std, natCast_eq, sA, sB, sC, sD, reduceCtorEq, Bool.true_eq_false, Bool.false_eq_true] at *; (try simp (disch := omega) only [AR.std, natCast_eq, sA, sB, sC, sD, reduceCtorEq, Bool.true_eq_false, Bool.false_eq_true] at *); first | done | rfl | omega | exact ints_ok _ | exact ints_all _ | (apply ints_part <;> first | omega | rfl)) | (exfalso; subst hA; subst_vars; simp only [AR.std, natCast_eq, sA, sB, sC, sD, reduceCtorEq, Bool.true_eq_false, Bool.false_eq_true] at *; (try simp (disch := omega) only [AR.std, natCast_eq, sA, sB, sC, sD, reduceCtorEq, Bool.true_eq_false, Bool.false_eq_true] at *); first | done | rfl | omega | exact ints_ok _ | exact ints_all _ | (apply ints_part <;> first | omega | rfl)) | skip

end Tryd
end Go.Proofs
