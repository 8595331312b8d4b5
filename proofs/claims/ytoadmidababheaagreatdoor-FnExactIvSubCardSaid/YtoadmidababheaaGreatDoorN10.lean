/- Contracts: the reference's intervals. -/
import Derived.Test.YtoadmidababheaaGreatDoorN9
namespace Go.Proofs
open Go Go.Pe Go.Dg
namespace Tryz
set_option linter.unusedSimpArgs false
set_option linter.unusedVariables false
variable {P : Program} {gl : List (Nat × Obj)}

set_option maxHeartbeats 1000000 in
set_option maxRecDepth 100000 in
theorem IvOk_fs (C : Cx P gl) {l m : List Int} {e f : Int} {p q : List PV} {s t b : Bool} (hp : p = intsL l) (hq : q = intsL m) (hb : b = true ↔ ivOk s l e t m f) (hl : l.length ≤ 2000000) (hm : m.length ≤ 2000000) :
    FS P gl 24 [.agg [B s, .lst p, I e, B t, .lst q, I f]] (· = B b) := by
  obtain ⟨c1, hc1⟩ := bool_of (dyOk s l e)
  obtain ⟨c2, hc2⟩ := bool_of (dyOk t m f)
  obtain ⟨c, hc⟩ : ∃ c : Int, c = cmpD (dval s l e) (dval t m f) := ⟨_, rfl⟩
  have h1 : b = (c1 && (c2 && decide (c ≤ 0))) := by
    rw [Bool.eq_iff_iff, hb, ivOk, Bool.and_eq_true, Bool.and_eq_true, decide_eq_true_eq, hc1, hc2, hc, cmpD_le]
  have h2 : c1 = true → c2 = true → p = intsL (dg (cZ (dval s l e)).natAbs) ∧ s = decide (cZ (dval s l e) < 0) ∧ e = cE (dval s l e) ∧ q = intsL (dg (cZ (dval t m f)).natAbs) ∧ t = decide (cZ (dval t m f) < 0) ∧ f = cE (dval t m f) ∧
      e.natAbs ≤ 100000 ∧ f.natAbs ≤ 100000 ∧ (dg (cZ (dval s l e)).natAbs).length ≤ 1000000 ∧ (dg (cZ (dval t m f)).natAbs).length ≤ 1000000 := by
    intro a1 a2
    obtain ⟨⟨x1, x2, x3⟩, y1, y2, y3⟩ := dyOk_val (hc1.1 a1)
    obtain ⟨⟨x4, x5, x6⟩, y4, y5, y6⟩ := dyOk_val (hc2.1 a2)
    exact ⟨by rw [hp, ← x2], x1, x3, by rw [hq, ← x5], x4, x6, by omega, by omega, by omega, by omega⟩
  have hcv : ∀ x y, x = dval s l e → y = dval t m f → c = cmpD x y := by rintro x y rfl rfl; exact hc
  clear hc
  generalize dval s l e = d1 at *
  generalize dval t m f = d2 at *
  have h3 : c = cmpD (mk (cZ d1) (cE d1)) (mk (cZ d2) (cE d2)) := hcv _ _ (mk_canon _) (mk_canon _)
  clear hcv hb
  obtain ⟨rfl, hG⟩ := C
  refine FS_ofT (args := fun A => [.agg [B s, .lst p, I e, B t, .lst q, I f]]) (R := fun A rr => rr = B b) Tryz.hT Tryz.mix Tryz.func24 rfl rfl (Nat.le_of_ble_eq_true rfl) ?_
  generalize hP : Tryz.prog = P
  intro A hA
  have C : Tryz.Cx P gl := ⟨hP.symm, hG⟩
  have hI : intsL = A.ints := by subst hA; rfl
  all_goals try cbv
  all_goals repeat' (first | with_reducible exact True.intro | with_reducible refine And.intro ?_ ?_ | intro _)
  all_goals try cbv
  all_goals repeat' (first | with_reducible exact True.intro | with_reducible refine And.intro ?_ ?_ | intro _)
  all_goals first | ((first | (with_reducible first | refine q1 hA ?_ | refine q2 hA ?_ | refine q3 hA ?_ | refine q4 hA ?_ | refine q5 hA ?_ | refine q6 hA ?_ | refine q7 hA ?_ | refine q8 hA ?_ | refine q9 hA ?_ | refine q0 hA ?_ | refine tru_of ?_) | exfalso); subst hA; subst_vars; simp only [AR.std, natCast_eq, sA, sB, sC, sD, reduceCtorEq] at *; (try simp (disch := omega) only [AR.std, natCast_eq, sA, sB, sC, sD, reduceCtorEq] at *); first | done | rfl | omega | exact ints_ok _ | exact ints_all _ | (apply ints_part <;> first | omega | rfl)) | skip
  refine callS hA rfl (DyOk_fs C hp hc1 hl) ?_; rintro _ rfl
  all_goals try cbv
  all_goals repeat' (first | with_reducible exact True.intro | with_reducible refine And.intro ?_ ?_ | intro _)
  all_goals try cbv
  all_goals repeat' (first | with_reducible exact True.intro | with_reducible refine And.intro ?_ ?_ | intro _)
  all_goals first | ((first | (with_reducible first | refine q1 hA ?_ | refine q2 hA ?_ | refine q3 hA ?_ | refine q4 hA ?_ | refine q5 hA ?_ | refine q6 hA ?_ | refine q7 hA ?_ | refine q8 hA ?_ | refine q9 hA ?_ | refine q0 hA ?_ | refine tru_of ?_) | exfalso); subst hA; subst_vars; simp only [AR.std, natCast_eq, sA, sB, sC, sD, reduceCtorEq] at *; (try simp (disch := omega) only [AR.std, natCast_eq, sA, sB, sC, sD, reduceCtorEq] at *); first | done | rfl | omega | exact ints_ok _ | exact ints_all _ | (apply ints_part <;> first | omega | rfl)) | skip
  refine ⟨_, fun _ => DyOk_fs C hq hc2 hm, ?_⟩
  all_goals try cbv
  all_goals repeat' (first | with_reducible exact True.intro | with_reducible refine And.intro ?_ ?_ | intro _)
  all_goals try cbv
  all_goals repeat' (first | with_reducible exact True.intro | with_reducible refine And.intro ?_ ?_ | intro _)
  all_goals first | ((first | (with_reducible first | refine q1 hA ?_ | refine q2 hA ?_ | refine q3 hA ?_ | refine q4 hA ?_ | refine q5 hA ?_ | refine q6 hA ?_ | refine q7 hA ?_ | refine q8 hA ?_ | refine q9 hA ?_ | refine q0 hA ?_ | refine tru_of ?_) | exfalso); subst hA; subst_vars; simp only [AR.std, natCast_eq, sA, sB, sC, sD, reduceCtorEq] at *; (try simp (disch := omega) only [AR.std, natCast_eq, sA, sB, sC, sD, reduceCtorEq] at *); first | done | rfl | omega | exact ints_ok _ | exact ints_all _ | (apply ints_part <;> first | omega | rfl)) | skip
  refine ⟨I c, fun g => ?_, ?_⟩
  · have g1 : c1 = true ∧ c2 = true := by subst hA; cases c1 <;> cases c2 <;> first | exact ⟨rfl, rfl⟩ | exact absurd g (by decide)
    obtain ⟨x1, x2, x3, x4, x5, x6, x7, x8, x9, x10⟩ := h2 g1.1 g1.2
    rw [x3, x6] at *
    exact l4cmp_fs C x1 x2 x4 x5 h3 x7 x8 x9 x10
  all_goals try cbv
  all_goals repeat' (first | with_reducible exact True.intro | with_reducible refine And.intro ?_ ?_ | intro _)
  all_goals try cbv
  all_goals repeat' (first | with_reducible exact True.intro | with_reducible refine And.intro ?_ ?_ | intro _)
  all_goals first | ((first | (with_reducible first | refine q1 hA ?_ | refine q2 hA ?_ | refine q3 hA ?_ | refine q4 hA ?_ | refine q5 hA ?_ | refine q6 hA ?_ | refine q7 hA ?_ | refine q8 hA ?_ | refine q9 hA ?_ | refine q0 hA ?_ | refine tru_of ?_) | exfalso); subst hA; subst_vars; simp only [AR.std, natCast_eq, sA, sB, sC, sD, reduceCtorEq] at *; (try simp (disch := omega) only [AR.std, natCast_eq, sA, sB, sC, sD, reduceCtorEq] at *); first | done | rfl | omega | exact ints_ok _ | exact ints_all _ | (apply ints_part <;> first | omega | rfl)) | skip
  have e1 : A.pick (A.pick c1 c2 false) (A.le c 0) false = b := by
    subst hA; rw [h1]; cases c1 <;> cases c2 <;> rfl
  simp only [e1]

theorem add_len {z1 e1 z2 e2 : Int} {L E : Nat} (h1 : (dg z1.natAbs).length ≤ L) (h2 : (dg z2.natAbs).length ≤ L) (b1 : e1.natAbs ≤ E) (b2 : e2.natAbs ≤ E) :
    (dg (cZ (mk z1 e1 + mk z2 e2)).natAbs).length ≤ 2 * (L + E + 1) + 1 := by
  obtain ⟨x, y, e, ha⟩ := align_ex z1 e1 z2 e2
  obtain ⟨v1, v2⟩ := align_mk ha
  obtain ⟨c1, c2, c3⟩ := align_len ha h1 h2 b1 b2
  rw [← v1, ← v2, mk_add]
  refine Nat.le_trans (dg_len_mono (cZ_le _ _)) ?_
  have g1 := dg_len_add x.natAbs y.natAbs
  have g2 : (dg (x + y).natAbs).length ≤ (dg (x.natAbs + y.natAbs)).length := dg_len_mono (by omega)
  omega

end Tryz
end Go.Proofs
