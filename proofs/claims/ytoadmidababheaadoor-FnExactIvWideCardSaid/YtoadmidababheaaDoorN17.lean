/- Contracts: spans. -/
import Derived.Test.YtoadmidababheaaDoorN16
namespace Go.Proofs
open Go Go.Pe Go.Dg
namespace Tryd
set_option linter.unusedSimpArgs false
set_option linter.unusedVariables false
variable {P : Program} {gl : List (Nat × Obj)}

set_option maxHeartbeats 1000000 in
set_option maxRecDepth 100000 in
theorem dyExact_fs (C : Cx P gl) {e : Int} {p : List PV} {s : Bool} : FS P gl 46 [.agg [B s, .lst p, I e]] (· = .agg [B s, .lst p, I e]) := by
  obtain ⟨rfl, hG⟩ := C
  refine FS_ofT (args := fun A => [.agg [B s, .lst p, I e]]) (R := fun A rr => rr = .agg [B s, .lst p, I e]) Tryd.hT Tryd.mix Tryd.func46 rfl rfl (Nat.le_of_ble_eq_true rfl) ?_
  generalize hP : Tryd.prog = P
  intro A hA
  have C : Tryd.Cx P gl := ⟨hP.symm, hG⟩
  have hI : intsL = A.ints := by subst hA; rfl
  all_goals try cbv
  all_goals repeat' (first | with_reducible exact True.intro | with_reducible refine And.intro ?_ ?_ | intro _)
  all_goals try cbv
  all_goals repeat' (first | with_reducible exact True.intro | with_reducible refine And.intro ?_ ?_ | intro _)
  all_goals first | ((first | with_reducible refine lei_of hA ?_ | with_reducible refine lti_of hA ?_ | with_reducible refine ltn_of hA ?_ | with_reducible refine nez_of hA ?_ | with_reducible refine okA_of hA ?_ | with_reducible refine allC_of hA ?_ | with_reducible refine cap_of hA ?_ | with_reducible refine len_le_of hA ?_ | with_reducible refine len_eq_of hA ?_ | with_reducible refine peq_of hA ?_ | with_reducible refine tru_of ?_); subst hA; subst_vars; simp only [AR.std, natCast_eq, sA, sB, sC, sD, reduceCtorEq, Bool.true_eq_false, Bool.false_eq_true] at *; (try simp (disch := omega) only [AR.std, natCast_eq, sA, sB, sC, sD, reduceCtorEq, Bool.true_eq_false, Bool.false_eq_true] at *); first | done | rfl | omega | exact ints_ok _ | exact ints_all _ | (apply ints_part <;> first | omega | rfl)) | (exfalso; subst hA; subst_vars; simp only [AR.std, natCast_eq, sA, sB, sC, sD, reduceCtorEq, Bool.true_eq_false, Bool.false_eq_true] at *; (try simp (disch := omega) only [AR.std, natCast_eq, sA, sB, sC, sD, reduceCtorEq, Bool.true_eq_false, Bool.false_eq_true] at *); first | done | rfl | omega | exact ints_ok _ | exact ints_all _ | (apply ints_part <;> first | omega | rfl)) | skip
  all_goals try cbv
  all_goals repeat' (first | with_reducible exact True.intro | with_reducible refine And.intro ?_ ?_ | intro _)
  all_goals try cbv
  all_goals repeat' (first | with_reducible exact True.intro | with_reducible refine And.intro ?_ ?_ | intro _)
  all_goals first | ((first | with_reducible refine lei_of hA ?_ | with_reducible refine lti_of hA ?_ | with_reducible refine ltn_of hA ?_ | with_reducible refine nez_of hA ?_ | with_reducible refine okA_of hA ?_ | with_reducible refine allC_of hA ?_ | with_reducible refine cap_of hA ?_ | with_reducible refine len_le_of hA ?_ | with_reducible refine len_eq_of hA ?_ | with_reducible refine peq_of hA ?_ | with_reducible refine tru_of ?_); subst hA; subst_vars; simp only [AR.std, natCast_eq, sA, sB, sC, sD, reduceCtorEq, Bool.true_eq_false, Bool.false_eq_true] at *; (try simp (disch := omega) only [AR.std, natCast_eq, sA, sB, sC, sD, reduceCtorEq, Bool.true_eq_false, Bool.false_eq_true] at *); first | done | rfl | omega | exact ints_ok _ | exact ints_all _ | (apply ints_part <;> first | omega | rfl)) | (exfalso; subst hA; subst_vars; simp only [AR.std, natCast_eq, sA, sB, sC, sD, reduceCtorEq, Bool.true_eq_false, Bool.false_eq_true] at *; (try simp (disch := omega) only [AR.std, natCast_eq, sA, sB, sC, sD, reduceCtorEq, Bool.true_eq_false, Bool.false_eq_true] at *); first | done | rfl | omega | exact ints_ok _ | exact ints_all _ | (apply ints_part <;> first | omega | rfl)) | skip

set_option maxHeartbeats 1000000 in
set_option maxRecDepth 100000 in
theorem span_fs (C : Cx P gl) {e f : Int} {p q : List PV} {s t : Bool} : FS P gl 34 [.agg [B s, .lst p, I e, B t, .lst q, I f]] (· = .agg [B s, .lst p, I e, B t, .lst q, I f]) := by
  obtain ⟨rfl, hG⟩ := C
  refine FS_ofT (args := fun A => [.agg [B s, .lst p, I e, B t, .lst q, I f]]) (R := fun A rr => rr = .agg [B s, .lst p, I e, B t, .lst q, I f]) Tryd.hT Tryd.mix Tryd.func34 rfl rfl (Nat.le_of_ble_eq_true rfl) ?_
  generalize hP : Tryd.prog = P
  intro A hA
  have C : Tryd.Cx P gl := ⟨hP.symm, hG⟩
  have hI : intsL = A.ints := by subst hA; rfl
  all_goals try cbv
  all_goals repeat' (first | with_reducible exact True.intro | with_reducible refine And.intro ?_ ?_ | intro _)
  all_goals try cbv
  all_goals repeat' (first | with_reducible exact True.intro | with_reducible refine And.intro ?_ ?_ | intro _)
  all_goals first | ((first | with_reducible refine lei_of hA ?_ | with_reducible refine lti_of hA ?_ | with_reducible refine ltn_of hA ?_ | with_reducible refine nez_of hA ?_ | with_reducible refine okA_of hA ?_ | with_reducible refine allC_of hA ?_ | with_reducible refine cap_of hA ?_ | with_reducible refine len_le_of hA ?_ | with_reducible refine len_eq_of hA ?_ | with_reducible refine peq_of hA ?_ | with_reducible refine tru_of ?_); subst hA; subst_vars; simp only [AR.std, natCast_eq, sA, sB, sC, sD, reduceCtorEq, Bool.true_eq_false, Bool.false_eq_true] at *; (try simp (disch := omega) only [AR.std, natCast_eq, sA, sB, sC, sD, reduceCtorEq, Bool.true_eq_false, Bool.false_eq_true] at *); first | done | rfl | omega | exact ints_ok _ | exact ints_all _ | (apply ints_part <;> first | omega | rfl)) | (exfalso; subst hA; subst_vars; simp only [AR.std, natCast_eq, sA, sB, sC, sD, reduceCtorEq, Bool.true_eq_false, Bool.false_eq_true] at *; (try simp (disch := omega) only [AR.std, natCast_eq, sA, sB, sC, sD, reduceCtorEq, Bool.true_eq_false, Bool.false_eq_true] at *); first | done | rfl | omega | exact ints_ok _ | exact ints_all _ | (apply ints_part <;> first | omega | rfl)) | skip
  refine ⟨_, dyExact_fs C, ?_⟩
  all_goals try cbv
  all_goals repeat' (first | with_reducible exact True.intro | with_reducible refine And.intro ?_ ?_ | intro _)
  all_goals try cbv
  all_goals repeat' (first | with_reducible exact True.intro | with_reducible refine And.intro ?_ ?_ | intro _)
  all_goals first | ((first | with_reducible refine lei_of hA ?_ | with_reducible refine lti_of hA ?_ | with_reducible refine ltn_of hA ?_ | with_reducible refine nez_of hA ?_ | with_reducible refine okA_of hA ?_ | with_reducible refine allC_of hA ?_ | with_reducible refine cap_of hA ?_ | with_reducible refine len_le_of hA ?_ | with_reducible refine len_eq_of hA ?_ | with_reducible refine peq_of hA ?_ | with_reducible refine tru_of ?_); subst hA; subst_vars; simp only [AR.std, natCast_eq, sA, sB, sC, sD, reduceCtorEq, Bool.true_eq_false, Bool.false_eq_true] at *; (try simp (disch := omega) only [AR.std, natCast_eq, sA, sB, sC, sD, reduceCtorEq, Bool.true_eq_false, Bool.false_eq_true] at *); first | done | rfl | omega | exact ints_ok _ | exact ints_all _ | (apply ints_part <;> first | omega | rfl)) | (exfalso; subst hA; subst_vars; simp only [AR.std, natCast_eq, sA, sB, sC, sD, reduceCtorEq, Bool.true_eq_false, Bool.false_eq_true] at *; (try simp (disch := omega) only [AR.std, natCast_eq, sA, sB, sC, sD, reduceCtorEq, Bool.true_eq_false, Bool.false_eq_true] at *); first | done | rfl | omega | exact ints_ok _ | exact ints_all _ | (apply ints_part <;> first | omega | rfl)) | skip
  refine callS hA rfl (dyExact_fs C) ?_; rintro _ rfl
  all_goals try cbv
  all_goals repeat' (first | with_reducible exact True.intro | with_reducible refine And.intro ?_ ?_ | intro _)
  all_goals try cbv
  all_goals repeat' (first | with_reducible exact True.intro | with_reducible refine And.intro ?_ ?_ | intro _)
  all_goals first | ((first | with_reducible refine lei_of hA ?_ | with_reducible refine lti_of hA ?_ | with_reducible refine ltn_of hA ?_ | with_reducible refine nez_of hA ?_ | with_reducible refine okA_of hA ?_ | with_reducible refine allC_of hA ?_ | with_reducible refine cap_of hA ?_ | with_reducible refine len_le_of hA ?_ | with_reducible refine len_eq_of hA ?_ | with_reducible refine peq_of hA ?_ | with_reducible refine tru_of ?_); subst hA; subst_vars; simp only [AR.std, natCast_eq, sA, sB, sC, sD, reduceCtorEq, Bool.true_eq_false, Bool.false_eq_true] at *; (try simp (disch := omega) only [AR.std, natCast_eq, sA, sB, sC, sD, reduceCtorEq, Bool.true_eq_false, Bool.false_eq_true] at *); first | done | rfl | omega | exact ints_ok _ | exact ints_all _ | (apply ints_part <;> first | omega | rfl)) | (exfalso; subst hA; subst_vars; simp only [AR.std, natCast_eq, sA, sB, sC, sD, reduceCtorEq, Bool.true_eq_false, Bool.false_eq_true] at *; (try simp (disch := omega) only [AR.std, natCast_eq, sA, sB, sC, sD, reduceCtorEq, Bool.true_eq_false, Bool.false_eq_true] at *); first | done | rfl | omega | exact ints_ok _ | exact ints_all _ | (apply ints_part <;> first | omega | rfl)) | skip

set_option maxHeartbeats 1000000 in
set_option maxRecDepth 100000 in
theorem wide_fs (C : Cx P gl) {z1 e1 z2 e2 w f : Int} {p q r : List PV} {s t u : Bool} (hp : p = intsL (dg z1.natAbs)) (hs : s = decide (z1 < 0)) (hq : q = intsL (dg z2.natAbs)) (ht : t = decide (z2 < 0))
    (hd : sumD z2 e2 (-z1) e1 w f) (hr : r = intsL (dg w.natAbs)) (hu : u = decide (w < 0))
    (h1 : e1.natAbs ≤ 100000) (h2 : e2.natAbs ≤ 100000) (hl : (dg z1.natAbs).length ≤ 1000000) (hm : (dg z2.natAbs).length ≤ 1000000) :
    FS P gl 35 [.agg [B s, .lst p, I e1, B t, .lst q, I e2]] (· = .agg [B u, .lst r, I f]) := by
  obtain ⟨rfl, hG⟩ := C
  refine FS_ofT (args := fun A => [.agg [B s, .lst p, I e1, B t, .lst q, I e2]]) (R := fun A rr => rr = .agg [B u, .lst r, I f]) Tryd.hT Tryd.mix Tryd.func35 rfl rfl (Nat.le_of_ble_eq_true rfl) ?_
  generalize hP : Tryd.prog = P
  intro A hA
  have C : Tryd.Cx P gl := ⟨hP.symm, hG⟩
  have hI : intsL = A.ints := by subst hA; rfl
  all_goals try cbv
  all_goals repeat' (first | with_reducible exact True.intro | with_reducible refine And.intro ?_ ?_ | intro _)
  all_goals try cbv
  all_goals repeat' (first | with_reducible exact True.intro | with_reducible refine And.intro ?_ ?_ | intro _)
  all_goals first | ((first | with_reducible refine lei_of hA ?_ | with_reducible refine lti_of hA ?_ | with_reducible refine ltn_of hA ?_ | with_reducible refine nez_of hA ?_ | with_reducible refine okA_of hA ?_ | with_reducible refine allC_of hA ?_ | with_reducible refine cap_of hA ?_ | with_reducible refine len_le_of hA ?_ | with_reducible refine len_eq_of hA ?_ | with_reducible refine peq_of hA ?_ | with_reducible refine tru_of ?_); subst hA; subst_vars; simp only [AR.std, natCast_eq, sA, sB, sC, sD, reduceCtorEq, Bool.true_eq_false, Bool.false_eq_true] at *; (try simp (disch := omega) only [AR.std, natCast_eq, sA, sB, sC, sD, reduceCtorEq, Bool.true_eq_false, Bool.false_eq_true] at *); first | done | rfl | omega | exact ints_ok _ | exact ints_all _ | (apply ints_part <;> first | omega | rfl)) | (exfalso; subst hA; subst_vars; simp only [AR.std, natCast_eq, sA, sB, sC, sD, reduceCtorEq, Bool.true_eq_false, Bool.false_eq_true] at *; (try simp (disch := omega) only [AR.std, natCast_eq, sA, sB, sC, sD, reduceCtorEq, Bool.true_eq_false, Bool.false_eq_true] at *); first | done | rfl | omega | exact ints_ok _ | exact ints_all _ | (apply ints_part <;> first | omega | rfl)) | skip
  refine callS hA rfl (exactMinus_fs C hq ht hp hs hd hr hu h2 h1 hm hl) ?_; rintro _ rfl
  all_goals try cbv
  all_goals repeat' (first | with_reducible exact True.intro | with_reducible refine And.intro ?_ ?_ | intro _)
  all_goals try cbv
  all_goals repeat' (first | with_reducible exact True.intro | with_reducible refine And.intro ?_ ?_ | intro _)
  all_goals first | ((first | with_reducible refine lei_of hA ?_ | with_reducible refine lti_of hA ?_ | with_reducible refine ltn_of hA ?_ | with_reducible refine nez_of hA ?_ | with_reducible refine okA_of hA ?_ | with_reducible refine allC_of hA ?_ | with_reducible refine cap_of hA ?_ | with_reducible refine len_le_of hA ?_ | with_reducible refine len_eq_of hA ?_ | with_reducible refine peq_of hA ?_ | with_reducible refine tru_of ?_); subst hA; subst_vars; simp only [AR.std, natCast_eq, sA, sB, sC, sD, reduceCtorEq, Bool.true_eq_false, Bool.false_eq_true] at *; (try simp (disch := omega) only [AR.std, natCast_eq, sA, sB, sC, sD, reduceCtorEq, Bool.true_eq_false, Bool.false_eq_true] at *); first | done | rfl | omega | exact ints_ok _ | exact ints_all _ | (apply ints_part <;> first | omega | rfl)) | (exfalso; subst hA; subst_vars; simp only [AR.std, natCast_eq, sA, sB, sC, sD, reduceCtorEq, Bool.true_eq_false, Bool.false_eq_true] at *; (try simp (disch := omega) only [AR.std, natCast_eq, sA, sB, sC, sD, reduceCtorEq, Bool.true_eq_false, Bool.false_eq_true] at *); first | done | rfl | omega | exact ints_ok _ | exact ints_all _ | (apply ints_part <;> first | omega | rfl)) | skip

end Tryd
end Go.Proofs
