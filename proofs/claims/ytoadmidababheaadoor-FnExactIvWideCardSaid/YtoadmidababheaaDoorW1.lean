/- The law FnExactIvWide's body returns true. -/
import Derived.Test.YtoadmidababheaaDoorN23
import Derived.Test.YtoadmidababheaaDoorL1
import Derived.Test.YtoadmidababheaaDoorL2
import Derived.Test.YtoadmidababheaaDoorL3b
import Derived.Test.YtoadmidababheaaDoorL4
namespace Go.Proofs
open Go Go.Pe Go.Dg
namespace Tryd
set_option linter.unusedSimpArgs false
set_option linter.unusedVariables false
variable {P : Program} {gl : List (Nat × Obj)}

set_option maxHeartbeats 1000000 in
set_option maxRecDepth 100000 in
/-- too long an argument -/
theorem lawL_fs (C : Cx P gl) {l m : List Int} {e f : Int} {p q : List PV} {s t : Bool} (hp : p = intsL l) (hq : q = intsL m) (hl : l.length ≤ 9223372036854775807) (hm : m.length ≤ 9223372036854775807) (hbig : 1048576 < l.length + m.length) :
    FS P gl 3 [.agg [B s, .lst p, I e, B t, .lst q, I f]] (· = B true) := by
  obtain ⟨r, hr⟩ : ∃ r : Int, r = if (l.length : Int) + m.length ≤ 1048576 then (1048576 : Int) - l.length - m.length else -1 := ⟨_, rfl⟩
  have hr0 : r = -1 := by rw [hr, if_neg (by omega)]
  obtain ⟨rfl, hG⟩ := C
  refine FS_ofT (args := fun A => [.agg [B s, .lst p, I e, B t, .lst q, I f]]) (R := fun A rr => rr = B true) Tryd.hT Tryd.mix Tryd.func3 rfl rfl (Nat.le_of_ble_eq_true rfl) ?_
  generalize hP : Tryd.prog = P
  intro A hA
  have C : Tryd.Cx P gl := ⟨hP.symm, hG⟩
  have hI : intsL = A.ints := by subst hA; rfl
  all_goals try cbv
  all_goals repeat' (first | with_reducible exact True.intro | with_reducible refine And.intro ?_ ?_ | intro _)
  all_goals try cbv
  all_goals repeat' (first | with_reducible exact True.intro | with_reducible refine And.intro ?_ ?_ | intro _)
  all_goals first | ((first | with_reducible refine lei_of hA ?_ | with_reducible refine lti_of hA ?_ | with_reducible refine ltn_of hA ?_ | with_reducible refine nez_of hA ?_ | with_reducible refine okA_of hA ?_ | with_reducible refine allC_of hA ?_ | with_reducible refine cap_of hA ?_ | with_reducible refine len_le_of hA ?_ | with_reducible refine len_eq_of hA ?_ | with_reducible refine peq_of hA ?_ | with_reducible refine tru_of ?_); subst hA; subst_vars; simp only [AR.std, natCast_eq, sA, sB, sC, sD, reduceCtorEq, Bool.true_eq_false, Bool.false_eq_true] at *; (try simp (disch := omega) only [AR.std, natCast_eq, sA, sB, sC, sD, reduceCtorEq, Bool.true_eq_false, Bool.false_eq_true] at *); first | done | rfl | omega | exact ints_ok _ | exact ints_all _ | (apply ints_part <;> first | omega | rfl)) | (exfalso; subst hA; subst_vars; simp only [AR.std, natCast_eq, sA, sB, sC, sD, reduceCtorEq, Bool.true_eq_false, Bool.false_eq_true] at *; (try simp (disch := omega) only [AR.std, natCast_eq, sA, sB, sC, sD, reduceCtorEq, Bool.true_eq_false, Bool.false_eq_true] at *); first | done | rfl | omega | exact ints_ok _ | exact ints_all _ | (apply ints_part <;> first | omega | rfl)) | skip
  refine callS hA rfl (szIv_fs C hp hq hl hm (by decide) (by decide) hr) ?_; rintro _ rfl
  all_goals try cbv
  all_goals repeat' (first | with_reducible exact True.intro | with_reducible refine And.intro ?_ ?_ | intro _)
  all_goals try cbv
  all_goals repeat' (first | with_reducible exact True.intro | with_reducible refine And.intro ?_ ?_ | intro _)
  all_goals first | ((first | with_reducible refine lei_of hA ?_ | with_reducible refine lti_of hA ?_ | with_reducible refine ltn_of hA ?_ | with_reducible refine nez_of hA ?_ | with_reducible refine okA_of hA ?_ | with_reducible refine allC_of hA ?_ | with_reducible refine cap_of hA ?_ | with_reducible refine len_le_of hA ?_ | with_reducible refine len_eq_of hA ?_ | with_reducible refine peq_of hA ?_ | with_reducible refine tru_of ?_); subst hA; subst_vars; simp only [AR.std, natCast_eq, sA, sB, sC, sD, reduceCtorEq, Bool.true_eq_false, Bool.false_eq_true] at *; (try simp (disch := omega) only [AR.std, natCast_eq, sA, sB, sC, sD, reduceCtorEq, Bool.true_eq_false, Bool.false_eq_true] at *); first | done | rfl | omega | exact ints_ok _ | exact ints_all _ | (apply ints_part <;> first | omega | rfl)) | (exfalso; subst hA; subst_vars; simp only [AR.std, natCast_eq, sA, sB, sC, sD, reduceCtorEq, Bool.true_eq_false, Bool.false_eq_true] at *; (try simp (disch := omega) only [AR.std, natCast_eq, sA, sB, sC, sD, reduceCtorEq, Bool.true_eq_false, Bool.false_eq_true] at *); first | done | rfl | omega | exact ints_ok _ | exact ints_all _ | (apply ints_part <;> first | omega | rfl)) | skip
  all_goals (exfalso; rename_i g; clear hr; (subst hA; subst_vars; simp only [AR.std, natCast_eq, sA, sB, sC, sD, reduceCtorEq, Bool.true_eq_false, Bool.false_eq_true] at *; try simp (disch := omega) only [AR.std, natCast_eq, sA, sB, sC, sD, reduceCtorEq, Bool.true_eq_false, Bool.false_eq_true] at *); omega)

set_option maxHeartbeats 2000000 in
set_option maxRecDepth 100000 in
/-- a width of memory of its own -/
theorem lawO_fs (C : Cx P gl) {l m : List Int} {e f : Int} {p q : List PV} {s t : Bool} (hp : p = intsL l) (hq : q = intsL m) (hbig : l.length + m.length ≤ 1048576) (hok : ivOk s l e t m f) (hfit : fits (dval t m f - dval s l e)) (hn : dval t m f - dval s l e ≠ 0) :
    FS P gl 3 [.agg [B s, .lst p, I e, B t, .lst q, I f]] (· = B true) := by
  obtain ⟨k, hr⟩ : ∃ r : Int, r = if (l.length : Int) + m.length ≤ 1048576 then (1048576 : Int) - l.length - m.length else -1 := ⟨_, rfl⟩
  have hr0 : 0 ≤ k := by rw [hr, if_pos (by omega)]; omega
  obtain ⟨d, hd⟩ : ∃ d, d = dval t m f - dval s l e := ⟨_, rfl⟩
  rw [← hd] at hfit hn
  obtain ⟨o, ho⟩ : ∃ o, o = dg (cZ d).natAbs := ⟨_, rfl⟩
  obtain ⟨r, hrr⟩ : ∃ r, r = intsL o := ⟨_, rfl⟩
  obtain ⟨u, hu⟩ : ∃ u, u = decide (cZ d < 0) := ⟨_, rfl⟩
  obtain ⟨g, hg⟩ : ∃ g, g = cE d := ⟨_, rfl⟩
  have hw : true = true ↔ ivOk s l e t m f ∧ fits (dval t m f - dval s l e) := by rw [← hd]; exact ⟨fun _ => ⟨hok, hfit⟩, fun _ => rfl⟩
  have hout : outD true (dval t m f - dval s l e) u o g := by rw [← hd]; exact ⟨fun _ => ⟨hu, ho, hg⟩, fun h => absurd h (by decide)⟩
  have hol : o.length ≤ 100 := by rw [ho]; exact hfit.1
  have hspec := fun (P' : Program) (C' : Cx P' gl) => @specIvWide_fs P' gl C' l m o e f g p q r s t u true hp hq hrr hw hout (by omega) (by omega)
  have himpl := fun (P' : Program) (C' : Cx P' gl) => @implIvWide_fn P' gl C' l m e f g p q r s t u d hp hq hok hd hfit hn (by rw [hrr, ho]) hu hg (by omega) (by omega)
  obtain ⟨p2, hp2⟩ : ∃ p2, p2 = intsL (up1 1 l.length) := ⟨_, rfl⟩
  obtain ⟨k2, hk2⟩ : ∃ k2 : Int, k2 = 1 + l.length := ⟨_, rfl⟩
  obtain ⟨q2, hq2⟩ : ∃ q2, q2 = intsL (up1 k2 m.length) := ⟨_, rfl⟩
  obtain ⟨k3, hk3⟩ : ∃ k3 : Int, k3 = k2 + m.length := ⟨_, rfl⟩
  obtain ⟨r2, hr2⟩ : ∃ r2, r2 = intsL (up1 1 o.length) := ⟨_, rfl⟩
  obtain ⟨k4, hk4⟩ : ∃ k4 : Int, k4 = 1 + o.length := ⟨_, rfl⟩
  have hk30 : 0 ≤ k3 := by omega
  have hk40 : 0 ≤ k4 := by omega
  have hl1 : l.length ≤ 2000000 := by omega
  have hm1 : m.length ≤ 2000000 := by omega
  have ho1 : o.length ≤ 2000000 := by omega
  have hmark := fun (P' : Program) (C' : Cx P' gl) => @markIv_fx P' gl C' l m p q p2 q2 1 k2 k3 s t e f hp hp2 hk2 hq hq2 hk3 hl1 hm1 (by decide) (by decide)
  have hmarkd := fun (P' : Program) (C' : Cx P' gl) => @markDy_fx P' gl C' o r r2 1 k4 u g hrr hr2 hk4 ho1 (by decide) (by decide)
  have hheld := fun (P' : Program) (C' : Cx P' gl) => @heldDy_fs P' gl C' o.length r2 1 k4 u g hr2 hk4 ho1 (by decide) (by decide)
  clear hw hout hok hd hfit hn
  obtain ⟨rfl, hG⟩ := C
  refine FS_ofT (args := fun A => [.agg [B s, .lst p, I e, B t, .lst q, I f]]) (R := fun A rr => rr = B true) Tryd.hT Tryd.mix Tryd.func3 rfl rfl (Nat.le_of_ble_eq_true rfl) ?_
  generalize hP : Tryd.prog = P
  intro A hA
  have C : Tryd.Cx P gl := ⟨hP.symm, hG⟩
  have hI : intsL = A.ints := by subst hA; rfl
  all_goals try cbv
  all_goals repeat' (first | with_reducible exact True.intro | with_reducible refine And.intro ?_ ?_ | intro _)
  all_goals try cbv
  all_goals repeat' (first | with_reducible exact True.intro | with_reducible refine And.intro ?_ ?_ | intro _)
  all_goals first | ((first | with_reducible refine lei_of hA ?_ | with_reducible refine lti_of hA ?_ | with_reducible refine ltn_of hA ?_ | with_reducible refine nez_of hA ?_ | with_reducible refine okA_of hA ?_ | with_reducible refine allC_of hA ?_ | with_reducible refine cap_of hA ?_ | with_reducible refine len_le_of hA ?_ | with_reducible refine len_eq_of hA ?_ | with_reducible refine peq_of hA ?_ | with_reducible refine tru_of ?_); subst hA; subst_vars; simp only [AR.std, natCast_eq, sA, sB, sC, sD, reduceCtorEq, Bool.true_eq_false, Bool.false_eq_true] at *; (try simp (disch := omega) only [AR.std, natCast_eq, sA, sB, sC, sD, reduceCtorEq, Bool.true_eq_false, Bool.false_eq_true] at *); first | done | rfl | omega | exact ints_ok _ | exact ints_all _ | (apply ints_part <;> first | omega | rfl)) | (exfalso; subst hA; subst_vars; simp only [AR.std, natCast_eq, sA, sB, sC, sD, reduceCtorEq, Bool.true_eq_false, Bool.false_eq_true] at *; (try simp (disch := omega) only [AR.std, natCast_eq, sA, sB, sC, sD, reduceCtorEq, Bool.true_eq_false, Bool.false_eq_true] at *); first | done | rfl | omega | exact ints_ok _ | exact ints_all _ | (apply ints_part <;> first | omega | rfl)) | skip
  refine callS hA rfl (szIv_fs C hp hq (by omega) (by omega) (by decide) (by decide) hr) ?_; rintro _ rfl
  clear hr
  all_goals try cbv
  all_goals repeat' (first | with_reducible exact True.intro | with_reducible refine And.intro ?_ ?_ | intro _)
  all_goals try cbv
  all_goals repeat' (first | with_reducible exact True.intro | with_reducible refine And.intro ?_ ?_ | intro _)
  all_goals first | ((first | with_reducible refine lei_of hA ?_ | with_reducible refine lti_of hA ?_ | with_reducible refine ltn_of hA ?_ | with_reducible refine nez_of hA ?_ | with_reducible refine okA_of hA ?_ | with_reducible refine allC_of hA ?_ | with_reducible refine cap_of hA ?_ | with_reducible refine len_le_of hA ?_ | with_reducible refine len_eq_of hA ?_ | with_reducible refine peq_of hA ?_ | with_reducible refine tru_of ?_); subst hA; subst_vars; simp only [AR.std, natCast_eq, sA, sB, sC, sD, reduceCtorEq, Bool.true_eq_false, Bool.false_eq_true] at *; (try simp (disch := omega) only [AR.std, natCast_eq, sA, sB, sC, sD, reduceCtorEq, Bool.true_eq_false, Bool.false_eq_true] at *); first | done | rfl | omega | exact ints_ok _ | exact ints_all _ | (apply ints_part <;> first | omega | rfl)) | (exfalso; subst hA; subst_vars; simp only [AR.std, natCast_eq, sA, sB, sC, sD, reduceCtorEq, Bool.true_eq_false, Bool.false_eq_true] at *; (try simp (disch := omega) only [AR.std, natCast_eq, sA, sB, sC, sD, reduceCtorEq, Bool.true_eq_false, Bool.false_eq_true] at *); first | done | rfl | omega | exact ints_ok _ | exact ints_all _ | (apply ints_part <;> first | omega | rfl)) | skip
  refine callN hA rfl (toIv_fn C hp hq hl1 hm1) ?_; rintro _ _ ⟨rfl, rfl⟩; refine ⟨rfl, ?_⟩
  all_goals try cbv
  all_goals repeat' (first | with_reducible exact True.intro | with_reducible refine And.intro ?_ ?_ | intro _)
  all_goals try cbv
  all_goals repeat' (first | with_reducible exact True.intro | with_reducible refine And.intro ?_ ?_ | intro _)
  all_goals first | ((first | with_reducible refine lei_of hA ?_ | with_reducible refine lti_of hA ?_ | with_reducible refine ltn_of hA ?_ | with_reducible refine nez_of hA ?_ | with_reducible refine okA_of hA ?_ | with_reducible refine allC_of hA ?_ | with_reducible refine cap_of hA ?_ | with_reducible refine len_le_of hA ?_ | with_reducible refine len_eq_of hA ?_ | with_reducible refine peq_of hA ?_ | with_reducible refine tru_of ?_); subst hA; subst_vars; simp only [AR.std, natCast_eq, sA, sB, sC, sD, reduceCtorEq, Bool.true_eq_false, Bool.false_eq_true] at *; (try simp (disch := omega) only [AR.std, natCast_eq, sA, sB, sC, sD, reduceCtorEq, Bool.true_eq_false, Bool.false_eq_true] at *); first | done | rfl | omega | exact ints_ok _ | exact ints_all _ | (apply ints_part <;> first | omega | rfl)) | (exfalso; subst hA; subst_vars; simp only [AR.std, natCast_eq, sA, sB, sC, sD, reduceCtorEq, Bool.true_eq_false, Bool.false_eq_true] at *; (try simp (disch := omega) only [AR.std, natCast_eq, sA, sB, sC, sD, reduceCtorEq, Bool.true_eq_false, Bool.false_eq_true] at *); first | done | rfl | omega | exact ints_ok _ | exact ints_all _ | (apply ints_part <;> first | omega | rfl)) | skip
  refine callS hA rfl (hspec P C) ?_; rintro _ rfl
  all_goals try cbv
  all_goals repeat' (first | with_reducible exact True.intro | with_reducible refine And.intro ?_ ?_ | intro _)
  all_goals try cbv
  all_goals repeat' (first | with_reducible exact True.intro | with_reducible refine And.intro ?_ ?_ | intro _)
  all_goals first | ((first | with_reducible refine lei_of hA ?_ | with_reducible refine lti_of hA ?_ | with_reducible refine ltn_of hA ?_ | with_reducible refine nez_of hA ?_ | with_reducible refine okA_of hA ?_ | with_reducible refine allC_of hA ?_ | with_reducible refine cap_of hA ?_ | with_reducible refine len_le_of hA ?_ | with_reducible refine len_eq_of hA ?_ | with_reducible refine peq_of hA ?_ | with_reducible refine tru_of ?_); subst hA; subst_vars; simp only [AR.std, natCast_eq, sA, sB, sC, sD, reduceCtorEq, Bool.true_eq_false, Bool.false_eq_true] at *; (try simp (disch := omega) only [AR.std, natCast_eq, sA, sB, sC, sD, reduceCtorEq, Bool.true_eq_false, Bool.false_eq_true] at *); first | done | rfl | omega | exact ints_ok _ | exact ints_all _ | (apply ints_part <;> first | omega | rfl)) | (exfalso; subst hA; subst_vars; simp only [AR.std, natCast_eq, sA, sB, sC, sD, reduceCtorEq, Bool.true_eq_false, Bool.false_eq_true] at *; (try simp (disch := omega) only [AR.std, natCast_eq, sA, sB, sC, sD, reduceCtorEq, Bool.true_eq_false, Bool.false_eq_true] at *); first | done | rfl | omega | exact ints_ok _ | exact ints_all _ | (apply ints_part <;> first | omega | rfl)) | skip
  refine callN hA rfl (toIv_fn C hp hq hl1 hm1) ?_; rintro _ _ ⟨rfl, rfl⟩; refine ⟨rfl, ?_⟩
  all_goals try cbv
  all_goals repeat' (first | with_reducible exact True.intro | with_reducible refine And.intro ?_ ?_ | intro _)
  all_goals try cbv
  all_goals repeat' (first | with_reducible exact True.intro | with_reducible refine And.intro ?_ ?_ | intro _)
  all_goals first | ((first | with_reducible refine lei_of hA ?_ | with_reducible refine lti_of hA ?_ | with_reducible refine ltn_of hA ?_ | with_reducible refine nez_of hA ?_ | with_reducible refine okA_of hA ?_ | with_reducible refine allC_of hA ?_ | with_reducible refine cap_of hA ?_ | with_reducible refine len_le_of hA ?_ | with_reducible refine len_eq_of hA ?_ | with_reducible refine peq_of hA ?_ | with_reducible refine tru_of ?_); subst hA; subst_vars; simp only [AR.std, natCast_eq, sA, sB, sC, sD, reduceCtorEq, Bool.true_eq_false, Bool.false_eq_true] at *; (try simp (disch := omega) only [AR.std, natCast_eq, sA, sB, sC, sD, reduceCtorEq, Bool.true_eq_false, Bool.false_eq_true] at *); first | done | rfl | omega | exact ints_ok _ | exact ints_all _ | (apply ints_part <;> first | omega | rfl)) | (exfalso; subst hA; subst_vars; simp only [AR.std, natCast_eq, sA, sB, sC, sD, reduceCtorEq, Bool.true_eq_false, Bool.false_eq_true] at *; (try simp (disch := omega) only [AR.std, natCast_eq, sA, sB, sC, sD, reduceCtorEq, Bool.true_eq_false, Bool.false_eq_true] at *); first | done | rfl | omega | exact ints_ok _ | exact ints_all _ | (apply ints_part <;> first | omega | rfl)) | skip
  refine callN hA rfl (himpl P C) ?_; rintro _ _ ⟨rfl, rfl⟩; refine ⟨rfl, ?_⟩
  all_goals try cbv
  all_goals repeat' (first | with_reducible exact True.intro | with_reducible refine And.intro ?_ ?_ | intro _)
  all_goals try cbv
  all_goals repeat' (first | with_reducible exact True.intro | with_reducible refine And.intro ?_ ?_ | intro _)
  all_goals first | ((first | with_reducible refine lei_of hA ?_ | with_reducible refine lti_of hA ?_ | with_reducible refine ltn_of hA ?_ | with_reducible refine nez_of hA ?_ | with_reducible refine okA_of hA ?_ | with_reducible refine allC_of hA ?_ | with_reducible refine cap_of hA ?_ | with_reducible refine len_le_of hA ?_ | with_reducible refine len_eq_of hA ?_ | with_reducible refine peq_of hA ?_ | with_reducible refine tru_of ?_); subst hA; subst_vars; simp only [AR.std, natCast_eq, sA, sB, sC, sD, reduceCtorEq, Bool.true_eq_false, Bool.false_eq_true] at *; (try simp (disch := omega) only [AR.std, natCast_eq, sA, sB, sC, sD, reduceCtorEq, Bool.true_eq_false, Bool.false_eq_true] at *); first | done | rfl | omega | exact ints_ok _ | exact ints_all _ | (apply ints_part <;> first | omega | rfl)) | (exfalso; subst hA; subst_vars; simp only [AR.std, natCast_eq, sA, sB, sC, sD, reduceCtorEq, Bool.true_eq_false, Bool.false_eq_true] at *; (try simp (disch := omega) only [AR.std, natCast_eq, sA, sB, sC, sD, reduceCtorEq, Bool.true_eq_false, Bool.false_eq_true] at *); first | done | rfl | omega | exact ints_ok _ | exact ints_all _ | (apply ints_part <;> first | omega | rfl)) | skip
  refine callB hA rfl (eqDy_fs C hrr ho1) ?_; rintro _ rfl; refine ⟨⟨_, rfl⟩, ?_⟩
  all_goals try cbv
  all_goals repeat' (first | with_reducible exact True.intro | with_reducible refine And.intro ?_ ?_ | intro _)
  all_goals try cbv
  all_goals repeat' (first | with_reducible exact True.intro | with_reducible refine And.intro ?_ ?_ | intro _)
  all_goals first | ((first | with_reducible refine lei_of hA ?_ | with_reducible refine lti_of hA ?_ | with_reducible refine ltn_of hA ?_ | with_reducible refine nez_of hA ?_ | with_reducible refine okA_of hA ?_ | with_reducible refine allC_of hA ?_ | with_reducible refine cap_of hA ?_ | with_reducible refine len_le_of hA ?_ | with_reducible refine len_eq_of hA ?_ | with_reducible refine peq_of hA ?_ | with_reducible refine tru_of ?_); subst hA; subst_vars; simp only [AR.std, natCast_eq, sA, sB, sC, sD, reduceCtorEq, Bool.true_eq_false, Bool.false_eq_true] at *; (try simp (disch := omega) only [AR.std, natCast_eq, sA, sB, sC, sD, reduceCtorEq, Bool.true_eq_false, Bool.false_eq_true] at *); first | done | rfl | omega | exact ints_ok _ | exact ints_all _ | (apply ints_part <;> first | omega | rfl)) | (exfalso; subst hA; subst_vars; simp only [AR.std, natCast_eq, sA, sB, sC, sD, reduceCtorEq, Bool.true_eq_false, Bool.false_eq_true] at *; (try simp (disch := omega) only [AR.std, natCast_eq, sA, sB, sC, sD, reduceCtorEq, Bool.true_eq_false, Bool.false_eq_true] at *); first | done | rfl | omega | exact ints_ok _ | exact ints_all _ | (apply ints_part <;> first | omega | rfl)) | skip
  refine ⟨_, toIv_fs C hp hq hl1 hm1, ?_⟩
  all_goals try cbv
  all_goals repeat' (first | with_reducible exact True.intro | with_reducible refine And.intro ?_ ?_ | intro _)
  all_goals try cbv
  all_goals repeat' (first | with_reducible exact True.intro | with_reducible refine And.intro ?_ ?_ | intro _)
  all_goals first | ((first | with_reducible refine lei_of hA ?_ | with_reducible refine lti_of hA ?_ | with_reducible refine ltn_of hA ?_ | with_reducible refine nez_of hA ?_ | with_reducible refine okA_of hA ?_ | with_reducible refine allC_of hA ?_ | with_reducible refine cap_of hA ?_ | with_reducible refine len_le_of hA ?_ | with_reducible refine len_eq_of hA ?_ | with_reducible refine peq_of hA ?_ | with_reducible refine tru_of ?_); subst hA; subst_vars; simp only [AR.std, natCast_eq, sA, sB, sC, sD, reduceCtorEq, Bool.true_eq_false, Bool.false_eq_true] at *; (try simp (disch := omega) only [AR.std, natCast_eq, sA, sB, sC, sD, reduceCtorEq, Bool.true_eq_false, Bool.false_eq_true] at *); first | done | rfl | omega | exact ints_ok _ | exact ints_all _ | (apply ints_part <;> first | omega | rfl)) | (exfalso; subst hA; subst_vars; simp only [AR.std, natCast_eq, sA, sB, sC, sD, reduceCtorEq, Bool.true_eq_false, Bool.false_eq_true] at *; (try simp (disch := omega) only [AR.std, natCast_eq, sA, sB, sC, sD, reduceCtorEq, Bool.true_eq_false, Bool.false_eq_true] at *); first | done | rfl | omega | exact ints_ok _ | exact ints_all _ | (apply ints_part <;> first | omega | rfl)) | skip
  refine callB hA rfl (eqIv_fs C hp hq hl1 hm1) ?_; rintro _ rfl; refine ⟨⟨_, rfl⟩, ?_⟩
  all_goals try cbv
  all_goals repeat' (first | with_reducible exact True.intro | with_reducible refine And.intro ?_ ?_ | intro _)
  all_goals try cbv
  all_goals repeat' (first | with_reducible exact True.intro | with_reducible refine And.intro ?_ ?_ | intro _)
  all_goals first | ((first | with_reducible refine lei_of hA ?_ | with_reducible refine lti_of hA ?_ | with_reducible refine ltn_of hA ?_ | with_reducible refine nez_of hA ?_ | with_reducible refine okA_of hA ?_ | with_reducible refine allC_of hA ?_ | with_reducible refine cap_of hA ?_ | with_reducible refine len_le_of hA ?_ | with_reducible refine len_eq_of hA ?_ | with_reducible refine peq_of hA ?_ | with_reducible refine tru_of ?_); subst hA; subst_vars; simp only [AR.std, natCast_eq, sA, sB, sC, sD, reduceCtorEq, Bool.true_eq_false, Bool.false_eq_true] at *; (try simp (disch := omega) only [AR.std, natCast_eq, sA, sB, sC, sD, reduceCtorEq, Bool.true_eq_false, Bool.false_eq_true] at *); first | done | rfl | omega | exact ints_ok _ | exact ints_all _ | (apply ints_part <;> first | omega | rfl)) | (exfalso; subst hA; subst_vars; simp only [AR.std, natCast_eq, sA, sB, sC, sD, reduceCtorEq, Bool.true_eq_false, Bool.false_eq_true] at *; (try simp (disch := omega) only [AR.std, natCast_eq, sA, sB, sC, sD, reduceCtorEq, Bool.true_eq_false, Bool.false_eq_true] at *); first | done | rfl | omega | exact ints_ok _ | exact ints_all _ | (apply ints_part <;> first | omega | rfl)) | skip
  refine callX hA [4, 5] (by decide) rfl rfl rfl (hmark P C) ?_
  rintro _ _ ⟨rfl, rfl⟩
  refine ⟨rfl, ?_⟩
  all_goals try cbv
  all_goals repeat' (first | with_reducible exact True.intro | with_reducible refine And.intro ?_ ?_ | intro _)
  all_goals try cbv
  all_goals repeat' (first | with_reducible exact True.intro | with_reducible refine And.intro ?_ ?_ | intro _)
  all_goals first | ((first | with_reducible refine lei_of hA ?_ | with_reducible refine lti_of hA ?_ | with_reducible refine ltn_of hA ?_ | with_reducible refine nez_of hA ?_ | with_reducible refine okA_of hA ?_ | with_reducible refine allC_of hA ?_ | with_reducible refine cap_of hA ?_ | with_reducible refine len_le_of hA ?_ | with_reducible refine len_eq_of hA ?_ | with_reducible refine peq_of hA ?_ | with_reducible refine tru_of ?_); subst hA; subst_vars; simp only [AR.std, natCast_eq, sA, sB, sC, sD, reduceCtorEq, Bool.true_eq_false, Bool.false_eq_true] at *; (try simp (disch := omega) only [AR.std, natCast_eq, sA, sB, sC, sD, reduceCtorEq, Bool.true_eq_false, Bool.false_eq_true] at *); first | done | rfl | omega | exact ints_ok _ | exact ints_all _ | (apply ints_part <;> first | omega | rfl)) | (exfalso; subst hA; subst_vars; simp only [AR.std, natCast_eq, sA, sB, sC, sD, reduceCtorEq, Bool.true_eq_false, Bool.false_eq_true] at *; (try simp (disch := omega) only [AR.std, natCast_eq, sA, sB, sC, sD, reduceCtorEq, Bool.true_eq_false, Bool.false_eq_true] at *); first | done | rfl | omega | exact ints_ok _ | exact ints_all _ | (apply ints_part <;> first | omega | rfl)) | skip
  refine ⟨_, fun _ => eqDy_fs C hrr ho1, ⟨_, rfl⟩, ?_⟩
  all_goals try cbv
  all_goals repeat' (first | with_reducible exact True.intro | with_reducible refine And.intro ?_ ?_ | intro _)
  all_goals try cbv
  all_goals repeat' (first | with_reducible exact True.intro | with_reducible refine And.intro ?_ ?_ | intro _)
  all_goals first | ((first | with_reducible refine lei_of hA ?_ | with_reducible refine lti_of hA ?_ | with_reducible refine ltn_of hA ?_ | with_reducible refine nez_of hA ?_ | with_reducible refine okA_of hA ?_ | with_reducible refine allC_of hA ?_ | with_reducible refine cap_of hA ?_ | with_reducible refine len_le_of hA ?_ | with_reducible refine len_eq_of hA ?_ | with_reducible refine peq_of hA ?_ | with_reducible refine tru_of ?_); subst hA; subst_vars; simp only [AR.std, natCast_eq, sA, sB, sC, sD, reduceCtorEq, Bool.true_eq_false, Bool.false_eq_true] at *; (try simp (disch := omega) only [AR.std, natCast_eq, sA, sB, sC, sD, reduceCtorEq, Bool.true_eq_false, Bool.false_eq_true] at *); first | done | rfl | omega | exact ints_ok _ | exact ints_all _ | (apply ints_part <;> first | omega | rfl)) | (exfalso; subst hA; subst_vars; simp only [AR.std, natCast_eq, sA, sB, sC, sD, reduceCtorEq, Bool.true_eq_false, Bool.false_eq_true] at *; (try simp (disch := omega) only [AR.std, natCast_eq, sA, sB, sC, sD, reduceCtorEq, Bool.true_eq_false, Bool.false_eq_true] at *); first | done | rfl | omega | exact ints_ok _ | exact ints_all _ | (apply ints_part <;> first | omega | rfl)) | skip
  refine callX hA [7] (by decide) rfl rfl rfl (hmarkd P C) ?_
  rintro _ _ ⟨rfl, rfl⟩
  refine ⟨rfl, ?_⟩
  all_goals try cbv
  all_goals repeat' (first | with_reducible exact True.intro | with_reducible refine And.intro ?_ ?_ | intro _)
  all_goals try cbv
  all_goals repeat' (first | with_reducible exact True.intro | with_reducible refine And.intro ?_ ?_ | intro _)
  all_goals first | ((first | with_reducible refine lei_of hA ?_ | with_reducible refine lti_of hA ?_ | with_reducible refine ltn_of hA ?_ | with_reducible refine nez_of hA ?_ | with_reducible refine okA_of hA ?_ | with_reducible refine allC_of hA ?_ | with_reducible refine cap_of hA ?_ | with_reducible refine len_le_of hA ?_ | with_reducible refine len_eq_of hA ?_ | with_reducible refine peq_of hA ?_ | with_reducible refine tru_of ?_); subst hA; subst_vars; simp only [AR.std, natCast_eq, sA, sB, sC, sD, reduceCtorEq, Bool.true_eq_false, Bool.false_eq_true] at *; (try simp (disch := omega) only [AR.std, natCast_eq, sA, sB, sC, sD, reduceCtorEq, Bool.true_eq_false, Bool.false_eq_true] at *); first | done | rfl | omega | exact ints_ok _ | exact ints_all _ | (apply ints_part <;> first | omega | rfl)) | (exfalso; subst hA; subst_vars; simp only [AR.std, natCast_eq, sA, sB, sC, sD, reduceCtorEq, Bool.true_eq_false, Bool.false_eq_true] at *; (try simp (disch := omega) only [AR.std, natCast_eq, sA, sB, sC, sD, reduceCtorEq, Bool.true_eq_false, Bool.false_eq_true] at *); first | done | rfl | omega | exact ints_ok _ | exact ints_all _ | (apply ints_part <;> first | omega | rfl)) | skip
  refine callB hA rfl (hheld P C) ?_; rintro _ rfl; refine ⟨⟨_, rfl⟩, ?_⟩
  all_goals try cbv
  all_goals repeat' (first | with_reducible exact True.intro | with_reducible refine And.intro ?_ ?_ | intro _)
  all_goals try cbv
  all_goals repeat' (first | with_reducible exact True.intro | with_reducible refine And.intro ?_ ?_ | intro _)
  all_goals first | ((first | with_reducible refine lei_of hA ?_ | with_reducible refine lti_of hA ?_ | with_reducible refine ltn_of hA ?_ | with_reducible refine nez_of hA ?_ | with_reducible refine okA_of hA ?_ | with_reducible refine allC_of hA ?_ | with_reducible refine cap_of hA ?_ | with_reducible refine len_le_of hA ?_ | with_reducible refine len_eq_of hA ?_ | with_reducible refine peq_of hA ?_ | with_reducible refine tru_of ?_); subst hA; subst_vars; simp only [AR.std, natCast_eq, sA, sB, sC, sD, reduceCtorEq, Bool.true_eq_false, Bool.false_eq_true] at *; (try simp (disch := omega) only [AR.std, natCast_eq, sA, sB, sC, sD, reduceCtorEq, Bool.true_eq_false, Bool.false_eq_true] at *); first | done | rfl | omega | exact ints_ok _ | exact ints_all _ | (apply ints_part <;> first | omega | rfl)) | (exfalso; subst hA; subst_vars; simp only [AR.std, natCast_eq, sA, sB, sC, sD, reduceCtorEq, Bool.true_eq_false, Bool.false_eq_true] at *; (try simp (disch := omega) only [AR.std, natCast_eq, sA, sB, sC, sD, reduceCtorEq, Bool.true_eq_false, Bool.false_eq_true] at *); first | done | rfl | omega | exact ints_ok _ | exact ints_all _ | (apply ints_part <;> first | omega | rfl)) | skip
  all_goals try cbv
  all_goals repeat' (first | with_reducible exact True.intro | with_reducible refine And.intro ?_ ?_ | intro _)
  all_goals try cbv
  all_goals repeat' (first | with_reducible exact True.intro | with_reducible refine And.intro ?_ ?_ | intro _)
  all_goals first | ((first | with_reducible refine lei_of hA ?_ | with_reducible refine lti_of hA ?_ | with_reducible refine ltn_of hA ?_ | with_reducible refine nez_of hA ?_ | with_reducible refine okA_of hA ?_ | with_reducible refine allC_of hA ?_ | with_reducible refine cap_of hA ?_ | with_reducible refine len_le_of hA ?_ | with_reducible refine len_eq_of hA ?_ | with_reducible refine peq_of hA ?_ | with_reducible refine tru_of ?_); subst hA; subst_vars; simp only [AR.std, natCast_eq, sA, sB, sC, sD, reduceCtorEq, Bool.true_eq_false, Bool.false_eq_true] at *; (try simp (disch := omega) only [AR.std, natCast_eq, sA, sB, sC, sD, reduceCtorEq, Bool.true_eq_false, Bool.false_eq_true] at *); first | done | rfl | omega | exact ints_ok _ | exact ints_all _ | (apply ints_part <;> first | omega | rfl)) | (exfalso; subst hA; subst_vars; simp only [AR.std, natCast_eq, sA, sB, sC, sD, reduceCtorEq, Bool.true_eq_false, Bool.false_eq_true] at *; (try simp (disch := omega) only [AR.std, natCast_eq, sA, sB, sC, sD, reduceCtorEq, Bool.true_eq_false, Bool.false_eq_true] at *); first | done | rfl | omega | exact ints_ok _ | exact ints_all _ | (apply ints_part <;> first | omega | rfl)) | skip
  refine callN hA rfl (toIv_fn C hp hq hl1 hm1) ?_; rintro _ _ ⟨rfl, rfl⟩; refine ⟨rfl, ?_⟩
  all_goals try cbv
  all_goals repeat' (first | with_reducible exact True.intro | with_reducible refine And.intro ?_ ?_ | intro _)
  all_goals try cbv
  all_goals repeat' (first | with_reducible exact True.intro | with_reducible refine And.intro ?_ ?_ | intro _)
  all_goals first | ((first | with_reducible refine lei_of hA ?_ | with_reducible refine lti_of hA ?_ | with_reducible refine ltn_of hA ?_ | with_reducible refine nez_of hA ?_ | with_reducible refine okA_of hA ?_ | with_reducible refine allC_of hA ?_ | with_reducible refine cap_of hA ?_ | with_reducible refine len_le_of hA ?_ | with_reducible refine len_eq_of hA ?_ | with_reducible refine peq_of hA ?_ | with_reducible refine tru_of ?_); subst hA; subst_vars; simp only [AR.std, natCast_eq, sA, sB, sC, sD, reduceCtorEq, Bool.true_eq_false, Bool.false_eq_true] at *; (try simp (disch := omega) only [AR.std, natCast_eq, sA, sB, sC, sD, reduceCtorEq, Bool.true_eq_false, Bool.false_eq_true] at *); first | done | rfl | omega | exact ints_ok _ | exact ints_all _ | (apply ints_part <;> first | omega | rfl)) | (exfalso; subst hA; subst_vars; simp only [AR.std, natCast_eq, sA, sB, sC, sD, reduceCtorEq, Bool.true_eq_false, Bool.false_eq_true] at *; (try simp (disch := omega) only [AR.std, natCast_eq, sA, sB, sC, sD, reduceCtorEq, Bool.true_eq_false, Bool.false_eq_true] at *); first | done | rfl | omega | exact ints_ok _ | exact ints_all _ | (apply ints_part <;> first | omega | rfl)) | skip
  refine callN hA rfl (himpl P C) ?_; rintro _ _ ⟨rfl, rfl⟩; refine ⟨rfl, ?_⟩
  all_goals try cbv
  all_goals repeat' (first | with_reducible exact True.intro | with_reducible refine And.intro ?_ ?_ | intro _)
  all_goals try cbv
  all_goals repeat' (first | with_reducible exact True.intro | with_reducible refine And.intro ?_ ?_ | intro _)
  all_goals first | ((first | with_reducible refine lei_of hA ?_ | with_reducible refine lti_of hA ?_ | with_reducible refine ltn_of hA ?_ | with_reducible refine nez_of hA ?_ | with_reducible refine okA_of hA ?_ | with_reducible refine allC_of hA ?_ | with_reducible refine cap_of hA ?_ | with_reducible refine len_le_of hA ?_ | with_reducible refine len_eq_of hA ?_ | with_reducible refine peq_of hA ?_ | with_reducible refine tru_of ?_); subst hA; subst_vars; simp only [AR.std, natCast_eq, sA, sB, sC, sD, reduceCtorEq, Bool.true_eq_false, Bool.false_eq_true] at *; (try simp (disch := omega) only [AR.std, natCast_eq, sA, sB, sC, sD, reduceCtorEq, Bool.true_eq_false, Bool.false_eq_true] at *); first | done | rfl | omega | exact ints_ok _ | exact ints_all _ | (apply ints_part <;> first | omega | rfl)) | (exfalso; subst hA; subst_vars; simp only [AR.std, natCast_eq, sA, sB, sC, sD, reduceCtorEq, Bool.true_eq_false, Bool.false_eq_true] at *; (try simp (disch := omega) only [AR.std, natCast_eq, sA, sB, sC, sD, reduceCtorEq, Bool.true_eq_false, Bool.false_eq_true] at *); first | done | rfl | omega | exact ints_ok _ | exact ints_all _ | (apply ints_part <;> first | omega | rfl)) | skip
  refine callB hA rfl (eqDy_fs C hrr ho1) ?_; rintro _ rfl; refine ⟨⟨_, rfl⟩, ?_⟩
  all_goals try cbv
  all_goals repeat' (first | with_reducible exact True.intro | with_reducible refine And.intro ?_ ?_ | intro _)
  all_goals try cbv
  all_goals repeat' (first | with_reducible exact True.intro | with_reducible refine And.intro ?_ ?_ | intro _)
  all_goals first | ((first | with_reducible refine lei_of hA ?_ | with_reducible refine lti_of hA ?_ | with_reducible refine ltn_of hA ?_ | with_reducible refine nez_of hA ?_ | with_reducible refine okA_of hA ?_ | with_reducible refine allC_of hA ?_ | with_reducible refine cap_of hA ?_ | with_reducible refine len_le_of hA ?_ | with_reducible refine len_eq_of hA ?_ | with_reducible refine peq_of hA ?_ | with_reducible refine tru_of ?_); subst hA; subst_vars; simp only [AR.std, natCast_eq, sA, sB, sC, sD, reduceCtorEq, Bool.true_eq_false, Bool.false_eq_true] at *; (try simp (disch := omega) only [AR.std, natCast_eq, sA, sB, sC, sD, reduceCtorEq, Bool.true_eq_false, Bool.false_eq_true] at *); first | done | rfl | omega | exact ints_ok _ | exact ints_all _ | (apply ints_part <;> first | omega | rfl)) | (exfalso; subst hA; subst_vars; simp only [AR.std, natCast_eq, sA, sB, sC, sD, reduceCtorEq, Bool.true_eq_false, Bool.false_eq_true] at *; (try simp (disch := omega) only [AR.std, natCast_eq, sA, sB, sC, sD, reduceCtorEq, Bool.true_eq_false, Bool.false_eq_true] at *); first | done | rfl | omega | exact ints_ok _ | exact ints_all _ | (apply ints_part <;> first | omega | rfl)) | skip
  refine callB hA rfl (hheld P C) ?_; rintro _ rfl; refine ⟨⟨_, rfl⟩, ?_⟩
  all_goals try cbv
  all_goals repeat' (first | with_reducible exact True.intro | with_reducible refine And.intro ?_ ?_ | intro _)
  all_goals try cbv
  all_goals repeat' (first | with_reducible exact True.intro | with_reducible refine And.intro ?_ ?_ | intro _)
  all_goals first | ((first | with_reducible refine lei_of hA ?_ | with_reducible refine lti_of hA ?_ | with_reducible refine ltn_of hA ?_ | with_reducible refine nez_of hA ?_ | with_reducible refine okA_of hA ?_ | with_reducible refine allC_of hA ?_ | with_reducible refine cap_of hA ?_ | with_reducible refine len_le_of hA ?_ | with_reducible refine len_eq_of hA ?_ | with_reducible refine peq_of hA ?_ | with_reducible refine tru_of ?_); subst hA; subst_vars; simp only [AR.std, natCast_eq, sA, sB, sC, sD, reduceCtorEq, Bool.true_eq_false, Bool.false_eq_true] at *; (try simp (disch := omega) only [AR.std, natCast_eq, sA, sB, sC, sD, reduceCtorEq, Bool.true_eq_false, Bool.false_eq_true] at *); first | done | rfl | omega | exact ints_ok _ | exact ints_all _ | (apply ints_part <;> first | omega | rfl)) | (exfalso; subst hA; subst_vars; simp only [AR.std, natCast_eq, sA, sB, sC, sD, reduceCtorEq, Bool.true_eq_false, Bool.false_eq_true] at *; (try simp (disch := omega) only [AR.std, natCast_eq, sA, sB, sC, sD, reduceCtorEq, Bool.true_eq_false, Bool.false_eq_true] at *); first | done | rfl | omega | exact ints_ok _ | exact ints_all _ | (apply ints_part <;> first | omega | rfl)) | skip
  all_goals try cbv
  all_goals repeat' (first | with_reducible exact True.intro | with_reducible refine And.intro ?_ ?_ | intro _)
  all_goals try cbv
  all_goals repeat' (first | with_reducible exact True.intro | with_reducible refine And.intro ?_ ?_ | intro _)
  all_goals first | ((first | with_reducible refine lei_of hA ?_ | with_reducible refine lti_of hA ?_ | with_reducible refine ltn_of hA ?_ | with_reducible refine nez_of hA ?_ | with_reducible refine okA_of hA ?_ | with_reducible refine allC_of hA ?_ | with_reducible refine cap_of hA ?_ | with_reducible refine len_le_of hA ?_ | with_reducible refine len_eq_of hA ?_ | with_reducible refine peq_of hA ?_ | with_reducible refine tru_of ?_); subst hA; subst_vars; simp only [AR.std, natCast_eq, sA, sB, sC, sD, reduceCtorEq, Bool.true_eq_false, Bool.false_eq_true] at *; (try simp (disch := omega) only [AR.std, natCast_eq, sA, sB, sC, sD, reduceCtorEq, Bool.true_eq_false, Bool.false_eq_true] at *); first | done | rfl | omega | exact ints_ok _ | exact ints_all _ | (apply ints_part <;> first | omega | rfl)) | (exfalso; subst hA; subst_vars; simp only [AR.std, natCast_eq, sA, sB, sC, sD, reduceCtorEq, Bool.true_eq_false, Bool.false_eq_true] at *; (try simp (disch := omega) only [AR.std, natCast_eq, sA, sB, sC, sD, reduceCtorEq, Bool.true_eq_false, Bool.false_eq_true] at *); first | done | rfl | omega | exact ints_ok _ | exact ints_all _ | (apply ints_part <;> first | omega | rfl)) | skip

set_option maxHeartbeats 2000000 in
set_option maxRecDepth 100000 in
/-- an answer without memory -/
theorem lawE_fs (C : Cx P gl) {l m : List Int} {e f : Int} {p q : List PV} {s t w : Bool} (hp : p = intsL l) (hq : q = intsL m) (hbig : l.length + m.length ≤ 1048576)
    (hspec : ∀ P', Cx P' gl → FS P' gl 9 [.agg [B s, .lst p, I e, B t, .lst q, I f]] (· = .tup [.agg [B false, .lst [], I 0], B w]))
    (himpl : ∀ P', Cx P' gl → FS P' gl 11 [.agg [B s, .lst p, I e, B t, .lst q, I f]] (· = .tup [.agg [B false, .lst [], I 0], B w])) :
    FS P gl 3 [.agg [B s, .lst p, I e, B t, .lst q, I f]] (· = B true) := by
  obtain ⟨k, hr⟩ : ∃ r : Int, r = if (l.length : Int) + m.length ≤ 1048576 then (1048576 : Int) - l.length - m.length else -1 := ⟨_, rfl⟩
  have hr0 : 0 ≤ k := by rw [hr, if_pos (by omega)]; omega
  obtain ⟨p2, hp2⟩ : ∃ p2, p2 = intsL (up1 1 l.length) := ⟨_, rfl⟩
  obtain ⟨k2, hk2⟩ : ∃ k2 : Int, k2 = 1 + l.length := ⟨_, rfl⟩
  obtain ⟨q2, hq2⟩ : ∃ q2, q2 = intsL (up1 k2 m.length) := ⟨_, rfl⟩
  obtain ⟨k3, hk3⟩ : ∃ k3 : Int, k3 = k2 + m.length := ⟨_, rfl⟩
  have hk30 : 0 ≤ k3 := by omega
  have hl1 : l.length ≤ 2000000 := by omega
  have hm1 : m.length ≤ 2000000 := by omega
  have hmark := fun (P' : Program) (C' : Cx P' gl) => @markIv_fx P' gl C' l m p q p2 q2 1 k2 k3 s t e f hp hp2 hk2 hq hq2 hk3 hl1 hm1 (by decide) (by decide)
  have hmarkd := fun (P' : Program) (C' : Cx P' gl) => @markDy0_fs P' gl C' 1 false 0
  have hheld := fun (P' : Program) (C' : Cx P' gl) => @heldDy_fs P' gl C' 0 [] 1 1 false 0 rfl rfl (by decide) (by decide) (by decide)
  obtain ⟨rfl, hG⟩ := C
  refine FS_ofT (args := fun A => [.agg [B s, .lst p, I e, B t, .lst q, I f]]) (R := fun A rr => rr = B true) Tryd.hT Tryd.mix Tryd.func3 rfl rfl (Nat.le_of_ble_eq_true rfl) ?_
  generalize hP : Tryd.prog = P
  intro A hA
  have C : Tryd.Cx P gl := ⟨hP.symm, hG⟩
  have hI : intsL = A.ints := by subst hA; rfl
  all_goals try cbv
  all_goals repeat' (first | with_reducible exact True.intro | with_reducible refine And.intro ?_ ?_ | intro _)
  all_goals try cbv
  all_goals repeat' (first | with_reducible exact True.intro | with_reducible refine And.intro ?_ ?_ | intro _)
  all_goals first | ((first | with_reducible refine lei_of hA ?_ | with_reducible refine lti_of hA ?_ | with_reducible refine ltn_of hA ?_ | with_reducible refine nez_of hA ?_ | with_reducible refine okA_of hA ?_ | with_reducible refine allC_of hA ?_ | with_reducible refine cap_of hA ?_ | with_reducible refine len_le_of hA ?_ | with_reducible refine len_eq_of hA ?_ | with_reducible refine peq_of hA ?_ | with_reducible refine tru_of ?_); subst hA; subst_vars; simp only [AR.std, natCast_eq, sA, sB, sC, sD, reduceCtorEq, Bool.true_eq_false, Bool.false_eq_true] at *; (try simp (disch := omega) only [AR.std, natCast_eq, sA, sB, sC, sD, reduceCtorEq, Bool.true_eq_false, Bool.false_eq_true] at *); first | done | rfl | omega | exact ints_ok _ | exact ints_all _ | (apply ints_part <;> first | omega | rfl)) | (exfalso; subst hA; subst_vars; simp only [AR.std, natCast_eq, sA, sB, sC, sD, reduceCtorEq, Bool.true_eq_false, Bool.false_eq_true] at *; (try simp (disch := omega) only [AR.std, natCast_eq, sA, sB, sC, sD, reduceCtorEq, Bool.true_eq_false, Bool.false_eq_true] at *); first | done | rfl | omega | exact ints_ok _ | exact ints_all _ | (apply ints_part <;> first | omega | rfl)) | skip
  refine callS hA rfl (szIv_fs C hp hq (by omega) (by omega) (by decide) (by decide) hr) ?_; rintro _ rfl
  clear hr
  all_goals try cbv
  all_goals repeat' (first | with_reducible exact True.intro | with_reducible refine And.intro ?_ ?_ | intro _)
  all_goals try cbv
  all_goals repeat' (first | with_reducible exact True.intro | with_reducible refine And.intro ?_ ?_ | intro _)
  all_goals first | ((first | with_reducible refine lei_of hA ?_ | with_reducible refine lti_of hA ?_ | with_reducible refine ltn_of hA ?_ | with_reducible refine nez_of hA ?_ | with_reducible refine okA_of hA ?_ | with_reducible refine allC_of hA ?_ | with_reducible refine cap_of hA ?_ | with_reducible refine len_le_of hA ?_ | with_reducible refine len_eq_of hA ?_ | with_reducible refine peq_of hA ?_ | with_reducible refine tru_of ?_); subst hA; subst_vars; simp only [AR.std, natCast_eq, sA, sB, sC, sD, reduceCtorEq, Bool.true_eq_false, Bool.false_eq_true] at *; (try simp (disch := omega) only [AR.std, natCast_eq, sA, sB, sC, sD, reduceCtorEq, Bool.true_eq_false, Bool.false_eq_true] at *); first | done | rfl | omega | exact ints_ok _ | exact ints_all _ | (apply ints_part <;> first | omega | rfl)) | (exfalso; subst hA; subst_vars; simp only [AR.std, natCast_eq, sA, sB, sC, sD, reduceCtorEq, Bool.true_eq_false, Bool.false_eq_true] at *; (try simp (disch := omega) only [AR.std, natCast_eq, sA, sB, sC, sD, reduceCtorEq, Bool.true_eq_false, Bool.false_eq_true] at *); first | done | rfl | omega | exact ints_ok _ | exact ints_all _ | (apply ints_part <;> first | omega | rfl)) | skip
  refine callN hA rfl (toIv_fn C hp hq hl1 hm1) ?_; rintro _ _ ⟨rfl, rfl⟩; refine ⟨rfl, ?_⟩
  all_goals try cbv
  all_goals repeat' (first | with_reducible exact True.intro | with_reducible refine And.intro ?_ ?_ | intro _)
  all_goals try cbv
  all_goals repeat' (first | with_reducible exact True.intro | with_reducible refine And.intro ?_ ?_ | intro _)
  all_goals first | ((first | with_reducible refine lei_of hA ?_ | with_reducible refine lti_of hA ?_ | with_reducible refine ltn_of hA ?_ | with_reducible refine nez_of hA ?_ | with_reducible refine okA_of hA ?_ | with_reducible refine allC_of hA ?_ | with_reducible refine cap_of hA ?_ | with_reducible refine len_le_of hA ?_ | with_reducible refine len_eq_of hA ?_ | with_reducible refine peq_of hA ?_ | with_reducible refine tru_of ?_); subst hA; subst_vars; simp only [AR.std, natCast_eq, sA, sB, sC, sD, reduceCtorEq, Bool.true_eq_false, Bool.false_eq_true] at *; (try simp (disch := omega) only [AR.std, natCast_eq, sA, sB, sC, sD, reduceCtorEq, Bool.true_eq_false, Bool.false_eq_true] at *); first | done | rfl | omega | exact ints_ok _ | exact ints_all _ | (apply ints_part <;> first | omega | rfl)) | (exfalso; subst hA; subst_vars; simp only [AR.std, natCast_eq, sA, sB, sC, sD, reduceCtorEq, Bool.true_eq_false, Bool.false_eq_true] at *; (try simp (disch := omega) only [AR.std, natCast_eq, sA, sB, sC, sD, reduceCtorEq, Bool.true_eq_false, Bool.false_eq_true] at *); first | done | rfl | omega | exact ints_ok _ | exact ints_all _ | (apply ints_part <;> first | omega | rfl)) | skip
  refine callS hA rfl (hspec P C) ?_; rintro _ rfl
  all_goals try cbv
  all_goals repeat' (first | with_reducible exact True.intro | with_reducible refine And.intro ?_ ?_ | intro _)
  all_goals try cbv
  all_goals repeat' (first | with_reducible exact True.intro | with_reducible refine And.intro ?_ ?_ | intro _)
  all_goals first | ((first | with_reducible refine lei_of hA ?_ | with_reducible refine lti_of hA ?_ | with_reducible refine ltn_of hA ?_ | with_reducible refine nez_of hA ?_ | with_reducible refine okA_of hA ?_ | with_reducible refine allC_of hA ?_ | with_reducible refine cap_of hA ?_ | with_reducible refine len_le_of hA ?_ | with_reducible refine len_eq_of hA ?_ | with_reducible refine peq_of hA ?_ | with_reducible refine tru_of ?_); subst hA; subst_vars; simp only [AR.std, natCast_eq, sA, sB, sC, sD, reduceCtorEq, Bool.true_eq_false, Bool.false_eq_true] at *; (try simp (disch := omega) only [AR.std, natCast_eq, sA, sB, sC, sD, reduceCtorEq, Bool.true_eq_false, Bool.false_eq_true] at *); first | done | rfl | omega | exact ints_ok _ | exact ints_all _ | (apply ints_part <;> first | omega | rfl)) | (exfalso; subst hA; subst_vars; simp only [AR.std, natCast_eq, sA, sB, sC, sD, reduceCtorEq, Bool.true_eq_false, Bool.false_eq_true] at *; (try simp (disch := omega) only [AR.std, natCast_eq, sA, sB, sC, sD, reduceCtorEq, Bool.true_eq_false, Bool.false_eq_true] at *); first | done | rfl | omega | exact ints_ok _ | exact ints_all _ | (apply ints_part <;> first | omega | rfl)) | skip
  refine callN hA rfl (toIv_fn C hp hq hl1 hm1) ?_; rintro _ _ ⟨rfl, rfl⟩; refine ⟨rfl, ?_⟩
  all_goals try cbv
  all_goals repeat' (first | with_reducible exact True.intro | with_reducible refine And.intro ?_ ?_ | intro _)
  all_goals try cbv
  all_goals repeat' (first | with_reducible exact True.intro | with_reducible refine And.intro ?_ ?_ | intro _)
  all_goals first | ((first | with_reducible refine lei_of hA ?_ | with_reducible refine lti_of hA ?_ | with_reducible refine ltn_of hA ?_ | with_reducible refine nez_of hA ?_ | with_reducible refine okA_of hA ?_ | with_reducible refine allC_of hA ?_ | with_reducible refine cap_of hA ?_ | with_reducible refine len_le_of hA ?_ | with_reducible refine len_eq_of hA ?_ | with_reducible refine peq_of hA ?_ | with_reducible refine tru_of ?_); subst hA; subst_vars; simp only [AR.std, natCast_eq, sA, sB, sC, sD, reduceCtorEq, Bool.true_eq_false, Bool.false_eq_true] at *; (try simp (disch := omega) only [AR.std, natCast_eq, sA, sB, sC, sD, reduceCtorEq, Bool.true_eq_false, Bool.false_eq_true] at *); first | done | rfl | omega | exact ints_ok _ | exact ints_all _ | (apply ints_part <;> first | omega | rfl)) | (exfalso; subst hA; subst_vars; simp only [AR.std, natCast_eq, sA, sB, sC, sD, reduceCtorEq, Bool.true_eq_false, Bool.false_eq_true] at *; (try simp (disch := omega) only [AR.std, natCast_eq, sA, sB, sC, sD, reduceCtorEq, Bool.true_eq_false, Bool.false_eq_true] at *); first | done | rfl | omega | exact ints_ok _ | exact ints_all _ | (apply ints_part <;> first | omega | rfl)) | skip
  refine callN hA rfl (FN_ofS (himpl P C) rfl) ?_; rintro _ _ ⟨rfl, rfl⟩; refine ⟨rfl, ?_⟩
  all_goals try cbv
  all_goals repeat' (first | with_reducible exact True.intro | with_reducible refine And.intro ?_ ?_ | intro _)
  all_goals try cbv
  all_goals repeat' (first | with_reducible exact True.intro | with_reducible refine And.intro ?_ ?_ | intro _)
  all_goals first | ((first | with_reducible refine lei_of hA ?_ | with_reducible refine lti_of hA ?_ | with_reducible refine ltn_of hA ?_ | with_reducible refine nez_of hA ?_ | with_reducible refine okA_of hA ?_ | with_reducible refine allC_of hA ?_ | with_reducible refine cap_of hA ?_ | with_reducible refine len_le_of hA ?_ | with_reducible refine len_eq_of hA ?_ | with_reducible refine peq_of hA ?_ | with_reducible refine tru_of ?_); subst hA; subst_vars; simp only [AR.std, natCast_eq, sA, sB, sC, sD, reduceCtorEq, Bool.true_eq_false, Bool.false_eq_true] at *; (try simp (disch := omega) only [AR.std, natCast_eq, sA, sB, sC, sD, reduceCtorEq, Bool.true_eq_false, Bool.false_eq_true] at *); first | done | rfl | omega | exact ints_ok _ | exact ints_all _ | (apply ints_part <;> first | omega | rfl)) | (exfalso; subst hA; subst_vars; simp only [AR.std, natCast_eq, sA, sB, sC, sD, reduceCtorEq, Bool.true_eq_false, Bool.false_eq_true] at *; (try simp (disch := omega) only [AR.std, natCast_eq, sA, sB, sC, sD, reduceCtorEq, Bool.true_eq_false, Bool.false_eq_true] at *); first | done | rfl | omega | exact ints_ok _ | exact ints_all _ | (apply ints_part <;> first | omega | rfl)) | skip
  refine callS hA rfl (eqDy_fs C (l := []) rfl (by decide)) ?_; rintro _ rfl
  all_goals try cbv
  all_goals repeat' (first | with_reducible exact True.intro | with_reducible refine And.intro ?_ ?_ | intro _)
  all_goals try cbv
  all_goals repeat' (first | with_reducible exact True.intro | with_reducible refine And.intro ?_ ?_ | intro _)
  all_goals first | ((first | with_reducible refine lei_of hA ?_ | with_reducible refine lti_of hA ?_ | with_reducible refine ltn_of hA ?_ | with_reducible refine nez_of hA ?_ | with_reducible refine okA_of hA ?_ | with_reducible refine allC_of hA ?_ | with_reducible refine cap_of hA ?_ | with_reducible refine len_le_of hA ?_ | with_reducible refine len_eq_of hA ?_ | with_reducible refine peq_of hA ?_ | with_reducible refine tru_of ?_); subst hA; subst_vars; simp only [AR.std, natCast_eq, sA, sB, sC, sD, reduceCtorEq, Bool.true_eq_false, Bool.false_eq_true] at *; (try simp (disch := omega) only [AR.std, natCast_eq, sA, sB, sC, sD, reduceCtorEq, Bool.true_eq_false, Bool.false_eq_true] at *); first | done | rfl | omega | exact ints_ok _ | exact ints_all _ | (apply ints_part <;> first | omega | rfl)) | (exfalso; subst hA; subst_vars; simp only [AR.std, natCast_eq, sA, sB, sC, sD, reduceCtorEq, Bool.true_eq_false, Bool.false_eq_true] at *; (try simp (disch := omega) only [AR.std, natCast_eq, sA, sB, sC, sD, reduceCtorEq, Bool.true_eq_false, Bool.false_eq_true] at *); first | done | rfl | omega | exact ints_ok _ | exact ints_all _ | (apply ints_part <;> first | omega | rfl)) | skip
  refine ⟨_, toIv_fs C hp hq hl1 hm1, ?_⟩
  all_goals try cbv
  all_goals repeat' (first | with_reducible exact True.intro | with_reducible refine And.intro ?_ ?_ | intro _)
  all_goals try cbv
  all_goals repeat' (first | with_reducible exact True.intro | with_reducible refine And.intro ?_ ?_ | intro _)
  all_goals first | ((first | with_reducible refine lei_of hA ?_ | with_reducible refine lti_of hA ?_ | with_reducible refine ltn_of hA ?_ | with_reducible refine nez_of hA ?_ | with_reducible refine okA_of hA ?_ | with_reducible refine allC_of hA ?_ | with_reducible refine cap_of hA ?_ | with_reducible refine len_le_of hA ?_ | with_reducible refine len_eq_of hA ?_ | with_reducible refine peq_of hA ?_ | with_reducible refine tru_of ?_); subst hA; subst_vars; simp only [AR.std, natCast_eq, sA, sB, sC, sD, reduceCtorEq, Bool.true_eq_false, Bool.false_eq_true] at *; (try simp (disch := omega) only [AR.std, natCast_eq, sA, sB, sC, sD, reduceCtorEq, Bool.true_eq_false, Bool.false_eq_true] at *); first | done | rfl | omega | exact ints_ok _ | exact ints_all _ | (apply ints_part <;> first | omega | rfl)) | (exfalso; subst hA; subst_vars; simp only [AR.std, natCast_eq, sA, sB, sC, sD, reduceCtorEq, Bool.true_eq_false, Bool.false_eq_true] at *; (try simp (disch := omega) only [AR.std, natCast_eq, sA, sB, sC, sD, reduceCtorEq, Bool.true_eq_false, Bool.false_eq_true] at *); first | done | rfl | omega | exact ints_ok _ | exact ints_all _ | (apply ints_part <;> first | omega | rfl)) | skip
  refine callB hA rfl (eqIv_fs C hp hq hl1 hm1) ?_; rintro _ rfl; refine ⟨⟨_, rfl⟩, ?_⟩
  all_goals try cbv
  all_goals repeat' (first | with_reducible exact True.intro | with_reducible refine And.intro ?_ ?_ | intro _)
  all_goals try cbv
  all_goals repeat' (first | with_reducible exact True.intro | with_reducible refine And.intro ?_ ?_ | intro _)
  all_goals first | ((first | with_reducible refine lei_of hA ?_ | with_reducible refine lti_of hA ?_ | with_reducible refine ltn_of hA ?_ | with_reducible refine nez_of hA ?_ | with_reducible refine okA_of hA ?_ | with_reducible refine allC_of hA ?_ | with_reducible refine cap_of hA ?_ | with_reducible refine len_le_of hA ?_ | with_reducible refine len_eq_of hA ?_ | with_reducible refine peq_of hA ?_ | with_reducible refine tru_of ?_); subst hA; subst_vars; simp only [AR.std, natCast_eq, sA, sB, sC, sD, reduceCtorEq, Bool.true_eq_false, Bool.false_eq_true] at *; (try simp (disch := omega) only [AR.std, natCast_eq, sA, sB, sC, sD, reduceCtorEq, Bool.true_eq_false, Bool.false_eq_true] at *); first | done | rfl | omega | exact ints_ok _ | exact ints_all _ | (apply ints_part <;> first | omega | rfl)) | (exfalso; subst hA; subst_vars; simp only [AR.std, natCast_eq, sA, sB, sC, sD, reduceCtorEq, Bool.true_eq_false, Bool.false_eq_true] at *; (try simp (disch := omega) only [AR.std, natCast_eq, sA, sB, sC, sD, reduceCtorEq, Bool.true_eq_false, Bool.false_eq_true] at *); first | done | rfl | omega | exact ints_ok _ | exact ints_all _ | (apply ints_part <;> first | omega | rfl)) | skip
  refine callX hA [4, 5] (by decide) rfl rfl rfl (hmark P C) ?_
  rintro _ _ ⟨rfl, rfl⟩
  refine ⟨rfl, ?_⟩
  all_goals try cbv
  all_goals repeat' (first | with_reducible exact True.intro | with_reducible refine And.intro ?_ ?_ | intro _)
  all_goals try cbv
  all_goals repeat' (first | with_reducible exact True.intro | with_reducible refine And.intro ?_ ?_ | intro _)
  all_goals first | ((first | with_reducible refine lei_of hA ?_ | with_reducible refine lti_of hA ?_ | with_reducible refine ltn_of hA ?_ | with_reducible refine nez_of hA ?_ | with_reducible refine okA_of hA ?_ | with_reducible refine allC_of hA ?_ | with_reducible refine cap_of hA ?_ | with_reducible refine len_le_of hA ?_ | with_reducible refine len_eq_of hA ?_ | with_reducible refine peq_of hA ?_ | with_reducible refine tru_of ?_); subst hA; subst_vars; simp only [AR.std, natCast_eq, sA, sB, sC, sD, reduceCtorEq, Bool.true_eq_false, Bool.false_eq_true] at *; (try simp (disch := omega) only [AR.std, natCast_eq, sA, sB, sC, sD, reduceCtorEq, Bool.true_eq_false, Bool.false_eq_true] at *); first | done | rfl | omega | exact ints_ok _ | exact ints_all _ | (apply ints_part <;> first | omega | rfl)) | (exfalso; subst hA; subst_vars; simp only [AR.std, natCast_eq, sA, sB, sC, sD, reduceCtorEq, Bool.true_eq_false, Bool.false_eq_true] at *; (try simp (disch := omega) only [AR.std, natCast_eq, sA, sB, sC, sD, reduceCtorEq, Bool.true_eq_false, Bool.false_eq_true] at *); first | done | rfl | omega | exact ints_ok _ | exact ints_all _ | (apply ints_part <;> first | omega | rfl)) | skip
  refine ⟨_, fun _ => eqDy_fs C (l := []) rfl (by decide), ?_⟩
  all_goals try cbv
  all_goals repeat' (first | with_reducible exact True.intro | with_reducible refine And.intro ?_ ?_ | intro _)
  all_goals try cbv
  all_goals repeat' (first | with_reducible exact True.intro | with_reducible refine And.intro ?_ ?_ | intro _)
  all_goals first | ((first | with_reducible refine lei_of hA ?_ | with_reducible refine lti_of hA ?_ | with_reducible refine ltn_of hA ?_ | with_reducible refine nez_of hA ?_ | with_reducible refine okA_of hA ?_ | with_reducible refine allC_of hA ?_ | with_reducible refine cap_of hA ?_ | with_reducible refine len_le_of hA ?_ | with_reducible refine len_eq_of hA ?_ | with_reducible refine peq_of hA ?_ | with_reducible refine tru_of ?_); subst hA; subst_vars; simp only [AR.std, natCast_eq, sA, sB, sC, sD, reduceCtorEq, Bool.true_eq_false, Bool.false_eq_true] at *; (try simp (disch := omega) only [AR.std, natCast_eq, sA, sB, sC, sD, reduceCtorEq, Bool.true_eq_false, Bool.false_eq_true] at *); first | done | rfl | omega | exact ints_ok _ | exact ints_all _ | (apply ints_part <;> first | omega | rfl)) | (exfalso; subst hA; subst_vars; simp only [AR.std, natCast_eq, sA, sB, sC, sD, reduceCtorEq, Bool.true_eq_false, Bool.false_eq_true] at *; (try simp (disch := omega) only [AR.std, natCast_eq, sA, sB, sC, sD, reduceCtorEq, Bool.true_eq_false, Bool.false_eq_true] at *); first | done | rfl | omega | exact ints_ok _ | exact ints_all _ | (apply ints_part <;> first | omega | rfl)) | skip
  refine callS hA rfl (hmarkd P C) ?_; rintro _ rfl
  all_goals try cbv
  all_goals repeat' (first | with_reducible exact True.intro | with_reducible refine And.intro ?_ ?_ | intro _)
  all_goals try cbv
  all_goals repeat' (first | with_reducible exact True.intro | with_reducible refine And.intro ?_ ?_ | intro _)
  all_goals first | ((first | with_reducible refine lei_of hA ?_ | with_reducible refine lti_of hA ?_ | with_reducible refine ltn_of hA ?_ | with_reducible refine nez_of hA ?_ | with_reducible refine okA_of hA ?_ | with_reducible refine allC_of hA ?_ | with_reducible refine cap_of hA ?_ | with_reducible refine len_le_of hA ?_ | with_reducible refine len_eq_of hA ?_ | with_reducible refine peq_of hA ?_ | with_reducible refine tru_of ?_); subst hA; subst_vars; simp only [AR.std, natCast_eq, sA, sB, sC, sD, reduceCtorEq, Bool.true_eq_false, Bool.false_eq_true] at *; (try simp (disch := omega) only [AR.std, natCast_eq, sA, sB, sC, sD, reduceCtorEq, Bool.true_eq_false, Bool.false_eq_true] at *); first | done | rfl | omega | exact ints_ok _ | exact ints_all _ | (apply ints_part <;> first | omega | rfl)) | (exfalso; subst hA; subst_vars; simp only [AR.std, natCast_eq, sA, sB, sC, sD, reduceCtorEq, Bool.true_eq_false, Bool.false_eq_true] at *; (try simp (disch := omega) only [AR.std, natCast_eq, sA, sB, sC, sD, reduceCtorEq, Bool.true_eq_false, Bool.false_eq_true] at *); first | done | rfl | omega | exact ints_ok _ | exact ints_all _ | (apply ints_part <;> first | omega | rfl)) | skip
  refine callS hA rfl (hheld P C) ?_; rintro _ rfl
  all_goals try cbv
  all_goals repeat' (first | with_reducible exact True.intro | with_reducible refine And.intro ?_ ?_ | intro _)
  all_goals try cbv
  all_goals repeat' (first | with_reducible exact True.intro | with_reducible refine And.intro ?_ ?_ | intro _)
  all_goals first | ((first | with_reducible refine lei_of hA ?_ | with_reducible refine lti_of hA ?_ | with_reducible refine ltn_of hA ?_ | with_reducible refine nez_of hA ?_ | with_reducible refine okA_of hA ?_ | with_reducible refine allC_of hA ?_ | with_reducible refine cap_of hA ?_ | with_reducible refine len_le_of hA ?_ | with_reducible refine len_eq_of hA ?_ | with_reducible refine peq_of hA ?_ | with_reducible refine tru_of ?_); subst hA; subst_vars; simp only [AR.std, natCast_eq, sA, sB, sC, sD, reduceCtorEq, Bool.true_eq_false, Bool.false_eq_true] at *; (try simp (disch := omega) only [AR.std, natCast_eq, sA, sB, sC, sD, reduceCtorEq, Bool.true_eq_false, Bool.false_eq_true] at *); first | done | rfl | omega | exact ints_ok _ | exact ints_all _ | (apply ints_part <;> first | omega | rfl)) | (exfalso; subst hA; subst_vars; simp only [AR.std, natCast_eq, sA, sB, sC, sD, reduceCtorEq, Bool.true_eq_false, Bool.false_eq_true] at *; (try simp (disch := omega) only [AR.std, natCast_eq, sA, sB, sC, sD, reduceCtorEq, Bool.true_eq_false, Bool.false_eq_true] at *); first | done | rfl | omega | exact ints_ok _ | exact ints_all _ | (apply ints_part <;> first | omega | rfl)) | skip
  all_goals try cbv
  all_goals repeat' (first | with_reducible exact True.intro | with_reducible refine And.intro ?_ ?_ | intro _)
  all_goals try cbv
  all_goals repeat' (first | with_reducible exact True.intro | with_reducible refine And.intro ?_ ?_ | intro _)
  all_goals first | ((first | with_reducible refine lei_of hA ?_ | with_reducible refine lti_of hA ?_ | with_reducible refine ltn_of hA ?_ | with_reducible refine nez_of hA ?_ | with_reducible refine okA_of hA ?_ | with_reducible refine allC_of hA ?_ | with_reducible refine cap_of hA ?_ | with_reducible refine len_le_of hA ?_ | with_reducible refine len_eq_of hA ?_ | with_reducible refine peq_of hA ?_ | with_reducible refine tru_of ?_); subst hA; subst_vars; simp only [AR.std, natCast_eq, sA, sB, sC, sD, reduceCtorEq, Bool.true_eq_false, Bool.false_eq_true] at *; (try simp (disch := omega) only [AR.std, natCast_eq, sA, sB, sC, sD, reduceCtorEq, Bool.true_eq_false, Bool.false_eq_true] at *); first | done | rfl | omega | exact ints_ok _ | exact ints_all _ | (apply ints_part <;> first | omega | rfl)) | (exfalso; subst hA; subst_vars; simp only [AR.std, natCast_eq, sA, sB, sC, sD, reduceCtorEq, Bool.true_eq_false, Bool.false_eq_true] at *; (try simp (disch := omega) only [AR.std, natCast_eq, sA, sB, sC, sD, reduceCtorEq, Bool.true_eq_false, Bool.false_eq_true] at *); first | done | rfl | omega | exact ints_ok _ | exact ints_all _ | (apply ints_part <;> first | omega | rfl)) | skip
  refine callN hA rfl (toIv_fn C hp hq hl1 hm1) ?_; rintro _ _ ⟨rfl, rfl⟩; refine ⟨rfl, ?_⟩
  all_goals try cbv
  all_goals repeat' (first | with_reducible exact True.intro | with_reducible refine And.intro ?_ ?_ | intro _)
  all_goals try cbv
  all_goals repeat' (first | with_reducible exact True.intro | with_reducible refine And.intro ?_ ?_ | intro _)
  all_goals first | ((first | with_reducible refine lei_of hA ?_ | with_reducible refine lti_of hA ?_ | with_reducible refine ltn_of hA ?_ | with_reducible refine nez_of hA ?_ | with_reducible refine okA_of hA ?_ | with_reducible refine allC_of hA ?_ | with_reducible refine cap_of hA ?_ | with_reducible refine len_le_of hA ?_ | with_reducible refine len_eq_of hA ?_ | with_reducible refine peq_of hA ?_ | with_reducible refine tru_of ?_); subst hA; subst_vars; simp only [AR.std, natCast_eq, sA, sB, sC, sD, reduceCtorEq, Bool.true_eq_false, Bool.false_eq_true] at *; (try simp (disch := omega) only [AR.std, natCast_eq, sA, sB, sC, sD, reduceCtorEq, Bool.true_eq_false, Bool.false_eq_true] at *); first | done | rfl | omega | exact ints_ok _ | exact ints_all _ | (apply ints_part <;> first | omega | rfl)) | (exfalso; subst hA; subst_vars; simp only [AR.std, natCast_eq, sA, sB, sC, sD, reduceCtorEq, Bool.true_eq_false, Bool.false_eq_true] at *; (try simp (disch := omega) only [AR.std, natCast_eq, sA, sB, sC, sD, reduceCtorEq, Bool.true_eq_false, Bool.false_eq_true] at *); first | done | rfl | omega | exact ints_ok _ | exact ints_all _ | (apply ints_part <;> first | omega | rfl)) | skip
  refine callN hA rfl (FN_ofS (himpl P C) rfl) ?_; rintro _ _ ⟨rfl, rfl⟩; refine ⟨rfl, ?_⟩
  all_goals try cbv
  all_goals repeat' (first | with_reducible exact True.intro | with_reducible refine And.intro ?_ ?_ | intro _)
  all_goals try cbv
  all_goals repeat' (first | with_reducible exact True.intro | with_reducible refine And.intro ?_ ?_ | intro _)
  all_goals first | ((first | with_reducible refine lei_of hA ?_ | with_reducible refine lti_of hA ?_ | with_reducible refine ltn_of hA ?_ | with_reducible refine nez_of hA ?_ | with_reducible refine okA_of hA ?_ | with_reducible refine allC_of hA ?_ | with_reducible refine cap_of hA ?_ | with_reducible refine len_le_of hA ?_ | with_reducible refine len_eq_of hA ?_ | with_reducible refine peq_of hA ?_ | with_reducible refine tru_of ?_); subst hA; subst_vars; simp only [AR.std, natCast_eq, sA, sB, sC, sD, reduceCtorEq, Bool.true_eq_false, Bool.false_eq_true] at *; (try simp (disch := omega) only [AR.std, natCast_eq, sA, sB, sC, sD, reduceCtorEq, Bool.true_eq_false, Bool.false_eq_true] at *); first | done | rfl | omega | exact ints_ok _ | exact ints_all _ | (apply ints_part <;> first | omega | rfl)) | (exfalso; subst hA; subst_vars; simp only [AR.std, natCast_eq, sA, sB, sC, sD, reduceCtorEq, Bool.true_eq_false, Bool.false_eq_true] at *; (try simp (disch := omega) only [AR.std, natCast_eq, sA, sB, sC, sD, reduceCtorEq, Bool.true_eq_false, Bool.false_eq_true] at *); first | done | rfl | omega | exact ints_ok _ | exact ints_all _ | (apply ints_part <;> first | omega | rfl)) | skip
  refine callS hA rfl (eqDy_fs C (l := []) rfl (by decide)) ?_; rintro _ rfl
  all_goals try cbv
  all_goals repeat' (first | with_reducible exact True.intro | with_reducible refine And.intro ?_ ?_ | intro _)
  all_goals try cbv
  all_goals repeat' (first | with_reducible exact True.intro | with_reducible refine And.intro ?_ ?_ | intro _)
  all_goals first | ((first | with_reducible refine lei_of hA ?_ | with_reducible refine lti_of hA ?_ | with_reducible refine ltn_of hA ?_ | with_reducible refine nez_of hA ?_ | with_reducible refine okA_of hA ?_ | with_reducible refine allC_of hA ?_ | with_reducible refine cap_of hA ?_ | with_reducible refine len_le_of hA ?_ | with_reducible refine len_eq_of hA ?_ | with_reducible refine peq_of hA ?_ | with_reducible refine tru_of ?_); subst hA; subst_vars; simp only [AR.std, natCast_eq, sA, sB, sC, sD, reduceCtorEq, Bool.true_eq_false, Bool.false_eq_true] at *; (try simp (disch := omega) only [AR.std, natCast_eq, sA, sB, sC, sD, reduceCtorEq, Bool.true_eq_false, Bool.false_eq_true] at *); first | done | rfl | omega | exact ints_ok _ | exact ints_all _ | (apply ints_part <;> first | omega | rfl)) | (exfalso; subst hA; subst_vars; simp only [AR.std, natCast_eq, sA, sB, sC, sD, reduceCtorEq, Bool.true_eq_false, Bool.false_eq_true] at *; (try simp (disch := omega) only [AR.std, natCast_eq, sA, sB, sC, sD, reduceCtorEq, Bool.true_eq_false, Bool.false_eq_true] at *); first | done | rfl | omega | exact ints_ok _ | exact ints_all _ | (apply ints_part <;> first | omega | rfl)) | skip
  refine callS hA rfl (hheld P C) ?_; rintro _ rfl
  all_goals try cbv
  all_goals repeat' (first | with_reducible exact True.intro | with_reducible refine And.intro ?_ ?_ | intro _)
  all_goals try cbv
  all_goals repeat' (first | with_reducible exact True.intro | with_reducible refine And.intro ?_ ?_ | intro _)
  all_goals first | ((first | with_reducible refine lei_of hA ?_ | with_reducible refine lti_of hA ?_ | with_reducible refine ltn_of hA ?_ | with_reducible refine nez_of hA ?_ | with_reducible refine okA_of hA ?_ | with_reducible refine allC_of hA ?_ | with_reducible refine cap_of hA ?_ | with_reducible refine len_le_of hA ?_ | with_reducible refine len_eq_of hA ?_ | with_reducible refine peq_of hA ?_ | with_reducible refine tru_of ?_); subst hA; subst_vars; simp only [AR.std, natCast_eq, sA, sB, sC, sD, reduceCtorEq, Bool.true_eq_false, Bool.false_eq_true] at *; (try simp (disch := omega) only [AR.std, natCast_eq, sA, sB, sC, sD, reduceCtorEq, Bool.true_eq_false, Bool.false_eq_true] at *); first | done | rfl | omega | exact ints_ok _ | exact ints_all _ | (apply ints_part <;> first | omega | rfl)) | (exfalso; subst hA; subst_vars; simp only [AR.std, natCast_eq, sA, sB, sC, sD, reduceCtorEq, Bool.true_eq_false, Bool.false_eq_true] at *; (try simp (disch := omega) only [AR.std, natCast_eq, sA, sB, sC, sD, reduceCtorEq, Bool.true_eq_false, Bool.false_eq_true] at *); first | done | rfl | omega | exact ints_ok _ | exact ints_all _ | (apply ints_part <;> first | omega | rfl)) | skip
  all_goals try cbv
  all_goals repeat' (first | with_reducible exact True.intro | with_reducible refine And.intro ?_ ?_ | intro _)
  all_goals try cbv
  all_goals repeat' (first | with_reducible exact True.intro | with_reducible refine And.intro ?_ ?_ | intro _)
  all_goals first | ((first | with_reducible refine lei_of hA ?_ | with_reducible refine lti_of hA ?_ | with_reducible refine ltn_of hA ?_ | with_reducible refine nez_of hA ?_ | with_reducible refine okA_of hA ?_ | with_reducible refine allC_of hA ?_ | with_reducible refine cap_of hA ?_ | with_reducible refine len_le_of hA ?_ | with_reducible refine len_eq_of hA ?_ | with_reducible refine peq_of hA ?_ | with_reducible refine tru_of ?_); subst hA; subst_vars; simp only [AR.std, natCast_eq, sA, sB, sC, sD, reduceCtorEq, Bool.true_eq_false, Bool.false_eq_true] at *; (try simp (disch := omega) only [AR.std, natCast_eq, sA, sB, sC, sD, reduceCtorEq, Bool.true_eq_false, Bool.false_eq_true] at *); first | done | rfl | omega | exact ints_ok _ | exact ints_all _ | (apply ints_part <;> first | omega | rfl)) | (exfalso; subst hA; subst_vars; simp only [AR.std, natCast_eq, sA, sB, sC, sD, reduceCtorEq, Bool.true_eq_false, Bool.false_eq_true] at *; (try simp (disch := omega) only [AR.std, natCast_eq, sA, sB, sC, sD, reduceCtorEq, Bool.true_eq_false, Bool.false_eq_true] at *); first | done | rfl | omega | exact ints_ok _ | exact ints_all _ | (apply ints_part <;> first | omega | rfl)) | skip

/-- the law at every interval -/
theorem law_fs (C : Cx P gl) {l m : List Int} {e f : Int} {p q : List PV} {s t : Bool} (hp : p = intsL l) (hq : q = intsL m) (hl : l.length ≤ 9223372036854775807) (hm : m.length ≤ 9223372036854775807) :
    FS P gl 3 [.agg [B s, .lst p, I e, B t, .lst q, I f]] (· = B true) := by
  rcases Nat.lt_or_ge 1048576 (l.length + m.length) with hbig | hbig
  · exact lawL_fs C hp hq hl hm hbig
  have hl1 : l.length ≤ 2000000 := by omega
  have hm1 : m.length ≤ 2000000 := by omega
  have none : ∀ {w : Bool}, (w = true ↔ ivOk s l e t m f ∧ fits (dval t m f - dval s l e)) → (w = true → dval t m f - dval s l e = 0) → outD w (dval t m f - dval s l e) false [] 0 := by
    intro w hw h0
    refine ⟨fun h => ?_, fun _ => ⟨rfl, rfl, rfl⟩⟩
    rw [h0 h]
    have hz : cZ (0 : Dyadic) = 0 := cZ_eq_zero.2 rfl
    exact ⟨by rw [hz]; rfl, by rw [hz, show Int.natAbs 0 = 0 from rfl, dg_zero], rfl⟩
  by_cases hok : ivOk s l e t m f
  · by_cases hfit : fits (dval t m f - dval s l e)
    · by_cases hn : dval t m f - dval s l e = 0
      · have hw : true = true ↔ ivOk s l e t m f ∧ fits (dval t m f - dval s l e) := ⟨fun _ => ⟨hok, hfit⟩, fun _ => rfl⟩
        exact lawE_fs C hp hq hbig (w := true) (fun P' C' => specIvWide_fs C' hp hq rfl hw (none hw fun _ => hn) hl1 hm1) (fun P' C' => implIvWide0_fs C' hp hq hok hn hl1 hm1)
      · exact lawO_fs C hp hq hbig hok hfit hn
    · have hw : false = true ↔ ivOk s l e t m f ∧ fits (dval t m f - dval s l e) := ⟨fun h => absurd h (by decide), fun h => absurd h.2 hfit⟩
      exact lawE_fs C hp hq hbig (w := false) (fun P' C' => specIvWide_fs C' hp hq rfl hw (none hw fun h => absurd h (by decide)) hl1 hm1) (fun P' C' => implIvWideX_fs C' hp hq hok rfl hfit hl1 hm1)
  · have hw : false = true ↔ ivOk s l e t m f ∧ fits (dval t m f - dval s l e) := ⟨fun h => absurd h (by decide), fun h => absurd h.1 hok⟩
    exact lawE_fs C hp hq hbig (w := false) (fun P' C' => specIvWide_fs C' hp hq rfl hw (none hw fun h => absurd h (by decide)) hl1 hm1) (fun P' C' => implIvWideN_fs C' hp hq hok hl1 hm1)

end Tryd
end Go.Proofs
