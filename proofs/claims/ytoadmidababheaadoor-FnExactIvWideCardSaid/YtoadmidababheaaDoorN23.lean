/- Contracts: how wide an interval is, as the program tells it. -/
import Derived.Test.YtoadmidababheaaDoorN22
namespace Go.Proofs
open Go Go.Pe Go.Dg
namespace Tryd
set_option linter.unusedSimpArgs false
set_option linter.unusedVariables false
variable {P : Program} {gl : List (Nat × Obj)}

theorem sumD_len {z1 e1 z2 e2 w f : Int} {L E : Nat} (h : sumD z1 e1 z2 e2 w f) (h1 : (dg z1.natAbs).length ≤ L) (h2 : (dg z2.natAbs).length ≤ L) (b1 : e1.natAbs ≤ E) (b2 : e2.natAbs ≤ E) :
    (dg w.natAbs).length ≤ 2 * (L + E + 1) + 1 ∧ f.natAbs ≤ E := by
  obtain ⟨x, y, ha, rfl⟩ := h
  obtain ⟨c1, c2, c3⟩ := align_len ha h2 h1 b2 b1
  refine ⟨?_, c3⟩
  have g1 := dg_len_add x.natAbs y.natAbs
  have g2 : (dg (x + y).natAbs).length ≤ (dg (x.natAbs + y.natAbs)).length := dg_len_mono (by omega)
  omega

theorem dg_zero : dg 0 = [] := List.eq_nil_of_length_eq_zero (dg_len0.2 rfl)

theorem fits_zero : fits 0 := by
  have : cZ (0 : Dyadic) = 0 := cZ_eq_zero.2 rfl
  refine ⟨by rw [this, show Int.natAbs 0 = 0 from rfl, dg_zero]; decide, by decide, by decide⟩

/-- what the end points of an interval in form are -/
theorem ivOk_val {l m : List Int} {e f : Int} {p q : List PV} {s t : Bool} (hp : p = intsL l) (hq : q = intsL m) (hok : ivOk s l e t m f) :
    ∃ z1 z2 : Int, p = intsL (dg z1.natAbs) ∧ s = decide (z1 < 0) ∧ q = intsL (dg z2.natAbs) ∧ t = decide (z2 < 0) ∧ dval s l e = mk z1 e ∧ dval t m f = mk z2 f ∧ e.natAbs ≤ 3000 ∧ f.natAbs ≤ 3000 ∧
      (dg z1.natAbs).length ≤ 100 ∧ (dg z2.natAbs).length ≤ 100 := by
  obtain ⟨⟨x1, x2, x3⟩, y1, y2, y3⟩ := dyOk_val hok.1
  obtain ⟨⟨x4, x5, x6⟩, y4, y5, y6⟩ := dyOk_val hok.2.1
  generalize dval s l e = d1 at *
  generalize dval t m f = d2 at *
  exact ⟨cZ d1, cZ d2, by rw [hp, ← x2], x1, by rw [hq, ← x5], x4, by rw [x3, mk_canon], by rw [x6, mk_canon], by omega, by omega, by omega, by omega⟩

set_option maxHeartbeats 1000000 in
set_option maxRecDepth 100000 in
/-- a width that is not nought and fits: of memory of its own -/
theorem implIvWide_fx (C : Cx P gl) {l m : List Int} {e f g : Int} {p q r : List PV} {s t u : Bool} {d : Dyadic} (hp : p = intsL l) (hq : q = intsL m) (hok : ivOk s l e t m f) (hd : d = dval t m f - dval s l e) (hfit : fits d) (hn : d ≠ 0)
    (hr : r = intsL (dg (cZ d).natAbs)) (hu : u = decide (cZ d < 0)) (hg : g = cE d) (hl : l.length ≤ 2000000) (hm : m.length ≤ 2000000) :
    FX P gl 11 [] [.pv (.agg [B s, .lst p, I e, B t, .lst q, I f])] (fun own rr => own = [.row 3 1 r] ∧ rr = .tup [.agg [.pv (B u), .own 0, .pv (I g)], .pv (B true)]) := by
  obtain ⟨z1, z2, a1, a2, a3, a4, a5, a6, a7, a8, a9, a10⟩ := ivOk_val hp hq hok
  obtain ⟨w, h, hs⟩ := sumD_ex z2 f (-z1) e
  have hsm := sumD_mk hs
  obtain ⟨b1, b2⟩ := sumD_len hs a10 (by rw [Int.natAbs_neg]; exact a9) a8 a7
  have hdm : d = mk w h := by rw [hd, a5, a6, hsm, ← mk_neg]; grind
  have hw : w ≠ 0 := by
    intro h0; rw [h0, mk_zero] at hdm; exact hn hdm
  have htrue : true = true ↔ ivOk s l e t m f := ⟨fun _ => hok, fun _ => rfl⟩
  obtain ⟨p', hp'⟩ : ∃ p', p' = intsL (dg w.natAbs) := ⟨_, rfl⟩
  obtain ⟨s', hs'⟩ : ∃ s', s' = decide (w < 0) := ⟨_, rfl⟩
  clear hok hd a5 a6
  obtain ⟨rfl, hG⟩ := C
  refine FX_ofT (own := fun A => []) (args := fun A => [.pv (.agg [B s, .lst p, I e, B t, .lst q, I f])]) (R := fun A ow rr => ow = [.row 3 1 r] ∧ rr = .tup [.agg [.pv (B u), .own 0, .pv (I g)], .pv (B true)]) Tryd.hT Tryd.mix Tryd.func11 rfl rfl (Nat.le_of_ble_eq_true rfl) ?_
  generalize hP : Tryd.prog = P
  intro A hA
  have C : Tryd.Cx P gl := ⟨hP.symm, hG⟩
  have hI : intsL = A.ints := by subst hA; rfl
  all_goals try cbv
  all_goals repeat' (first | with_reducible exact True.intro | with_reducible refine And.intro ?_ ?_ | intro _)
  all_goals try cbv
  all_goals repeat' (first | with_reducible exact True.intro | with_reducible refine And.intro ?_ ?_ | intro _)
  all_goals first | ((first | with_reducible refine lei_of hA ?_ | with_reducible refine lti_of hA ?_ | with_reducible refine ltn_of hA ?_ | with_reducible refine nez_of hA ?_ | with_reducible refine okA_of hA ?_ | with_reducible refine allC_of hA ?_ | with_reducible refine cap_of hA ?_ | with_reducible refine len_le_of hA ?_ | with_reducible refine len_eq_of hA ?_ | with_reducible refine peq_of hA ?_ | with_reducible refine tru_of ?_); subst hA; subst_vars; simp only [AR.std, natCast_eq, sA, sB, sC, sD, reduceCtorEq, Bool.true_eq_false, Bool.false_eq_true] at *; (try simp (disch := omega) only [AR.std, natCast_eq, sA, sB, sC, sD, reduceCtorEq, Bool.true_eq_false, Bool.false_eq_true] at *); first | done | rfl | omega | exact ints_ok _ | exact ints_all _ | (apply ints_part <;> first | omega | rfl)) | (exfalso; subst hA; subst_vars; simp only [AR.std, natCast_eq, sA, sB, sC, sD, reduceCtorEq, Bool.true_eq_false, Bool.false_eq_true] at *; (try simp (disch := omega) only [AR.std, natCast_eq, sA, sB, sC, sD, reduceCtorEq, Bool.true_eq_false, Bool.false_eq_true] at *); first | done | rfl | omega | exact ints_ok _ | exact ints_all _ | (apply ints_part <;> first | omega | rfl)) | skip
  refine callS hA rfl (implIvOk_fs C hp hq htrue hl hm) ?_; rintro _ rfl
  all_goals try cbv
  all_goals repeat' (first | with_reducible exact True.intro | with_reducible refine And.intro ?_ ?_ | intro _)
  all_goals try cbv
  all_goals repeat' (first | with_reducible exact True.intro | with_reducible refine And.intro ?_ ?_ | intro _)
  all_goals first | ((first | with_reducible refine lei_of hA ?_ | with_reducible refine lti_of hA ?_ | with_reducible refine ltn_of hA ?_ | with_reducible refine nez_of hA ?_ | with_reducible refine okA_of hA ?_ | with_reducible refine allC_of hA ?_ | with_reducible refine cap_of hA ?_ | with_reducible refine len_le_of hA ?_ | with_reducible refine len_eq_of hA ?_ | with_reducible refine peq_of hA ?_ | with_reducible refine tru_of ?_); subst hA; subst_vars; simp only [AR.std, natCast_eq, sA, sB, sC, sD, reduceCtorEq, Bool.true_eq_false, Bool.false_eq_true] at *; (try simp (disch := omega) only [AR.std, natCast_eq, sA, sB, sC, sD, reduceCtorEq, Bool.true_eq_false, Bool.false_eq_true] at *); first | done | rfl | omega | exact ints_ok _ | exact ints_all _ | (apply ints_part <;> first | omega | rfl)) | (exfalso; subst hA; subst_vars; simp only [AR.std, natCast_eq, sA, sB, sC, sD, reduceCtorEq, Bool.true_eq_false, Bool.false_eq_true] at *; (try simp (disch := omega) only [AR.std, natCast_eq, sA, sB, sC, sD, reduceCtorEq, Bool.true_eq_false, Bool.false_eq_true] at *); first | done | rfl | omega | exact ints_ok _ | exact ints_all _ | (apply ints_part <;> first | omega | rfl)) | skip
  refine callS hA rfl (span_fs C) ?_; rintro _ rfl
  all_goals try cbv
  all_goals repeat' (first | with_reducible exact True.intro | with_reducible refine And.intro ?_ ?_ | intro _)
  all_goals try cbv
  all_goals repeat' (first | with_reducible exact True.intro | with_reducible refine And.intro ?_ ?_ | intro _)
  all_goals first | ((first | with_reducible refine lei_of hA ?_ | with_reducible refine lti_of hA ?_ | with_reducible refine ltn_of hA ?_ | with_reducible refine nez_of hA ?_ | with_reducible refine okA_of hA ?_ | with_reducible refine allC_of hA ?_ | with_reducible refine cap_of hA ?_ | with_reducible refine len_le_of hA ?_ | with_reducible refine len_eq_of hA ?_ | with_reducible refine peq_of hA ?_ | with_reducible refine tru_of ?_); subst hA; subst_vars; simp only [AR.std, natCast_eq, sA, sB, sC, sD, reduceCtorEq, Bool.true_eq_false, Bool.false_eq_true] at *; (try simp (disch := omega) only [AR.std, natCast_eq, sA, sB, sC, sD, reduceCtorEq, Bool.true_eq_false, Bool.false_eq_true] at *); first | done | rfl | omega | exact ints_ok _ | exact ints_all _ | (apply ints_part <;> first | omega | rfl)) | (exfalso; subst hA; subst_vars; simp only [AR.std, natCast_eq, sA, sB, sC, sD, reduceCtorEq, Bool.true_eq_false, Bool.false_eq_true] at *; (try simp (disch := omega) only [AR.std, natCast_eq, sA, sB, sC, sD, reduceCtorEq, Bool.true_eq_false, Bool.false_eq_true] at *); first | done | rfl | omega | exact ints_ok _ | exact ints_all _ | (apply ints_part <;> first | omega | rfl)) | skip
  refine callS hA rfl (wide_fs C a1 a2 a3 a4 hs hp' hs' (by omega) (by omega) (by omega) (by omega)) ?_; rintro _ rfl
  all_goals try cbv
  all_goals repeat' (first | with_reducible exact True.intro | with_reducible refine And.intro ?_ ?_ | intro _)
  all_goals try cbv
  all_goals repeat' (first | with_reducible exact True.intro | with_reducible refine And.intro ?_ ?_ | intro _)
  all_goals first | ((first | with_reducible refine lei_of hA ?_ | with_reducible refine lti_of hA ?_ | with_reducible refine ltn_of hA ?_ | with_reducible refine nez_of hA ?_ | with_reducible refine okA_of hA ?_ | with_reducible refine allC_of hA ?_ | with_reducible refine cap_of hA ?_ | with_reducible refine len_le_of hA ?_ | with_reducible refine len_eq_of hA ?_ | with_reducible refine peq_of hA ?_ | with_reducible refine tru_of ?_); subst hA; subst_vars; simp only [AR.std, natCast_eq, sA, sB, sC, sD, reduceCtorEq, Bool.true_eq_false, Bool.false_eq_true] at *; (try simp (disch := omega) only [AR.std, natCast_eq, sA, sB, sC, sD, reduceCtorEq, Bool.true_eq_false, Bool.false_eq_true] at *); first | done | rfl | omega | exact ints_ok _ | exact ints_all _ | (apply ints_part <;> first | omega | rfl)) | (exfalso; subst hA; subst_vars; simp only [AR.std, natCast_eq, sA, sB, sC, sD, reduceCtorEq, Bool.true_eq_false, Bool.false_eq_true] at *; (try simp (disch := omega) only [AR.std, natCast_eq, sA, sB, sC, sD, reduceCtorEq, Bool.true_eq_false, Bool.false_eq_true] at *); first | done | rfl | omega | exact ints_ok _ | exact ints_all _ | (apply ints_part <;> first | omega | rfl)) | skip
  refine callX hA [] List.nodup_nil rfl rfl rfl (dy_fx C hp' hs' hdm hr hu hg (by omega) (by omega) hw hfit) ?_; rintro _ _ ⟨rfl, rfl⟩; refine ⟨rfl, ?_⟩
  all_goals try cbv
  all_goals repeat' (first | with_reducible exact True.intro | with_reducible refine And.intro ?_ ?_ | intro _)
  all_goals try cbv
  all_goals repeat' (first | with_reducible exact True.intro | with_reducible refine And.intro ?_ ?_ | intro _)
  all_goals first | ((first | with_reducible refine lei_of hA ?_ | with_reducible refine lti_of hA ?_ | with_reducible refine ltn_of hA ?_ | with_reducible refine nez_of hA ?_ | with_reducible refine okA_of hA ?_ | with_reducible refine allC_of hA ?_ | with_reducible refine cap_of hA ?_ | with_reducible refine len_le_of hA ?_ | with_reducible refine len_eq_of hA ?_ | with_reducible refine peq_of hA ?_ | with_reducible refine tru_of ?_); subst hA; subst_vars; simp only [AR.std, natCast_eq, sA, sB, sC, sD, reduceCtorEq, Bool.true_eq_false, Bool.false_eq_true] at *; (try simp (disch := omega) only [AR.std, natCast_eq, sA, sB, sC, sD, reduceCtorEq, Bool.true_eq_false, Bool.false_eq_true] at *); first | done | rfl | omega | exact ints_ok _ | exact ints_all _ | (apply ints_part <;> first | omega | rfl)) | (exfalso; subst hA; subst_vars; simp only [AR.std, natCast_eq, sA, sB, sC, sD, reduceCtorEq, Bool.true_eq_false, Bool.false_eq_true] at *; (try simp (disch := omega) only [AR.std, natCast_eq, sA, sB, sC, sD, reduceCtorEq, Bool.true_eq_false, Bool.false_eq_true] at *); first | done | rfl | omega | exact ints_ok _ | exact ints_all _ | (apply ints_part <;> first | omega | rfl)) | skip
  subst hA
  exact ⟨[2], _, _, by decide, Nat.zero_le _, rfl, rfl, rfl, rfl, rfl, rfl⟩

theorem implIvWide_fn (C : Cx P gl) {l m : List Int} {e f g : Int} {p q r : List PV} {s t u : Bool} {d : Dyadic} (hp : p = intsL l) (hq : q = intsL m) (hok : ivOk s l e t m f) (hd : d = dval t m f - dval s l e) (hfit : fits d) (hn : d ≠ 0)
    (hr : r = intsL (dg (cZ d).natAbs)) (hu : u = decide (cZ d < 0)) (hg : g = cE d) (hl : l.length ≤ 2000000) (hm : m.length ≤ 2000000) :
    FN P gl 11 [.agg [B s, .lst p, I e, B t, .lst q, I f]] (fun own rr => own = [.row 3 1 r] ∧ rr = .tup [.agg [.pv (B u), .own 0, .pv (I g)], .pv (B true)]) :=
  FN_of (implIvWide_fx C hp hq hok hd hfit hn hr hu hg hl hm) (by rintro _ _ ⟨rfl, rfl⟩; exact ⟨by simpa using closed_ints hr _ _, rfl⟩)

set_option maxHeartbeats 1000000 in
set_option maxRecDepth 100000 in
/-- no interval -/
theorem implIvWideN_fs (C : Cx P gl) {l m : List Int} {e f : Int} {p q : List PV} {s t : Bool} (hp : p = intsL l) (hq : q = intsL m) (hok : ¬ivOk s l e t m f) (hl : l.length ≤ 2000000) (hm : m.length ≤ 2000000) :
    FS P gl 11 [.agg [B s, .lst p, I e, B t, .lst q, I f]] (· = .tup [.agg [B false, .lst [], I 0], B false]) := by
  have hf : false = true ↔ ivOk s l e t m f := ⟨fun h => absurd h (by decide), fun h => absurd h hok⟩
  clear hok
  obtain ⟨rfl, hG⟩ := C
  refine FS_ofT (args := fun A => [.agg [B s, .lst p, I e, B t, .lst q, I f]]) (R := fun A rr => rr = .tup [.agg [B false, .lst [], I 0], B false]) Tryd.hT Tryd.mix Tryd.func11 rfl rfl (Nat.le_of_ble_eq_true rfl) ?_
  generalize hP : Tryd.prog = P
  intro A hA
  have C : Tryd.Cx P gl := ⟨hP.symm, hG⟩
  have hI : intsL = A.ints := by subst hA; rfl
  all_goals try cbv
  all_goals repeat' (first | with_reducible exact True.intro | with_reducible refine And.intro ?_ ?_ | intro _)
  all_goals try cbv
  all_goals repeat' (first | with_reducible exact True.intro | with_reducible refine And.intro ?_ ?_ | intro _)
  all_goals first | ((first | with_reducible refine lei_of hA ?_ | with_reducible refine lti_of hA ?_ | with_reducible refine ltn_of hA ?_ | with_reducible refine nez_of hA ?_ | with_reducible refine okA_of hA ?_ | with_reducible refine allC_of hA ?_ | with_reducible refine cap_of hA ?_ | with_reducible refine len_le_of hA ?_ | with_reducible refine len_eq_of hA ?_ | with_reducible refine peq_of hA ?_ | with_reducible refine tru_of ?_); subst hA; subst_vars; simp only [AR.std, natCast_eq, sA, sB, sC, sD, reduceCtorEq, Bool.true_eq_false, Bool.false_eq_true] at *; (try simp (disch := omega) only [AR.std, natCast_eq, sA, sB, sC, sD, reduceCtorEq, Bool.true_eq_false, Bool.false_eq_true] at *); first | done | rfl | omega | exact ints_ok _ | exact ints_all _ | (apply ints_part <;> first | omega | rfl)) | (exfalso; subst hA; subst_vars; simp only [AR.std, natCast_eq, sA, sB, sC, sD, reduceCtorEq, Bool.true_eq_false, Bool.false_eq_true] at *; (try simp (disch := omega) only [AR.std, natCast_eq, sA, sB, sC, sD, reduceCtorEq, Bool.true_eq_false, Bool.false_eq_true] at *); first | done | rfl | omega | exact ints_ok _ | exact ints_all _ | (apply ints_part <;> first | omega | rfl)) | skip
  refine callS hA rfl (implIvOk_fs C hp hq hf hl hm) ?_; rintro _ rfl
  all_goals try cbv
  all_goals repeat' (first | with_reducible exact True.intro | with_reducible refine And.intro ?_ ?_ | intro _)
  all_goals try cbv
  all_goals repeat' (first | with_reducible exact True.intro | with_reducible refine And.intro ?_ ?_ | intro _)
  all_goals first | ((first | with_reducible refine lei_of hA ?_ | with_reducible refine lti_of hA ?_ | with_reducible refine ltn_of hA ?_ | with_reducible refine nez_of hA ?_ | with_reducible refine okA_of hA ?_ | with_reducible refine allC_of hA ?_ | with_reducible refine cap_of hA ?_ | with_reducible refine len_le_of hA ?_ | with_reducible refine len_eq_of hA ?_ | with_reducible refine peq_of hA ?_ | with_reducible refine tru_of ?_); subst hA; subst_vars; simp only [AR.std, natCast_eq, sA, sB, sC, sD, reduceCtorEq, Bool.true_eq_false, Bool.false_eq_true] at *; (try simp (disch := omega) only [AR.std, natCast_eq, sA, sB, sC, sD, reduceCtorEq, Bool.true_eq_false, Bool.false_eq_true] at *); first | done | rfl | omega | exact ints_ok _ | exact ints_all _ | (apply ints_part <;> first | omega | rfl)) | (exfalso; subst hA; subst_vars; simp only [AR.std, natCast_eq, sA, sB, sC, sD, reduceCtorEq, Bool.true_eq_false, Bool.false_eq_true] at *; (try simp (disch := omega) only [AR.std, natCast_eq, sA, sB, sC, sD, reduceCtorEq, Bool.true_eq_false, Bool.false_eq_true] at *); first | done | rfl | omega | exact ints_ok _ | exact ints_all _ | (apply ints_part <;> first | omega | rfl)) | skip

set_option maxHeartbeats 1000000 in
set_option maxRecDepth 100000 in
/-- a width of nought -/
theorem implIvWide0_fs (C : Cx P gl) {l m : List Int} {e f : Int} {p q : List PV} {s t : Bool} (hp : p = intsL l) (hq : q = intsL m) (hok : ivOk s l e t m f) (hd : dval t m f - dval s l e = 0) (hl : l.length ≤ 2000000) (hm : m.length ≤ 2000000) :
    FS P gl 11 [.agg [B s, .lst p, I e, B t, .lst q, I f]] (· = .tup [.agg [B false, .lst [], I 0], B true]) := by
  obtain ⟨z1, z2, a1, a2, a3, a4, a5, a6, a7, a8, a9, a10⟩ := ivOk_val hp hq hok
  obtain ⟨w, h, hs⟩ := sumD_ex z2 f (-z1) e
  have hsm := sumD_mk hs
  have hdm : mk w h = 0 := by rw [hsm, ← hd, a5, a6, ← mk_neg]; grind
  have hw : w = 0 := by rw [← mk_zero h, mk_inj] at hdm; exact hdm
  have htrue : true = true ↔ ivOk s l e t m f := ⟨fun _ => hok, fun _ => rfl⟩
  have hp' : ([] : List PV) = intsL (dg w.natAbs) := by rw [hw, show Int.natAbs 0 = 0 from rfl, dg_zero]; rfl
  have hs' : false = decide (w < 0) := by rw [hw]; rfl
  clear hok hd a5 a6
  obtain ⟨rfl, hG⟩ := C
  refine FS_ofT (args := fun A => [.agg [B s, .lst p, I e, B t, .lst q, I f]]) (R := fun A rr => rr = .tup [.agg [B false, .lst [], I 0], B true]) Tryd.hT Tryd.mix Tryd.func11 rfl rfl (Nat.le_of_ble_eq_true rfl) ?_
  generalize hP : Tryd.prog = P
  intro A hA
  have C : Tryd.Cx P gl := ⟨hP.symm, hG⟩
  have hI : intsL = A.ints := by subst hA; rfl
  all_goals try cbv
  all_goals repeat' (first | with_reducible exact True.intro | with_reducible refine And.intro ?_ ?_ | intro _)
  all_goals try cbv
  all_goals repeat' (first | with_reducible exact True.intro | with_reducible refine And.intro ?_ ?_ | intro _)
  all_goals first | ((first | with_reducible refine lei_of hA ?_ | with_reducible refine lti_of hA ?_ | with_reducible refine ltn_of hA ?_ | with_reducible refine nez_of hA ?_ | with_reducible refine okA_of hA ?_ | with_reducible refine allC_of hA ?_ | with_reducible refine cap_of hA ?_ | with_reducible refine len_le_of hA ?_ | with_reducible refine len_eq_of hA ?_ | with_reducible refine peq_of hA ?_ | with_reducible refine tru_of ?_); subst hA; subst_vars; simp only [AR.std, natCast_eq, sA, sB, sC, sD, reduceCtorEq, Bool.true_eq_false, Bool.false_eq_true] at *; (try simp (disch := omega) only [AR.std, natCast_eq, sA, sB, sC, sD, reduceCtorEq, Bool.true_eq_false, Bool.false_eq_true] at *); first | done | rfl | omega | exact ints_ok _ | exact ints_all _ | (apply ints_part <;> first | omega | rfl)) | (exfalso; subst hA; subst_vars; simp only [AR.std, natCast_eq, sA, sB, sC, sD, reduceCtorEq, Bool.true_eq_false, Bool.false_eq_true] at *; (try simp (disch := omega) only [AR.std, natCast_eq, sA, sB, sC, sD, reduceCtorEq, Bool.true_eq_false, Bool.false_eq_true] at *); first | done | rfl | omega | exact ints_ok _ | exact ints_all _ | (apply ints_part <;> first | omega | rfl)) | skip
  refine callS hA rfl (implIvOk_fs C hp hq htrue hl hm) ?_; rintro _ rfl
  all_goals try cbv
  all_goals repeat' (first | with_reducible exact True.intro | with_reducible refine And.intro ?_ ?_ | intro _)
  all_goals try cbv
  all_goals repeat' (first | with_reducible exact True.intro | with_reducible refine And.intro ?_ ?_ | intro _)
  all_goals first | ((first | with_reducible refine lei_of hA ?_ | with_reducible refine lti_of hA ?_ | with_reducible refine ltn_of hA ?_ | with_reducible refine nez_of hA ?_ | with_reducible refine okA_of hA ?_ | with_reducible refine allC_of hA ?_ | with_reducible refine cap_of hA ?_ | with_reducible refine len_le_of hA ?_ | with_reducible refine len_eq_of hA ?_ | with_reducible refine peq_of hA ?_ | with_reducible refine tru_of ?_); subst hA; subst_vars; simp only [AR.std, natCast_eq, sA, sB, sC, sD, reduceCtorEq, Bool.true_eq_false, Bool.false_eq_true] at *; (try simp (disch := omega) only [AR.std, natCast_eq, sA, sB, sC, sD, reduceCtorEq, Bool.true_eq_false, Bool.false_eq_true] at *); first | done | rfl | omega | exact ints_ok _ | exact ints_all _ | (apply ints_part <;> first | omega | rfl)) | (exfalso; subst hA; subst_vars; simp only [AR.std, natCast_eq, sA, sB, sC, sD, reduceCtorEq, Bool.true_eq_false, Bool.false_eq_true] at *; (try simp (disch := omega) only [AR.std, natCast_eq, sA, sB, sC, sD, reduceCtorEq, Bool.true_eq_false, Bool.false_eq_true] at *); first | done | rfl | omega | exact ints_ok _ | exact ints_all _ | (apply ints_part <;> first | omega | rfl)) | skip
  refine callS hA rfl (span_fs C) ?_; rintro _ rfl
  all_goals try cbv
  all_goals repeat' (first | with_reducible exact True.intro | with_reducible refine And.intro ?_ ?_ | intro _)
  all_goals try cbv
  all_goals repeat' (first | with_reducible exact True.intro | with_reducible refine And.intro ?_ ?_ | intro _)
  all_goals first | ((first | with_reducible refine lei_of hA ?_ | with_reducible refine lti_of hA ?_ | with_reducible refine ltn_of hA ?_ | with_reducible refine nez_of hA ?_ | with_reducible refine okA_of hA ?_ | with_reducible refine allC_of hA ?_ | with_reducible refine cap_of hA ?_ | with_reducible refine len_le_of hA ?_ | with_reducible refine len_eq_of hA ?_ | with_reducible refine peq_of hA ?_ | with_reducible refine tru_of ?_); subst hA; subst_vars; simp only [AR.std, natCast_eq, sA, sB, sC, sD, reduceCtorEq, Bool.true_eq_false, Bool.false_eq_true] at *; (try simp (disch := omega) only [AR.std, natCast_eq, sA, sB, sC, sD, reduceCtorEq, Bool.true_eq_false, Bool.false_eq_true] at *); first | done | rfl | omega | exact ints_ok _ | exact ints_all _ | (apply ints_part <;> first | omega | rfl)) | (exfalso; subst hA; subst_vars; simp only [AR.std, natCast_eq, sA, sB, sC, sD, reduceCtorEq, Bool.true_eq_false, Bool.false_eq_true] at *; (try simp (disch := omega) only [AR.std, natCast_eq, sA, sB, sC, sD, reduceCtorEq, Bool.true_eq_false, Bool.false_eq_true] at *); first | done | rfl | omega | exact ints_ok _ | exact ints_all _ | (apply ints_part <;> first | omega | rfl)) | skip
  refine callS hA rfl (wide_fs C a1 a2 a3 a4 hs hp' hs' (by omega) (by omega) (by omega) (by omega)) ?_; rintro _ rfl
  all_goals try cbv
  all_goals repeat' (first | with_reducible exact True.intro | with_reducible refine And.intro ?_ ?_ | intro _)
  all_goals try cbv
  all_goals repeat' (first | with_reducible exact True.intro | with_reducible refine And.intro ?_ ?_ | intro _)
  all_goals first | ((first | with_reducible refine lei_of hA ?_ | with_reducible refine lti_of hA ?_ | with_reducible refine ltn_of hA ?_ | with_reducible refine nez_of hA ?_ | with_reducible refine okA_of hA ?_ | with_reducible refine allC_of hA ?_ | with_reducible refine cap_of hA ?_ | with_reducible refine len_le_of hA ?_ | with_reducible refine len_eq_of hA ?_ | with_reducible refine peq_of hA ?_ | with_reducible refine tru_of ?_); subst hA; subst_vars; simp only [AR.std, natCast_eq, sA, sB, sC, sD, reduceCtorEq, Bool.true_eq_false, Bool.false_eq_true] at *; (try simp (disch := omega) only [AR.std, natCast_eq, sA, sB, sC, sD, reduceCtorEq, Bool.true_eq_false, Bool.false_eq_true] at *); first | done | rfl | omega | exact ints_ok _ | exact ints_all _ | (apply ints_part <;> first | omega | rfl)) | (exfalso; subst hA; subst_vars; simp only [AR.std, natCast_eq, sA, sB, sC, sD, reduceCtorEq, Bool.true_eq_false, Bool.false_eq_true] at *; (try simp (disch := omega) only [AR.std, natCast_eq, sA, sB, sC, sD, reduceCtorEq, Bool.true_eq_false, Bool.false_eq_true] at *); first | done | rfl | omega | exact ints_ok _ | exact ints_all _ | (apply ints_part <;> first | omega | rfl)) | skip
  refine callS hA rfl (dy0_fs C) ?_; rintro _ rfl
  all_goals try cbv
  all_goals repeat' (first | with_reducible exact True.intro | with_reducible refine And.intro ?_ ?_ | intro _)
  all_goals try cbv
  all_goals repeat' (first | with_reducible exact True.intro | with_reducible refine And.intro ?_ ?_ | intro _)
  all_goals first | ((first | with_reducible refine lei_of hA ?_ | with_reducible refine lti_of hA ?_ | with_reducible refine ltn_of hA ?_ | with_reducible refine nez_of hA ?_ | with_reducible refine okA_of hA ?_ | with_reducible refine allC_of hA ?_ | with_reducible refine cap_of hA ?_ | with_reducible refine len_le_of hA ?_ | with_reducible refine len_eq_of hA ?_ | with_reducible refine peq_of hA ?_ | with_reducible refine tru_of ?_); subst hA; subst_vars; simp only [AR.std, natCast_eq, sA, sB, sC, sD, reduceCtorEq, Bool.true_eq_false, Bool.false_eq_true] at *; (try simp (disch := omega) only [AR.std, natCast_eq, sA, sB, sC, sD, reduceCtorEq, Bool.true_eq_false, Bool.false_eq_true] at *); first | done | rfl | omega | exact ints_ok _ | exact ints_all _ | (apply ints_part <;> first | omega | rfl)) | (exfalso; subst hA; subst_vars; simp only [AR.std, natCast_eq, sA, sB, sC, sD, reduceCtorEq, Bool.true_eq_false, Bool.false_eq_true] at *; (try simp (disch := omega) only [AR.std, natCast_eq, sA, sB, sC, sD, reduceCtorEq, Bool.true_eq_false, Bool.false_eq_true] at *); first | done | rfl | omega | exact ints_ok _ | exact ints_all _ | (apply ints_part <;> first | omega | rfl)) | skip

set_option maxHeartbeats 1000000 in
set_option maxRecDepth 100000 in
/-- a width that does not fit -/
theorem implIvWideX_fs (C : Cx P gl) {l m : List Int} {e f : Int} {p q : List PV} {s t : Bool} {d : Dyadic} (hp : p = intsL l) (hq : q = intsL m) (hok : ivOk s l e t m f) (hd : d = dval t m f - dval s l e) (hfit : ¬fits d) (hl : l.length ≤ 2000000) (hm : m.length ≤ 2000000) :
    FS P gl 11 [.agg [B s, .lst p, I e, B t, .lst q, I f]] (· = .tup [.agg [B false, .lst [], I 0], B false]) := by
  obtain ⟨z1, z2, a1, a2, a3, a4, a5, a6, a7, a8, a9, a10⟩ := ivOk_val hp hq hok
  obtain ⟨w, h, hs⟩ := sumD_ex z2 f (-z1) e
  have hsm := sumD_mk hs
  obtain ⟨b1, b2⟩ := sumD_len hs a10 (by rw [Int.natAbs_neg]; exact a9) a8 a7
  have hdm : d = mk w h := by rw [hd, a5, a6, hsm, ← mk_neg]; grind
  have hw : w ≠ 0 := by
    intro h0; rw [h0, mk_zero] at hdm
    apply hfit; rw [hdm]; exact fits_zero
  have htrue : true = true ↔ ivOk s l e t m f := ⟨fun _ => hok, fun _ => rfl⟩
  obtain ⟨p', hp'⟩ : ∃ p', p' = intsL (dg w.natAbs) := ⟨_, rfl⟩
  obtain ⟨s', hs'⟩ : ∃ s', s' = decide (w < 0) := ⟨_, rfl⟩
  rw [hdm] at hfit
  clear hok hd a5 a6 hdm
  obtain ⟨rfl, hG⟩ := C
  refine FS_ofT (args := fun A => [.agg [B s, .lst p, I e, B t, .lst q, I f]]) (R := fun A rr => rr = .tup [.agg [B false, .lst [], I 0], B false]) Tryd.hT Tryd.mix Tryd.func11 rfl rfl (Nat.le_of_ble_eq_true rfl) ?_
  generalize hP : Tryd.prog = P
  intro A hA
  have C : Tryd.Cx P gl := ⟨hP.symm, hG⟩
  have hI : intsL = A.ints := by subst hA; rfl
  all_goals try cbv
  all_goals repeat' (first | with_reducible exact True.intro | with_reducible refine And.intro ?_ ?_ | intro _)
  all_goals try cbv
  all_goals repeat' (first | with_reducible exact True.intro | with_reducible refine And.intro ?_ ?_ | intro _)
  all_goals first | ((first | with_reducible refine lei_of hA ?_ | with_reducible refine lti_of hA ?_ | with_reducible refine ltn_of hA ?_ | with_reducible refine nez_of hA ?_ | with_reducible refine okA_of hA ?_ | with_reducible refine allC_of hA ?_ | with_reducible refine cap_of hA ?_ | with_reducible refine len_le_of hA ?_ | with_reducible refine len_eq_of hA ?_ | with_reducible refine peq_of hA ?_ | with_reducible refine tru_of ?_); subst hA; subst_vars; simp only [AR.std, natCast_eq, sA, sB, sC, sD, reduceCtorEq, Bool.true_eq_false, Bool.false_eq_true] at *; (try simp (disch := omega) only [AR.std, natCast_eq, sA, sB, sC, sD, reduceCtorEq, Bool.true_eq_false, Bool.false_eq_true] at *); first | done | rfl | omega | exact ints_ok _ | exact ints_all _ | (apply ints_part <;> first | omega | rfl)) | (exfalso; subst hA; subst_vars; simp only [AR.std, natCast_eq, sA, sB, sC, sD, reduceCtorEq, Bool.true_eq_false, Bool.false_eq_true] at *; (try simp (disch := omega) only [AR.std, natCast_eq, sA, sB, sC, sD, reduceCtorEq, Bool.true_eq_false, Bool.false_eq_true] at *); first | done | rfl | omega | exact ints_ok _ | exact ints_all _ | (apply ints_part <;> first | omega | rfl)) | skip
  refine callS hA rfl (implIvOk_fs C hp hq htrue hl hm) ?_; rintro _ rfl
  all_goals try cbv
  all_goals repeat' (first | with_reducible exact True.intro | with_reducible refine And.intro ?_ ?_ | intro _)
  all_goals try cbv
  all_goals repeat' (first | with_reducible exact True.intro | with_reducible refine And.intro ?_ ?_ | intro _)
  all_goals first | ((first | with_reducible refine lei_of hA ?_ | with_reducible refine lti_of hA ?_ | with_reducible refine ltn_of hA ?_ | with_reducible refine nez_of hA ?_ | with_reducible refine okA_of hA ?_ | with_reducible refine allC_of hA ?_ | with_reducible refine cap_of hA ?_ | with_reducible refine len_le_of hA ?_ | with_reducible refine len_eq_of hA ?_ | with_reducible refine peq_of hA ?_ | with_reducible refine tru_of ?_); subst hA; subst_vars; simp only [AR.std, natCast_eq, sA, sB, sC, sD, reduceCtorEq, Bool.true_eq_false, Bool.false_eq_true] at *; (try simp (disch := omega) only [AR.std, natCast_eq, sA, sB, sC, sD, reduceCtorEq, Bool.true_eq_false, Bool.false_eq_true] at *); first | done | rfl | omega | exact ints_ok _ | exact ints_all _ | (apply ints_part <;> first | omega | rfl)) | (exfalso; subst hA; subst_vars; simp only [AR.std, natCast_eq, sA, sB, sC, sD, reduceCtorEq, Bool.true_eq_false, Bool.false_eq_true] at *; (try simp (disch := omega) only [AR.std, natCast_eq, sA, sB, sC, sD, reduceCtorEq, Bool.true_eq_false, Bool.false_eq_true] at *); first | done | rfl | omega | exact ints_ok _ | exact ints_all _ | (apply ints_part <;> first | omega | rfl)) | skip
  refine callS hA rfl (span_fs C) ?_; rintro _ rfl
  all_goals try cbv
  all_goals repeat' (first | with_reducible exact True.intro | with_reducible refine And.intro ?_ ?_ | intro _)
  all_goals try cbv
  all_goals repeat' (first | with_reducible exact True.intro | with_reducible refine And.intro ?_ ?_ | intro _)
  all_goals first | ((first | with_reducible refine lei_of hA ?_ | with_reducible refine lti_of hA ?_ | with_reducible refine ltn_of hA ?_ | with_reducible refine nez_of hA ?_ | with_reducible refine okA_of hA ?_ | with_reducible refine allC_of hA ?_ | with_reducible refine cap_of hA ?_ | with_reducible refine len_le_of hA ?_ | with_reducible refine len_eq_of hA ?_ | with_reducible refine peq_of hA ?_ | with_reducible refine tru_of ?_); subst hA; subst_vars; simp only [AR.std, natCast_eq, sA, sB, sC, sD, reduceCtorEq, Bool.true_eq_false, Bool.false_eq_true] at *; (try simp (disch := omega) only [AR.std, natCast_eq, sA, sB, sC, sD, reduceCtorEq, Bool.true_eq_false, Bool.false_eq_true] at *); first | done | rfl | omega | exact ints_ok _ | exact ints_all _ | (apply ints_part <;> first | omega | rfl)) | (exfalso; subst hA; subst_vars; simp only [AR.std, natCast_eq, sA, sB, sC, sD, reduceCtorEq, Bool.true_eq_false, Bool.false_eq_true] at *; (try simp (disch := omega) only [AR.std, natCast_eq, sA, sB, sC, sD, reduceCtorEq, Bool.true_eq_false, Bool.false_eq_true] at *); first | done | rfl | omega | exact ints_ok _ | exact ints_all _ | (apply ints_part <;> first | omega | rfl)) | skip
  refine callS hA rfl (wide_fs C a1 a2 a3 a4 hs hp' hs' (by omega) (by omega) (by omega) (by omega)) ?_; rintro _ rfl
  all_goals try cbv
  all_goals repeat' (first | with_reducible exact True.intro | with_reducible refine And.intro ?_ ?_ | intro _)
  all_goals try cbv
  all_goals repeat' (first | with_reducible exact True.intro | with_reducible refine And.intro ?_ ?_ | intro _)
  all_goals first | ((first | with_reducible refine lei_of hA ?_ | with_reducible refine lti_of hA ?_ | with_reducible refine ltn_of hA ?_ | with_reducible refine nez_of hA ?_ | with_reducible refine okA_of hA ?_ | with_reducible refine allC_of hA ?_ | with_reducible refine cap_of hA ?_ | with_reducible refine len_le_of hA ?_ | with_reducible refine len_eq_of hA ?_ | with_reducible refine peq_of hA ?_ | with_reducible refine tru_of ?_); subst hA; subst_vars; simp only [AR.std, natCast_eq, sA, sB, sC, sD, reduceCtorEq, Bool.true_eq_false, Bool.false_eq_true] at *; (try simp (disch := omega) only [AR.std, natCast_eq, sA, sB, sC, sD, reduceCtorEq, Bool.true_eq_false, Bool.false_eq_true] at *); first | done | rfl | omega | exact ints_ok _ | exact ints_all _ | (apply ints_part <;> first | omega | rfl)) | (exfalso; subst hA; subst_vars; simp only [AR.std, natCast_eq, sA, sB, sC, sD, reduceCtorEq, Bool.true_eq_false, Bool.false_eq_true] at *; (try simp (disch := omega) only [AR.std, natCast_eq, sA, sB, sC, sD, reduceCtorEq, Bool.true_eq_false, Bool.false_eq_true] at *); first | done | rfl | omega | exact ints_ok _ | exact ints_all _ | (apply ints_part <;> first | omega | rfl)) | skip
  refine callS hA rfl (dyn_fs C hp' hs' (by omega) (by omega) hw hfit) ?_; rintro _ rfl
  all_goals try cbv
  all_goals repeat' (first | with_reducible exact True.intro | with_reducible refine And.intro ?_ ?_ | intro _)
  all_goals try cbv
  all_goals repeat' (first | with_reducible exact True.intro | with_reducible refine And.intro ?_ ?_ | intro _)
  all_goals first | ((first | with_reducible refine lei_of hA ?_ | with_reducible refine lti_of hA ?_ | with_reducible refine ltn_of hA ?_ | with_reducible refine nez_of hA ?_ | with_reducible refine okA_of hA ?_ | with_reducible refine allC_of hA ?_ | with_reducible refine cap_of hA ?_ | with_reducible refine len_le_of hA ?_ | with_reducible refine len_eq_of hA ?_ | with_reducible refine peq_of hA ?_ | with_reducible refine tru_of ?_); subst hA; subst_vars; simp only [AR.std, natCast_eq, sA, sB, sC, sD, reduceCtorEq, Bool.true_eq_false, Bool.false_eq_true] at *; (try simp (disch := omega) only [AR.std, natCast_eq, sA, sB, sC, sD, reduceCtorEq, Bool.true_eq_false, Bool.false_eq_true] at *); first | done | rfl | omega | exact ints_ok _ | exact ints_all _ | (apply ints_part <;> first | omega | rfl)) | (exfalso; subst hA; subst_vars; simp only [AR.std, natCast_eq, sA, sB, sC, sD, reduceCtorEq, Bool.true_eq_false, Bool.false_eq_true] at *; (try simp (disch := omega) only [AR.std, natCast_eq, sA, sB, sC, sD, reduceCtorEq, Bool.true_eq_false, Bool.false_eq_true] at *); first | done | rfl | omega | exact ints_ok _ | exact ints_all _ | (apply ints_part <;> first | omega | rfl)) | skip

end Tryd
end Go.Proofs
