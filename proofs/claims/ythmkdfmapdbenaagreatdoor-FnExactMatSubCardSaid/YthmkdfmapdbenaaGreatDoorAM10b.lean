/- Contracts: sums of matrices in the reference. -/
import Derived.Test.YthmkdfmapdbenaaGreatDoorAM10
import Derived.Test.YthmkdfmapdbenaaGreatDoorAM9
import Derived.Test.YthmkdfmapdbenaaGreatDoorAM7
namespace Go.Proofs
open Go Go.Pe Go.Dg
namespace Tryz
set_option linter.unusedSimpArgs false
set_option linter.unusedVariables false
variable {P : Program} {gl : List (Nat × Obj)}

set_option maxHeartbeats 1000000 in
set_option maxRecDepth 100000 in
theorem l8addSub_fs (C : Cx P gl) {ys zs : List Cell3} {d1 d2 : Nat → Dyadic} {L E : Nat} {p q r : List PV} {n m : Int} (hp : p = cells3 ys) (hq : q = cells3 zs) (h1 : XL d1 L E ys) (h2 : XL d2 L E zs) (hL : L ≤ 100000) (hE : E ≤ 10000) (hn : 0 ≤ n) (hn4 : n ≤ 100)
    (hyl : (ys.length : Int) = n * n) (hzl : (zs.length : Int) = n * n) (hr : r = cells3 (canL (fun k => d1 k - d2 k) ys.length)) :
    FS P gl 51 [.agg [I n, .lst p], .agg [I m, .lst q], B true] (· = .agg [I n, .lst r]) := by
  have hnn : 0 ≤ n * n ∧ n * n ≤ 10000 := by
    have h3 : n * n ≤ 100 * n := Int.mul_le_mul_of_nonneg_right hn4 hn
    have h4 := Int.mul_nonneg hn hn
    omega
  have hyl2 : ys.length ≤ 10000 := by omega
  obtain ⟨u0, hu0⟩ : ∃ u, u = cells3 (List.replicate ys.length noY) := ⟨_, rfl⟩
  have hnew := fun (P' : Program) (C' : Cx P' gl) => l8new_fn C' hn hn4 (by rw [hu0, show ys.length = (n * n).toNat by omega] : u0 = cells3 (List.replicate (n * n).toNat noY))
  have hzy : zs.length = ys.length := by omega
  clear hyl hzl hnn
  obtain ⟨rfl, hG⟩ := C
  refine FS_ofT (args := fun A => [.agg [I n, .lst p], .agg [I m, .lst q], B true]) (R := fun A rr => rr = .agg [I n, .lst r]) Tryz.hT Tryz.mix Tryz.func51 rfl rfl (Nat.le_of_ble_eq_true rfl) ?_
  generalize hP : Tryz.prog = P
  intro A hA
  have C : Tryz.Cx P gl := ⟨hP.symm, hG⟩
  have hI : intsL = A.ints := by subst hA; rfl
  all_goals try cbv
  all_goals repeat' (first | with_reducible exact True.intro | with_reducible refine And.intro ?_ ?_ | intro _)
  all_goals try cbv
  all_goals repeat' (first | with_reducible exact True.intro | with_reducible refine And.intro ?_ ?_ | intro _)
  all_goals first | ((first | (with_reducible first | refine q1 hA ?_ | refine q2 hA ?_ | refine q3 hA ?_ | refine q4 hA ?_ | refine q5 hA ?_ | refine q6 hA ?_ | refine q7 hA ?_ | refine q8 hA ?_ | refine q9 hA ?_ | refine q0 hA ?_ | refine tru_of ?_) | exfalso); subst hA; subst_vars; simp only [AR.std, natCast_eq, sF, sB, sC, sD, sE, reduceCtorEq] at *; (try simp (disch := omega) only [AR.std, natCast_eq, sF, sB, sC, sD, sE, reduceCtorEq] at *); first | done | rfl | omega | exact ints_ok _ | exact ints_all _ | (apply ints_part <;> first | omega | rfl)) | skip
  refine callN hA rfl (hnew P C) ?_; rintro _ _ ⟨rfl, rfl⟩; refine ⟨rfl, ?_⟩
  clear hnew
  all_goals try cbv
  all_goals repeat' (first | with_reducible exact True.intro | with_reducible refine And.intro ?_ ?_ | intro _)
  all_goals try cbv
  all_goals repeat' (first | with_reducible exact True.intro | with_reducible refine And.intro ?_ ?_ | intro _)
  all_goals first | ((first | (with_reducible first | refine q1 hA ?_ | refine q2 hA ?_ | refine q3 hA ?_ | refine q4 hA ?_ | refine q5 hA ?_ | refine q6 hA ?_ | refine q7 hA ?_ | refine q8 hA ?_ | refine q9 hA ?_ | refine q0 hA ?_ | refine tru_of ?_) | exfalso); subst hA; subst_vars; simp only [AR.std, natCast_eq, sF, sB, sC, sD, sE, reduceCtorEq] at *; (try simp (disch := omega) only [AR.std, natCast_eq, sF, sB, sC, sD, sE, reduceCtorEq] at *); first | done | rfl | omega | exact ints_ok _ | exact ints_all _ | (apply ints_part <;> first | omega | rfl)) | skip
  refine loopI hA [] (ι := Int × List PV) (fun x => [(8, .pv (I x.1))]) (fun x => [(3, .row 41 3 x.2)]) (fun x => (ys.length - x.1).toNat) (fun x => 0 ≤ x.1 ∧ x.1 ≤ ys.length ∧ x.2 = cells3 (canL (fun k => d1 k - d2 k) x.1.toNat ++ List.replicate (ys.length - x.1.toNat) noY)) (0, u0) (by rfl) ?_ ?_ ?_
  all_goals try (subst hA; subst_vars; first | rfl | (simp (disch := omega) only [AR.std, natCast_eq, sF, sB, sC, sD, sE, reduceCtorEq]; rfl))
  · exact ⟨Int.le_refl _, by omega, by rw [hu0]; rfl⟩
  rintro ⟨i, t⟩ ⟨hi0, hi1, ht⟩
  simp only at hi0 hi1 ht
  have htl : t.length = ys.length := by
    rw [ht, cells3_len, List.length_append, canL_len, List.length_replicate]; omega
  have hy1' := h1 i.toNat
  have hz1' := h2 i.toNat
  have hex : i.toNat = ys.length → t = r := by
    intro h
    rw [ht, hr, h, Nat.sub_self, List.replicate_zero, List.append_nil]
  have hnx : ∀ _ : Unit, i < ys.length → t.set i.toNat (cell3 (canY (d1 i.toNat - d2 i.toNat))) = cells3 (canL (fun k => d1 k - d2 k) (i.toNat + 1) ++ List.replicate (ys.length - (i.toNat + 1)) noY) := by
    intro _ h
    rw [ht, c3set, canL_succ, List.append_assoc]
    congr 1
    rw [List.set_append_right _ _ (by rw [canL_len]; exact Nat.le_refl _), canL_len, Nat.sub_self, show ys.length - i.toNat = (ys.length - (i.toNat + 1)) + 1 by omega, List.replicate_succ]
    rfl
  clear h1 h2 ht hr hu0
  all_goals try cbv
  all_goals repeat' (first | with_reducible exact True.intro | with_reducible refine And.intro ?_ ?_ | intro _)
  all_goals try cbv
  all_goals repeat' (first | with_reducible exact True.intro | with_reducible refine And.intro ?_ ?_ | intro _)
  all_goals first | ((first | (with_reducible first | refine q1 hA ?_ | refine q2 hA ?_ | refine q3 hA ?_ | refine q4 hA ?_ | refine q5 hA ?_ | refine q6 hA ?_ | refine q7 hA ?_ | refine q8 hA ?_ | refine q9 hA ?_ | refine q0 hA ?_ | refine tru_of ?_) | exfalso); subst hA; subst_vars; simp only [AR.std, natCast_eq, sF, sB, sC, sD, sE, reduceCtorEq] at *; (try simp (disch := omega) only [AR.std, natCast_eq, sF, sB, sC, sD, sE, reduceCtorEq] at *); first | done | rfl | omega | exact ints_ok _ | exact ints_all _ | (apply ints_part <;> first | omega | rfl)) | skip
  · rename_i g
    have gi : i < ys.length := by clear hnx hex hy1' hz1'; (subst hA; subst_vars; simp only [AR.std, natCast_eq, sF, sB, sC, sD, sE, reduceCtorEq] at *; try simp (disch := omega) only [AR.std, natCast_eq, sF, sB, sC, sD, sE, reduceCtorEq] at *); omega
    have hlt : i.toNat < ys.length := by omega
    have hge1 : i + 1 ≤ ys.length := by omega
    have hnx2 := hnx () gi
    obtain ⟨z1, a1, a2, a3, a4, a5⟩ := hy1' hlt
    obtain ⟨z2, b1, b2, b3, b4, b5⟩ := hz1' (by omega)
    have hg1l : A.gl (A.el p (A.nat i)) 1 = intsL (dg z1.natAbs) := by rw [← a2]; clear hnx hex hy1' hz1' hnx2 a1 a2 a3 a4 a5 b1 b2 b3 b4 b5; (subst hA; subst_vars; simp only [AR.std, natCast_eq, sF, sB, sC, sD, sE, reduceCtorEq] at *; try simp (disch := omega) only [AR.std, natCast_eq, sF, sB, sC, sD, sE, reduceCtorEq] at *)
    have hg1b : A.gb (A.el p (A.nat i)) 0 = decide (z1 < 0) := by rw [← a1]; clear hnx hex hy1' hz1' hnx2 a1 a2 a3 a4 a5 b1 b2 b3 b4 b5 hg1l; (subst hA; subst_vars; simp only [AR.std, natCast_eq, sF, sB, sC, sD, sE, reduceCtorEq] at *; try simp (disch := omega) only [AR.std, natCast_eq, sF, sB, sC, sD, sE, reduceCtorEq] at *)
    have hg1e : A.gi (A.el p (A.nat i)) 2 = (ys.getD i.toNat noY).2.2 := by clear hnx hex hy1' hz1' hnx2 a1 a2 a3 a4 a5 b1 b2 b3 b4 b5 hg1l hg1b; (subst hA; subst_vars; simp only [AR.std, natCast_eq, sF, sB, sC, sD, sE, reduceCtorEq] at *; try simp (disch := omega) only [AR.std, natCast_eq, sF, sB, sC, sD, sE, reduceCtorEq] at *)
    have hg2l : A.gl (A.el q (A.nat i)) 1 = intsL (dg z2.natAbs) := by rw [← b2]; clear hnx hex hy1' hz1' hnx2 a1 a2 a3 a4 a5 b1 b2 b3 b4 b5 hg1l hg1b hg1e; (subst hA; subst_vars; simp only [AR.std, natCast_eq, sF, sB, sC, sD, sE, reduceCtorEq] at *; try simp (disch := omega) only [AR.std, natCast_eq, sF, sB, sC, sD, sE, reduceCtorEq] at *)
    have hg2b : A.gb (A.el q (A.nat i)) 0 = decide (z2 < 0) := by rw [← b1]; clear hnx hex hy1' hz1' hnx2 a1 a2 a3 a4 a5 b1 b2 b3 b4 b5 hg1l hg1b hg1e hg2l; (subst hA; subst_vars; simp only [AR.std, natCast_eq, sF, sB, sC, sD, sE, reduceCtorEq] at *; try simp (disch := omega) only [AR.std, natCast_eq, sF, sB, sC, sD, sE, reduceCtorEq] at *)
    have hg2e : A.gi (A.el q (A.nat i)) 2 = (zs.getD i.toNat noY).2.2 := by clear hnx hex hy1' hz1' hnx2 a1 a2 a3 a4 a5 b1 b2 b3 b4 b5 hg1l hg1b hg1e hg2l hg2b; (subst hA; subst_vars; simp only [AR.std, natCast_eq, sF, sB, sC, sD, sE, reduceCtorEq] at *; try simp (disch := omega) only [AR.std, natCast_eq, sF, sB, sC, sD, sE, reduceCtorEq] at *)
    have hg1e' : (A.gi (A.el p (A.nat i)) 2).natAbs ≤ 100000 := by rw [hg1e]; omega
    have hg2e' : (A.gi (A.el q (A.nat i)) 2).natAbs ≤ 100000 := by rw [hg2e]; omega
    obtain ⟨d, hd⟩ : ∃ d, d = d1 i.toNat - d2 i.toNat := ⟨_, rfl⟩
    have hd' : d = mk z1 (A.gi (A.el p (A.nat i)) 2) + mk (-z2) (A.gi (A.el q (A.nat i)) 2) := by rw [hg1e, hg2e, ← a3, ← mk_neg, ← b3, hd]; grind
    obtain ⟨rr, hrr⟩ : ∃ rr, rr = intsL (dg (cZ d).natAbs) := ⟨_, rfl⟩
    obtain ⟨u, hu⟩ : ∃ u, u = decide (cZ d < 0) := ⟨_, rfl⟩
    obtain ⟨f, hf⟩ : ∃ f, f = cE d := ⟨_, rfl⟩
    have hnx3 : t.set i.toNat (.agg [B u, .lst rr, I f]) = cells3 (canL (fun k => d1 k - d2 k) (i.toNat + 1) ++ List.replicate (ys.length - (i.toNat + 1)) noY) := by rw [← hnx2, ← hd, hrr, hu, hf]; rfl
    obtain ⟨t9, ht9⟩ : ∃ t9, t9 = t.set i.toNat (.agg [B u, .lst rr, I f]) := ⟨_, rfl⟩
    have hst : A.set t (A.nat i) (.agg [B u, .lst rr, I f]) = t9 := by rw [ht9]; subst hA; rfl
    rw [← ht9] at hnx3
    obtain ⟨sn, hsn⟩ : ∃ sn, sn = decide (0 < z2) := ⟨_, rfl⟩
    all_goals try cbv
    all_goals repeat' (first | with_reducible exact True.intro | with_reducible refine And.intro ?_ ?_ | intro _)
    all_goals try cbv
    all_goals repeat' (first | with_reducible exact True.intro | with_reducible refine And.intro ?_ ?_ | intro _)
    all_goals first | ((first | (with_reducible first | refine q1 hA ?_ | refine q2 hA ?_ | refine q3 hA ?_ | refine q4 hA ?_ | refine q5 hA ?_ | refine q6 hA ?_ | refine q7 hA ?_ | refine q8 hA ?_ | refine q9 hA ?_ | refine q0 hA ?_ | refine tru_of ?_) | exfalso); subst hA; subst_vars; simp only [AR.std, natCast_eq, sF, sB, sC, sD, sE, reduceCtorEq] at *; (try simp (disch := omega) only [AR.std, natCast_eq, sF, sB, sC, sD, sE, reduceCtorEq] at *); first | done | rfl | omega | exact ints_ok _ | exact ints_all _ | (apply ints_part <;> first | omega | rfl)) | skip
    refine callS hA rfl (l4neg_fs C (z := z2) hg2l hg2b hsn (by omega)) ?_; rintro _ rfl
    all_goals try cbv
    all_goals repeat' (first | with_reducible exact True.intro | with_reducible refine And.intro ?_ ?_ | intro _)
    all_goals try cbv
    all_goals repeat' (first | with_reducible exact True.intro | with_reducible refine And.intro ?_ ?_ | intro _)
    all_goals first | ((first | (with_reducible first | refine q1 hA ?_ | refine q2 hA ?_ | refine q3 hA ?_ | refine q4 hA ?_ | refine q5 hA ?_ | refine q6 hA ?_ | refine q7 hA ?_ | refine q8 hA ?_ | refine q9 hA ?_ | refine q0 hA ?_ | refine tru_of ?_) | exfalso); subst hA; subst_vars; simp only [AR.std, natCast_eq, sF, sB, sC, sD, sE, reduceCtorEq] at *; (try simp (disch := omega) only [AR.std, natCast_eq, sF, sB, sC, sD, sE, reduceCtorEq] at *); first | done | rfl | omega | exact ints_ok _ | exact ints_all _ | (apply ints_part <;> first | omega | rfl)) | skip
    all_goals try cbv
    all_goals repeat' (first | with_reducible exact True.intro | with_reducible refine And.intro ?_ ?_ | intro _)
    all_goals try cbv
    all_goals repeat' (first | with_reducible exact True.intro | with_reducible refine And.intro ?_ ?_ | intro _)
    all_goals first | ((first | (with_reducible first | refine q1 hA ?_ | refine q2 hA ?_ | refine q3 hA ?_ | refine q4 hA ?_ | refine q5 hA ?_ | refine q6 hA ?_ | refine q7 hA ?_ | refine q8 hA ?_ | refine q9 hA ?_ | refine q0 hA ?_ | refine tru_of ?_) | exfalso); subst hA; subst_vars; simp only [AR.std, natCast_eq, sF, sB, sC, sD, sE, reduceCtorEq] at *; (try simp (disch := omega) only [AR.std, natCast_eq, sF, sB, sC, sD, sE, reduceCtorEq] at *); first | done | rfl | omega | exact ints_ok _ | exact ints_all _ | (apply ints_part <;> first | omega | rfl)) | skip
    refine ⟨_, l4add_fs C hg1l hg1b (show A.gl (A.el q (A.nat i)) 1 = intsL (dg (-z2).natAbs) by rw [hg2l, Int.natAbs_neg]) (show sn = decide (-z2 < 0) by rw [hsn, decide_eq_decide]; omega) hd' hrr hu hf hg1e' hg2e' (by omega) (by rw [Int.natAbs_neg]; omega), ?_⟩
    clear hnx hex hy1' hz1' hnx2 a1 a2 a3 a4 a5 b1 b2 b3 b4 b5 hg1l hg1b hg1e hg2l hg2b hg2e hg1e' hg2e' hd hd' hrr hu hf ht9
    all_goals try cbv
    all_goals repeat' (first | with_reducible exact True.intro | with_reducible refine And.intro ?_ ?_ | intro _)
    all_goals try cbv
    all_goals repeat' (first | with_reducible exact True.intro | with_reducible refine And.intro ?_ ?_ | intro _)
    all_goals first | ((first | (with_reducible first | refine q1 hA ?_ | refine q2 hA ?_ | refine q3 hA ?_ | refine q4 hA ?_ | refine q5 hA ?_ | refine q6 hA ?_ | refine q7 hA ?_ | refine q8 hA ?_ | refine q9 hA ?_ | refine q0 hA ?_ | refine tru_of ?_) | exfalso); subst hA; subst_vars; simp only [AR.std, natCast_eq, sF, sB, sC, sD, sE, reduceCtorEq] at *; (try simp (disch := omega) only [AR.std, natCast_eq, sF, sB, sC, sD, sE, reduceCtorEq] at *); first | done | rfl | omega | exact ints_ok _ | exact ints_all _ | (apply ints_part <;> first | omega | rfl)) | skip
    simp only [hst]
    clear hst
    obtain ⟨y1, hy1⟩ : ∃ y, y = i + 1 := ⟨_, rfl⟩
    obtain ⟨y2, hy2⟩ : ∃ y, y = t9 := ⟨_, rfl⟩
    refine ⟨⟨(y1, y2), ?_⟩, ?_, ?_⟩
    rotate_left
    · cbv
      subst hA; subst_vars; simp only [AR.std, natCast_eq, sF, sB, sC, sD, sE, reduceCtorEq] at *; (try simp (disch := omega) only [AR.std, natCast_eq, sF, sB, sC, sD, sE, reduceCtorEq] at *); first | done | rfl
    · (subst hA; subst_vars; simp only [AR.std, natCast_eq, sF, sB, sC, sD, sE, reduceCtorEq] at *; try simp (disch := omega) only [AR.std, natCast_eq, sF, sB, sC, sD, sE, reduceCtorEq] at *); omega
    · rw [hy1, hy2]
      refine ⟨by simp only; omega, hge1, ?_⟩
      simp only
      rw [show (i + 1).toNat = i.toNat + 1 by omega]; exact hnx3
  · rename_i g
    have e := hex (by clear hnx hex hy1' hz1'; (subst hA; subst_vars; simp only [AR.std, natCast_eq, sF, sB, sC, sD, sE, reduceCtorEq] at *; try simp (disch := omega) only [AR.std, natCast_eq, sF, sB, sC, sD, sE, reduceCtorEq] at *); omega)
    rw [e]

end Tryz
end Go.Proofs
