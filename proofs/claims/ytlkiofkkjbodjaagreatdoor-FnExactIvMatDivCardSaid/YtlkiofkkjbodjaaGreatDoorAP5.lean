/- Contracts: interval matrices, each interval in a canonical form in memory of its own. -/
import Derived.Test.YtlkiofkkjbodjaaGreatDoorAP4
import Derived.Test.YtlkiofkkjbodjaaGreatDoorAN26
set_option maxHeartbeats 2000000
set_option maxRecDepth 100000
namespace Go.Proofs
open Go Go.Pe Go.Dg
namespace Tryz
set_option linter.unusedSimpArgs false
set_option linter.unusedVariables false
variable {P : Program} {gl : List (Nat × Obj)}

theorem ivMat_fx (C : Cx P gl) {xs : List Cell6} {dA dB : Nat → Dyadic} {L E : Nat} {p r : List PV} {n : Int} {w : Bool} (hp : p = cells6 xs) (hx : XV dA dB L E xs) (hL : L ≤ 1000000) (hE : E ≤ 100000)
  (hw : w = true ↔ ∀ k, k < xs.length → fits (dA k) ∧ fits (dB k)) (hr : r = cells6 (canV dA dB xs.length)) (hn : xs.length ≤ 1000000) :
  FX P gl 57 [] [.pv (.agg [I n, .lst p])] (fun own rr => (w = true ∧ own = [.tree 110 6 3 r] ∧ rr = .tup [.agg [.pv (I n), .own 0], .pv (B true)]) ∨ (w = false ∧ own = [] ∧ rr = .tup [.agg [.pv (I 0), .pv (.val (.slice none 0 0))], .pv (B false)])) := by
 obtain ⟨rfl, hG⟩ := C
 refine FX_ofT (own := fun A => []) (args := fun A => [.pv (.agg [I n, .lst p])]) (R := fun A ow rr => (w = true ∧ ow = [.tree 110 6 3 r] ∧ rr = .tup [.agg [.pv (I n), .own 0], .pv (B true)]) ∨ (w = false ∧ ow = [] ∧ rr = .tup [.agg [.pv (I 0), .pv (.val (.slice none 0 0))], .pv (B false)])) Tryz.hT Tryz.mix Tryz.func57 rfl rfl (Nat.le_of_ble_eq_true rfl) ?_
 generalize hP : Tryz.prog = P
 intro A hA
 have C : Tryz.Cx P gl := ⟨hP.symm, hG⟩
 have hI : intsL = A.ints := by subst hA; rfl
 iterate 2 (all_goals try cbv; all_goals with_reducible repeat' first | exact True.intro | refine And.intro ?_ ?_ | intro _)
 all_goals try exact oI
 refine loopT hA [.cell 2 1 110 6, .tree 3 3] (ι := Int × List PV) (fun x => [(15, .pv (I x.1))]) (fun x => [(3, .tree 110 6 3 x.2)]) (fun x => (xs.length - x.1).toNat) (fun x => 0 ≤ x.1 ∧ x.1 ≤ xs.length ∧ x.2 = cells6 (canV dA dB x.1.toNat) ∧ ∀ k, k < x.1.toNat → fits (dA k) ∧ fits (dB k)) (0, []) (by rfl) ?_ ?_ ?_ ?_
 all_goals try exact tI
 ·exact ⟨trivial, ⟨Nat.zero_le _, fun x hx => by cases hx⟩, trivial⟩
 ·exact ⟨Int.le_refl _, by omega, rfl, fun k hk => by simp at hk⟩
 rintro ⟨i, q⟩ ⟨hi0, hi1, hq, hf⟩
 simp only at hi0 hi1 hq hf
 have hql : q.length ≤ 1000000 := by rw [hq, c6len, canV_len]; omega
 have hxi := hx i.toNat
 obtain ⟨d1, hd1⟩ : ∃ d, d = dA i.toNat := ⟨_, rfl⟩
 obtain ⟨d2, hd2⟩ : ∃ d, d = dB i.toNat := ⟨_, rfl⟩
 rw [← hd1, ← hd2] at hxi
 have hnx : fits d1 ∧ fits d2 → ∀ k, k < i.toNat + 1 → fits (dA k) ∧ fits (dB k) := by
  intro h k hk
  by_cases hki : k = i.toNat
  ·rw [hki, ← hd1, ← hd2]; exact h
  ·exact hf k (by omega)
 have hfin : i.toNat = xs.length → w = true := fun h => hw.2 (by rw [← h]; exact hf)
 have hfail : i.toNat < xs.length → ¬(fits d1 ∧ fits d2) → w = false := by
  intro h1 h2
  cases hwc : w with
  | false => rfl
  | true => exact absurd (hw.1 hwc _ h1) (by rw [← hd1, ← hd2]; exact h2)
 have hq2 : q ++ [cell6 (canY d1, canY d2)] = cells6 (canV dA dB (i.toNat + 1)) := by rw [hq, canV_succ, ← c6app, hd1, hd2]; rfl
 obtain ⟨v, hv⟩ : ∃ v, v = xs.getD i.toNat noV := ⟨_, rfl⟩
 rw [← hv] at hxi
 obtain ⟨s1, hs1⟩ : ∃ x, x = v.1.1 := ⟨_, rfl⟩
 obtain ⟨p1, hp1⟩ : ∃ x, x = intsL v.1.2.1 := ⟨_, rfl⟩
 obtain ⟨e1, he1⟩ : ∃ x, x = v.1.2.2 := ⟨_, rfl⟩
 obtain ⟨s2, hs2⟩ : ∃ x, x = v.2.1 := ⟨_, rfl⟩
 obtain ⟨p2, hp2⟩ : ∃ x, x = intsL v.2.2.1 := ⟨_, rfl⟩
 obtain ⟨e2, he2⟩ : ∃ x, x = v.2.2.2 := ⟨_, rfl⟩
 have hel : ∀ _ : Unit, i < xs.length → (A.gb (A.el p (A.nat i)) 0 = s1 ∧ A.gl (A.el p (A.nat i)) 1 = p1 ∧ A.gi (A.el p (A.nat i)) 2 = e1) ∧ A.gb (A.el p (A.nat i)) 3 = s2 ∧ A.gl (A.el p (A.nat i)) 4 = p2 ∧ A.gi (A.el p (A.nat i)) 5 = e2 := by
  intro _ h4
  have w : A.el p (A.nat i) = cell6 v := by rw [hv, hp]; subst hA; exact c6el (show i.toNat < xs.length by omega)
  rw [w, hs1, hp1, he1, hs2, hp2, he2]
  subst hA
  exact ⟨⟨rfl, rfl, rfl⟩, rfl, rfl, rfl⟩
 have hnum : ∀ _ : Unit, i < xs.length → ∃ z1 z2 : Int, p1 = intsL (dg z1.natAbs) ∧ s1 = decide (z1 < 0) ∧ p2 = intsL (dg z2.natAbs) ∧ s2 = decide (z2 < 0) ∧ d1 = mk z1 e1 ∧ d2 = mk z2 e2 ∧ e1.natAbs ≤ 100000 ∧ e2.natAbs ≤ 100000 ∧ (dg z1.natAbs).length ≤ 1000000 ∧ (dg z2.natAbs).length ≤ 1000000 ∧ i.toNat < xs.length ∧ i + 1 ≤ xs.length := by
  intro _ h4
  obtain ⟨⟨z1, a1, a2, a3, a4, a5⟩, z2, b1, b2, b3, b4, b5⟩ := hxi (by omega)
  refine ⟨z1, z2, by rw [hp1, a2], by rw [hs1, a1], by rw [hp2, b2], by rw [hs2, b1], by rw [he1]; exact a3, by rw [he2]; exact b3, by rw [he1]; omega, by rw [he2]; omega, by omega, by omega, by omega, by omega⟩
 have hdone : i.toNat = xs.length → q = r := fun h => by rw [hq, hr, h]
 have hlt : ∀ _ : Unit, A.lt i (A.cast (A.len p)) = true → i < xs.length := by
  intro _ h; subst hA; rw [hp] at h; have := of_decide_eq_true (show decide (i < (((cells6 xs).length : Nat) : Int)) = true from h); rw [c6len] at this; exact this
 have hge : ∀ _ : Unit, A.lt i (A.cast (A.len p)) = false → i.toNat = xs.length := by
  intro _ h; subst hA; rw [hp] at h; have := of_decide_eq_false (show decide (i < (((cells6 xs).length : Nat) : Int)) = false from h); rw [c6len] at this; omega
 clear hx hf hw hxi hv hs1 hp1 he1 hs2 hp2 he2 hr hq
 iterate 2 (all_goals try cbv; all_goals with_reducible repeat' first | exact True.intro | refine And.intro ?_ ?_ | intro _)
 all_goals try exact oI
 ·rename_i g
  have gi := hlt () g
  obtain ⟨⟨w1, w2, w3⟩, w4, w5, w6⟩ := hel () gi
  obtain ⟨z1, z2, k1, k2, k3, k4, m1, m2, c1, c2, l1, l2, hlt1, hge1⟩ := hnum () gi
  clear hlt hge hel hnum hdone hfin
  all_goals try simp only [w1, w2, w3, w4, w5, w6]
  clear w1 w2 w3 w4 w5 w6
  by_cases hfits : fits d1 ∧ fits d2
  ·obtain ⟨hfit1, hfit2⟩ := id hfits
   have hnx2 := hnx hfits
   clear hfits hnx
   by_cases hz1 : z1 = 0
   ·have hd10 : d1 = 0 := by rw [m1, hz1, mk_zero]
    have hp10 : p1 = [] := by rw [k1, hz1, show Int.natAbs 0 = 0 from rfl, dg_zero]; rfl
    by_cases hz2 : z2 = 0
    ·have hd20 : d2 = 0 := by rw [m2, hz2, mk_zero]
     have hp20 : p2 = [] := by rw [k3, hz2, show Int.natAbs 0 = 0 from rfl, dg_zero]; rfl
     have hq3 : q ++ [.agg [B false, .lst [], I 0, B false, .lst [], I 0]] = cells6 (canV dA dB (i.toNat + 1)) := by rw [← hq2, hd10, canY_zero, hd20, canY_zero]; rfl
     obtain ⟨r', hr'⟩ : ∃ r', r' = q ++ [.agg [B false, .lst [], I 0, B false, .lst [], I 0]] := ⟨_, rfl⟩
     have hra : A.app q [.agg [B false, .lst [], I 0, B false, .lst [], I 0]] = r' := by rw [hr']; subst hA; rfl
     rw [← hr'] at hq3
     simp only [hp10, hp20]
     refine callS hA rfl (spanIv_nn_fs C) ?_; rintro _ rfl
     clear k1 k2 k3 k4 m1 m2 c1 c2 l1 l2 hp10 hp20 hq2 hfit1 hfit2 hz1 hz2 hd10 hd20 hd1 hd2 hfail
     iterate 2 (all_goals try cbv; all_goals with_reducible repeat' first | exact True.intro | refine And.intro ?_ ?_ | intro _)
     all_goals try exact oI
     all_goals try exact okA_of hA (by intro x hx; rw [List.mem_singleton.1 hx]; exact ⟨rfl, rfl⟩)
     all_goals try exact lfA_of hA (by intro x hx; rw [List.mem_singleton.1 hx]; rfl)
     all_goals try exact cap_of hA (by simp only [List.length_singleton]; omega)
     simp only [hra]
     clear hra
     obtain ⟨y1, hy1⟩ : ∃ y, y = i + 1 := ⟨_, rfl⟩
     obtain ⟨y2, hy2⟩ : ∃ y, y = r' := ⟨_, rfl⟩
     refine ⟨⟨(y1, y2), ?_⟩, ?_, ?_⟩
     rotate_left
     ·cbv
      exact nI
     ·(subst hA; subst_vars; simp only [AR.std, natCast_eq, sI, reduceCtorEq] at *; try simp (disch := omega) only [AR.std, natCast_eq, sI, reduceCtorEq] at *); omega
     ·rw [hy1, hy2]
      refine ⟨by simp only; omega, hge1, ?_, ?_⟩ <;> simp only <;> rw [show (i + 1).toNat = i.toNat + 1 by omega]
      ·exact hq3
      ·exact hnx2
    ·have hd20 : True := trivial
     have hp20 : True := trivial
     obtain ⟨rr2, hrr2⟩ : ∃ rr, rr = intsL (dg (cZ d2).natAbs) := ⟨_, rfl⟩
     obtain ⟨u2, hu2⟩ : ∃ u, u = decide (cZ d2 < 0) := ⟨_, rfl⟩
     obtain ⟨f2, hf2⟩ : ∃ f, f = cE d2 := ⟨_, rfl⟩
     have hva2 : A.vals rr2 := vals_of hA (by rw [hrr2]; exact vals_ints)
     have hq3 : q ++ [.agg [B false, .lst [], I 0, B u2, .lst rr2, I f2]] = cells6 (canV dA dB (i.toNat + 1)) := by rw [← hq2, hd10, canY_zero, hrr2, hu2, hf2]; rfl
     obtain ⟨r', hr'⟩ : ∃ r', r' = q ++ [.agg [B false, .lst [], I 0, B u2, .lst rr2, I f2]] := ⟨_, rfl⟩
     have hra : A.app q [.agg [B false, .lst [], I 0, B u2, .lst rr2, I f2]] = r' := by rw [hr']; subst hA; rfl
     rw [← hr'] at hq3
     refine callN hA rfl (spanIv_no_fn C k1 k2 k3 k4 m1 m2 c1 c2 l1 l2 hz1 hfit2 hz2 hrr2 hu2 hf2) ?_; rintro _ _ ⟨rfl, rfl⟩; refine ⟨rfl, ?_⟩
     clear k1 k2 k3 k4 m1 m2 c1 c2 l1 l2 hp10 hp20 hq2 hfit1 hfit2 hz1 hz2 hd10 hd20 hd1 hd2 hfail hrr2 hu2 hf2
     iterate 2 (all_goals try cbv; all_goals with_reducible repeat' first | exact True.intro | refine And.intro ?_ ?_ | intro _)
     all_goals try exact oI
     all_goals try exact hva2
     all_goals try exact okA_of hA (by intro x hx; rw [List.mem_singleton.1 hx]; exact ⟨rfl, rfl⟩)
     all_goals try exact lfA_of hA (by intro x hx; rw [List.mem_singleton.1 hx]; rfl)
     all_goals try exact cap_of hA (by simp only [List.length_singleton]; omega)
     simp only [hra]
     clear hra hva2
     obtain ⟨y1, hy1⟩ : ∃ y, y = i + 1 := ⟨_, rfl⟩
     obtain ⟨y2, hy2⟩ : ∃ y, y = r' := ⟨_, rfl⟩
     refine ⟨⟨(y1, y2), ?_⟩, ?_, ?_⟩
     rotate_left
     ·cbv
      exact nI
     ·(subst hA; subst_vars; simp only [AR.std, natCast_eq, sI, reduceCtorEq] at *; try simp (disch := omega) only [AR.std, natCast_eq, sI, reduceCtorEq] at *); omega
     ·rw [hy1, hy2]
      refine ⟨by simp only; omega, hge1, ?_, ?_⟩ <;> simp only <;> rw [show (i + 1).toNat = i.toNat + 1 by omega]
      ·exact hq3
      ·exact hnx2
   ·have hd10 : True := trivial
    have hp10 : True := trivial
    by_cases hz2 : z2 = 0
    ·have hd20 : d2 = 0 := by rw [m2, hz2, mk_zero]
     have hp20 : True := trivial
     obtain ⟨rr1, hrr1⟩ : ∃ rr, rr = intsL (dg (cZ d1).natAbs) := ⟨_, rfl⟩
     obtain ⟨u1, hu1⟩ : ∃ u, u = decide (cZ d1 < 0) := ⟨_, rfl⟩
     obtain ⟨f1, hf1⟩ : ∃ f, f = cE d1 := ⟨_, rfl⟩
     have hva1 : A.vals rr1 := vals_of hA (by rw [hrr1]; exact vals_ints)
     have hq3 : q ++ [.agg [B u1, .lst rr1, I f1, B false, .lst [], I 0]] = cells6 (canV dA dB (i.toNat + 1)) := by rw [← hq2, hrr1, hu1, hf1, hd20, canY_zero]; rfl
     obtain ⟨r', hr'⟩ : ∃ r', r' = q ++ [.agg [B u1, .lst rr1, I f1, B false, .lst [], I 0]] := ⟨_, rfl⟩
     have hra : A.app q [.agg [B u1, .lst rr1, I f1, B false, .lst [], I 0]] = r' := by rw [hr']; subst hA; rfl
     rw [← hr'] at hq3
     refine callN hA rfl (spanIv_on_fn C k1 k2 k3 k4 m1 m2 c1 c2 l1 l2 hfit1 hz1 hrr1 hu1 hf1 hz2) ?_; rintro _ _ ⟨rfl, rfl⟩; refine ⟨rfl, ?_⟩
     clear k1 k2 k3 k4 m1 m2 c1 c2 l1 l2 hp10 hp20 hq2 hfit1 hfit2 hz1 hz2 hd10 hd20 hd1 hd2 hfail hrr1 hu1 hf1
     iterate 2 (all_goals try cbv; all_goals with_reducible repeat' first | exact True.intro | refine And.intro ?_ ?_ | intro _)
     all_goals try exact oI
     all_goals try exact hva1
     all_goals try exact okA_of hA (by intro x hx; rw [List.mem_singleton.1 hx]; exact ⟨rfl, rfl⟩)
     all_goals try exact lfA_of hA (by intro x hx; rw [List.mem_singleton.1 hx]; rfl)
     all_goals try exact cap_of hA (by simp only [List.length_singleton]; omega)
     simp only [hra]
     clear hra hva1
     obtain ⟨y1, hy1⟩ : ∃ y, y = i + 1 := ⟨_, rfl⟩
     obtain ⟨y2, hy2⟩ : ∃ y, y = r' := ⟨_, rfl⟩
     refine ⟨⟨(y1, y2), ?_⟩, ?_, ?_⟩
     rotate_left
     ·cbv
      exact nI
     ·(subst hA; subst_vars; simp only [AR.std, natCast_eq, sI, reduceCtorEq] at *; try simp (disch := omega) only [AR.std, natCast_eq, sI, reduceCtorEq] at *); omega
     ·rw [hy1, hy2]
      refine ⟨by simp only; omega, hge1, ?_, ?_⟩ <;> simp only <;> rw [show (i + 1).toNat = i.toNat + 1 by omega]
      ·exact hq3
      ·exact hnx2
    ·have hd20 : True := trivial
     have hp20 : True := trivial
     obtain ⟨rr1, hrr1⟩ : ∃ rr, rr = intsL (dg (cZ d1).natAbs) := ⟨_, rfl⟩
     obtain ⟨u1, hu1⟩ : ∃ u, u = decide (cZ d1 < 0) := ⟨_, rfl⟩
     obtain ⟨f1, hf1⟩ : ∃ f, f = cE d1 := ⟨_, rfl⟩
     have hva1 : A.vals rr1 := vals_of hA (by rw [hrr1]; exact vals_ints)
     obtain ⟨rr2, hrr2⟩ : ∃ rr, rr = intsL (dg (cZ d2).natAbs) := ⟨_, rfl⟩
     obtain ⟨u2, hu2⟩ : ∃ u, u = decide (cZ d2 < 0) := ⟨_, rfl⟩
     obtain ⟨f2, hf2⟩ : ∃ f, f = cE d2 := ⟨_, rfl⟩
     have hva2 : A.vals rr2 := vals_of hA (by rw [hrr2]; exact vals_ints)
     have hq3 : q ++ [.agg [B u1, .lst rr1, I f1, B u2, .lst rr2, I f2]] = cells6 (canV dA dB (i.toNat + 1)) := by rw [← hq2, hrr1, hu1, hf1, hrr2, hu2, hf2]; rfl
     obtain ⟨r', hr'⟩ : ∃ r', r' = q ++ [.agg [B u1, .lst rr1, I f1, B u2, .lst rr2, I f2]] := ⟨_, rfl⟩
     have hra : A.app q [.agg [B u1, .lst rr1, I f1, B u2, .lst rr2, I f2]] = r' := by rw [hr']; subst hA; rfl
     rw [← hr'] at hq3
     refine callN hA rfl (spanIv_oo_fn C k1 k2 k3 k4 m1 m2 c1 c2 l1 l2 hfit1 hz1 hrr1 hu1 hf1 hfit2 hz2 hrr2 hu2 hf2) ?_; rintro _ _ ⟨rfl, rfl⟩; refine ⟨rfl, ?_⟩
     clear k1 k2 k3 k4 m1 m2 c1 c2 l1 l2 hp10 hp20 hq2 hfit1 hfit2 hz1 hz2 hd10 hd20 hd1 hd2 hfail hrr1 hu1 hf1 hrr2 hu2 hf2
     iterate 2 (all_goals try cbv; all_goals with_reducible repeat' first | exact True.intro | refine And.intro ?_ ?_ | intro _)
     all_goals try exact oI
     all_goals try exact hva1
     all_goals try exact hva2
     all_goals try exact okA_of hA (by intro x hx; rw [List.mem_singleton.1 hx]; exact ⟨rfl, rfl⟩)
     all_goals try exact lfA_of hA (by intro x hx; rw [List.mem_singleton.1 hx]; rfl)
     all_goals try exact cap_of hA (by simp only [List.length_singleton]; omega)
     simp only [hra]
     clear hra hva1 hva2
     obtain ⟨y1, hy1⟩ : ∃ y, y = i + 1 := ⟨_, rfl⟩
     obtain ⟨y2, hy2⟩ : ∃ y, y = r' := ⟨_, rfl⟩
     refine ⟨⟨(y1, y2), ?_⟩, ?_, ?_⟩
     rotate_left
     ·cbv
      exact nI
     ·(subst hA; subst_vars; simp only [AR.std, natCast_eq, sI, reduceCtorEq] at *; try simp (disch := omega) only [AR.std, natCast_eq, sI, reduceCtorEq] at *); omega
     ·rw [hy1, hy2]
      refine ⟨by simp only; omega, hge1, ?_, ?_⟩ <;> simp only <;> rw [show (i + 1).toNat = i.toNat + 1 by omega]
      ·exact hq3
      ·exact hnx2
  ·have hwf := hfail hlt1 hfits
   refine callS hA rfl (spanIv_X_fs C k1 k2 k3 k4 m1 m2 c1 c2 l1 l2 hfits) ?_; rintro _ rfl
   clear k1 k2 k3 k4 m1 m2 c1 c2 l1 l2 hfits hfail hnx hd1 hd2 hq2
   iterate 2 (all_goals try cbv; all_goals with_reducible repeat' first | exact True.intro | refine And.intro ?_ ?_ | intro _)
   all_goals try exact oI
   all_goals subst hA
   all_goals exact ⟨[], [], _, by decide, Nat.zero_le _, rfl, rfl, rfl, rfl, .inr ⟨hwf, rfl, rfl⟩⟩
 ·rename_i g
  have gi := hge () g
  have hwt := hfin gi
  have e := hdone gi
  simp only [e]
  subst hA
  exact ⟨[3], _, _, by decide, Nat.zero_le _, rfl, rfl, rfl, rfl, .inl ⟨hwt, rfl, rfl⟩⟩

theorem ivMat_fn (C : Cx P gl) {xs : List Cell6} {dA dB : Nat → Dyadic} {L E : Nat} {p r : List PV} {n : Int} (hp : p = cells6 xs) (hx : XV dA dB L E xs) (hL : L ≤ 1000000) (hE : E ≤ 100000)
  (hw : ∀ k, k < xs.length → fits (dA k) ∧ fits (dB k)) (hr : r = cells6 (canV dA dB xs.length)) (hn : xs.length ≤ 1000000) :
  FN P gl 57 [.agg [I n, .lst p]] (fun own rr => own = [.tree 110 6 3 r] ∧ rr = .tup [.agg [.pv (I n), .own 0], .pv (B true)]) :=
 FN_of ((ivMat_fx C hp hx hL hE (w := true) ⟨fun _ => hw, fun _ => rfl⟩ hr hn).mono (by
  rintro o r (⟨_, h1, h2⟩ | ⟨h, _⟩)
  ·exact ⟨h1, h2⟩
  ·cases h)) (by rintro _ _ ⟨rfl, rfl⟩; exact ⟨by simp [closedB], rfl⟩)

theorem ivMat_fs (C : Cx P gl) {xs : List Cell6} {dA dB : Nat → Dyadic} {L E : Nat} {p : List PV} {n : Int} (hp : p = cells6 xs) (hx : XV dA dB L E xs) (hL : L ≤ 1000000) (hE : E ≤ 100000)
  (hw : ¬∀ k, k < xs.length → fits (dA k) ∧ fits (dB k)) (hn : xs.length ≤ 1000000) :
  FS P gl 57 [.agg [I n, .lst p]] (· = .tup [.agg [I 0, .lst []], B false]) :=
 FS_ofFN (R := fun own rr => own = [] ∧ rr = .tup [.agg [.pv (I 0), .pv (.val (.slice none 0 0))], .pv (B false)]) (FN_of ((ivMat_fx C hp hx hL hE (w := false) ⟨fun h => absurd h (by decide), fun h => absurd h hw⟩ rfl hn).mono (by
  rintro o r (⟨h, _⟩ | ⟨_, h1, h2⟩)
  ·cases h
  ·exact ⟨h1, h2⟩)) (by rintro _ _ ⟨rfl, rfl⟩; exact ⟨by simp, rfl⟩)) (by rintro _ _ ⟨rfl, rfl⟩; rfl)

end Tryz
end Go.Proofs
