/- Contracts: interval matrices place by place. -/
import Derived.Test.YtlkiofkkjbodjaaGreatDoorAN29
import Derived.Test.YtlkiofkkjbodjaaGreatDoorAP5
import Derived.Test.YtlkiofkkjbodjaaGreatDoorAPeTm
set_option maxHeartbeats 2000000
set_option maxRecDepth 100000
namespace Go.Proofs
open Go Go.Pe Go.Dg
namespace Tryz
set_option linter.unusedSimpArgs false
set_option linter.unusedVariables false
variable {P : Program} {gl : List (Nat × Obj)}

theorem each1_fs (C : Cx P gl) {f : FuncId} {a0 : List PV} {vs : List Cell6} {p r : List PV} {n : Int} {Y : Nat → Cell6} (hp : p = cells6 vs) (hr : r = cells6 (listV Y vs.length)) (hl : vs.length ≤ 10000)
  (hY : ∀ k, k < vs.length → ∀ P', Cx P' gl → FS P' gl f [cell6 (vs.getD k noV), .ptr a0 0] (· = cell6 (Y k))) :
  FS P gl 126 [.agg [I n, .lst p], .fn f [.ptr a0 0]] (· = .agg [I n, .lst r]) := by
 obtain ⟨rfl, hG⟩ := C
 refine FS_ofT (args := fun A => [.agg [I n, .lst p], .fn f [.ptr a0 0]]) (R := fun A rr => rr = .agg [I n, .lst r]) Tryz.hT Tryz.mix Tryz.func126 rfl rfl (Nat.le_of_ble_eq_true rfl) ?_
 generalize hP : Tryz.prog = P
 intro A hA
 have C : Tryz.Cx P gl := ⟨hP.symm, hG⟩
 have hI : intsL = A.ints := by subst hA; rfl
 iterate 2 (all_goals try cbv; all_goals with_reducible repeat' first | exact True.intro | refine And.intro ?_ ?_ | intro _)
 all_goals try exact oI
 refine loopI hA [.cell 2 1 126 6] (ι := Int × List PV) (fun x => [(14, .pv (I x.1))]) (fun x => [(3, .row 126 6 x.2)]) (fun x => (vs.length - x.1).toNat) (fun x => 0 ≤ x.1 ∧ x.1 ≤ vs.length ∧ x.2 = cells6 (listV Y x.1.toNat)) (0, []) (by rfl) ?_ ?_ ?_
 all_goals try exact tI
 ·exact ⟨Int.le_refl _, by omega, rfl⟩
 rintro ⟨i, q0⟩ ⟨hi0, hi1, hq0⟩
 simp only at hi0 hi1 hq0
 have hql : q0.length ≤ 1000000 := by rw [hq0, c6len, listV_len]; omega
 obtain ⟨v, hv⟩ : ∃ v, v = vs.getD i.toNat noV := ⟨_, rfl⟩
 obtain ⟨s1, hs1⟩ : ∃ x, x = v.1.1 := ⟨_, rfl⟩
 obtain ⟨p1, hp1⟩ : ∃ x, x = intsL v.1.2.1 := ⟨_, rfl⟩
 obtain ⟨e1, he1⟩ : ∃ x, x = v.1.2.2 := ⟨_, rfl⟩
 obtain ⟨s2, hs2⟩ : ∃ x, x = v.2.1 := ⟨_, rfl⟩
 obtain ⟨p2, hp2⟩ : ∃ x, x = intsL v.2.2.1 := ⟨_, rfl⟩
 obtain ⟨e2, he2⟩ : ∃ x, x = v.2.2.2 := ⟨_, rfl⟩
 have hel : ∀ _ : Unit, i < vs.length → (A.gb (A.el p (A.nat i)) 0 = s1 ∧ A.gl (A.el p (A.nat i)) 1 = p1 ∧ A.gi (A.el p (A.nat i)) 2 = e1) ∧ A.gb (A.el p (A.nat i)) 3 = s2 ∧ A.gl (A.el p (A.nat i)) 4 = p2 ∧ A.gi (A.el p (A.nat i)) 5 = e2 := by
  intro _ h4
  have w : A.el p (A.nat i) = cell6 v := by rw [hv, hp]; subst hA; exact c6el (show i.toNat < vs.length by omega)
  rw [w, hs1, hp1, he1, hs2, hp2, he2]
  subst hA
  exact ⟨⟨rfl, rfl, rfl⟩, rfl, rfl, rfl⟩
 obtain ⟨y, hy⟩ : ∃ y, y = Y i.toNat := ⟨_, rfl⟩
 obtain ⟨u1, hu1⟩ : ∃ x, x = y.1.1 := ⟨_, rfl⟩
 obtain ⟨x1, hx1⟩ : ∃ x, x = intsL y.1.2.1 := ⟨_, rfl⟩
 obtain ⟨g1, hg1⟩ : ∃ x, x = y.1.2.2 := ⟨_, rfl⟩
 obtain ⟨u2, hu2⟩ : ∃ x, x = y.2.1 := ⟨_, rfl⟩
 obtain ⟨x2, hx2⟩ : ∃ x, x = intsL y.2.2.1 := ⟨_, rfl⟩
 obtain ⟨g2, hg2⟩ : ∃ x, x = y.2.2.2 := ⟨_, rfl⟩
 have hlt : ∀ _ : Unit, A.lt i (A.cast (A.len p)) = true → i < vs.length := by
  intro _ h; subst hA; rw [hp] at h; have := of_decide_eq_true (show decide (i < (((cells6 vs).length : Nat) : Int)) = true from h); rw [c6len] at this; exact this
 have hge : ∀ _ : Unit, A.lt i (A.cast (A.len p)) = false → i.toNat = vs.length := by
  intro _ h; subst hA; rw [hp] at h; have := of_decide_eq_false (show decide (i < (((cells6 vs).length : Nat) : Int)) = false from h); rw [c6len] at this; omega
 have hcall : ∀ _ : Unit, i < vs.length → (∀ P', Cx P' gl → FS P' gl f [.agg [B s1, .lst p1, I e1, B s2, .lst p2, I e2], .ptr a0 0] (· = .agg [B u1, .lst x1, I g1, B u2, .lst x2, I g2])) ∧ q0 ++ [.agg [B u1, .lst x1, I g1, B u2, .lst x2, I g2]] = cells6 (listV Y (i + 1).toNat) ∧ i.toNat < vs.length ∧ i + 1 ≤ vs.length := by
  intro _ h4
  refine ⟨fun P' C' => ?_, ?_, by omega, by omega⟩
  ·have h := hY i.toNat (by omega) P' C'
   rw [← hv, ← hy] at h
   rw [hs1, hp1, he1, hs2, hp2, he2, hu1, hx1, hg1, hu2, hx2, hg2]; exact h
  ·rw [show (i + 1).toNat = i.toNat + 1 by omega, listV_succ, ← c6app, ← hq0, ← hy, hu1, hx1, hg1, hu2, hx2, hg2]; rfl
 have hdone : i.toNat = vs.length → q0 = r := fun h => by rw [hq0, hr, h]
 clear hY hs1 hp1 he1 hs2 hp2 he2  hu1 hx1 hg1 hu2 hx2 hg2 hv  hy hq0 hr
 iterate 2 (all_goals try cbv; all_goals with_reducible repeat' first | exact True.intro | refine And.intro ?_ ?_ | intro _)
 all_goals try exact oI
 ·rename_i g
  have gi := hlt () g
  obtain ⟨⟨w1, w2, w3⟩, w4, w5, w6⟩ := hel () gi
  obtain ⟨o1, o2, o3, o4⟩ := hcall () gi
  obtain ⟨r', hr'⟩ : ∃ r', r' = q0 ++ [.agg [B u1, .lst x1, I g1, B u2, .lst x2, I g2]] := ⟨_, rfl⟩
  have hra : A.app q0 [.agg [B u1, .lst x1, I g1, B u2, .lst x2, I g2]] = r' := by rw [hr']; subst hA; rfl
  rw [← hr'] at o2
  clear hlt hge hel  hcall hdone hr'
  all_goals try simp only [w1, w2, w3, w4, w5, w6]
  iterate 2 (all_goals try cbv; all_goals with_reducible repeat' first | exact True.intro | refine And.intro ?_ ?_ | intro _)
  all_goals try exact oI
  all_goals try simp only [w1, w2, w3, w4, w5, w6]
  first | (refine callS hA rfl (o1 P C) ?_; rintro _ rfl) | refine ⟨_, o1 P C, ?_⟩
  iterate 2 (all_goals try cbv; all_goals with_reducible repeat' first | exact True.intro | refine And.intro ?_ ?_ | intro _)
  all_goals try exact oI
  all_goals try exact okA_of hA (by intro x hx; rw [List.mem_singleton.1 hx]; exact ⟨rfl, rfl⟩)
  all_goals try exact cap_of hA (by simp only [List.length_singleton]; omega)
  simp only [hra]
  clear hra w1 w2 w3 w4 w5 w6  o1
  obtain ⟨y1, hy1⟩ : ∃ y, y = i + 1 := ⟨_, rfl⟩
  obtain ⟨y2, hy2⟩ : ∃ y, y = r' := ⟨_, rfl⟩
  refine ⟨⟨(y1, y2), ?_⟩, ?_, ?_⟩
  rotate_left
  ·cbv
   exact nI
  ·(subst hA; subst_vars; simp only [AR.std, natCast_eq, sI, reduceCtorEq] at *; try simp (disch := omega) only [AR.std, natCast_eq, sI, reduceCtorEq] at *); omega
  ·rw [hy1, hy2]
   exact ⟨by simp only; omega, o4, o2⟩
 ·rename_i g
  have e := hdone (hge () g)
  simp only [e]

theorem l10out_fs (C : Cx P gl) {vs : List Cell6} {p r : List PV} {n low : Int} {Y : Nat → Cell6} (hp : p = cells6 vs) (hr : r = cells6 (listV Y vs.length)) (hn : 0 ≤ n) (hn4 : n ≤ 100) (hvl : (vs.length : Int) = n * n)
  (hY : ∀ k, k < vs.length → ∀ P', Cx P' gl → FS P' gl 122 [cell6 (vs.getD k noV), I low] (· = cell6 (Y k))) :
  FS P gl 51 [.agg [I n, .lst p], I low] (· = .agg [I n, .lst r]) := by
 have hnn : 0 ≤ n * n ∧ n * n ≤ 10000 := by
  have h3 : n * n ≤ 100 * n := Int.mul_le_mul_of_nonneg_right hn4 hn
  have h4 := Int.mul_nonneg hn hn
  omega
 have hvl2 : vs.length ≤ 10000 := by omega
 obtain ⟨u0, hu0⟩ : ∃ u, u = cells6 (List.replicate vs.length noV) := ⟨_, rfl⟩
 have hnew := fun (P' : Program) (C' : Cx P' gl) => l10new_fn C' (n := n) (u := u0) hn hn4 (by rw [hu0, show vs.length = (n * n).toNat by omega])
 clear hnn
 obtain ⟨rfl, hG⟩ := C
 refine FS_ofT (args := fun A => [.agg [I n, .lst p], I low]) (R := fun A rr => rr = .agg [I n, .lst r]) Tryz.hT Tryz.mix Tryz.func51 rfl rfl (Nat.le_of_ble_eq_true rfl) ?_
 generalize hP : Tryz.prog = P
 intro A hA
 have C : Tryz.Cx P gl := ⟨hP.symm, hG⟩
 have hI : intsL = A.ints := by subst hA; rfl
 iterate 2 (all_goals try cbv; all_goals with_reducible repeat' first | exact True.intro | refine And.intro ?_ ?_ | intro _)
 all_goals try exact oI
 refine callN hA rfl (hnew P C) ?_; rintro _ _ ⟨rfl, rfl⟩; refine ⟨rfl, ?_⟩
 clear hnew
 iterate 2 (all_goals try cbv; all_goals with_reducible repeat' first | exact True.intro | refine And.intro ?_ ?_ | intro _)
 all_goals try exact oI
 refine loopI hA [] (ι := Int × List PV) (fun x => [(6, .pv (I x.1))]) (fun x => [(2, .row 110 6 x.2)]) (fun x => (vs.length - x.1).toNat) (fun x => 0 ≤ x.1 ∧ x.1 ≤ vs.length ∧ x.2 = cells6 (listV Y x.1.toNat ++ List.replicate (vs.length - x.1.toNat) noV)) (0, u0) (by rfl) ?_ ?_ ?_
 all_goals try exact tI
 ·exact ⟨Int.le_refl _, by omega, by rw [hu0]; rfl⟩
 rintro ⟨i, t0⟩ ⟨hi0, hi1, ht0⟩
 simp only at hi0 hi1 ht0
 have htl : t0.length = vs.length := by
  rw [ht0, c6len, List.length_append, listV_len, List.length_replicate]; omega
 obtain ⟨v, hv⟩ : ∃ v, v = vs.getD i.toNat noV := ⟨_, rfl⟩
 obtain ⟨s1, hs1⟩ : ∃ x, x = v.1.1 := ⟨_, rfl⟩
 obtain ⟨p1, hp1⟩ : ∃ x, x = intsL v.1.2.1 := ⟨_, rfl⟩
 obtain ⟨e1, he1⟩ : ∃ x, x = v.1.2.2 := ⟨_, rfl⟩
 obtain ⟨s2, hs2⟩ : ∃ x, x = v.2.1 := ⟨_, rfl⟩
 obtain ⟨p2, hp2⟩ : ∃ x, x = intsL v.2.2.1 := ⟨_, rfl⟩
 obtain ⟨e2, he2⟩ : ∃ x, x = v.2.2.2 := ⟨_, rfl⟩
 have hel : ∀ _ : Unit, i < vs.length → (A.gb (A.el p (A.nat i)) 0 = s1 ∧ A.gl (A.el p (A.nat i)) 1 = p1 ∧ A.gi (A.el p (A.nat i)) 2 = e1) ∧ A.gb (A.el p (A.nat i)) 3 = s2 ∧ A.gl (A.el p (A.nat i)) 4 = p2 ∧ A.gi (A.el p (A.nat i)) 5 = e2 := by
  intro _ h4
  have w : A.el p (A.nat i) = cell6 v := by rw [hv, hp]; subst hA; exact c6el (show i.toNat < vs.length by omega)
  rw [w, hs1, hp1, he1, hs2, hp2, he2]
  subst hA
  exact ⟨⟨rfl, rfl, rfl⟩, rfl, rfl, rfl⟩
 obtain ⟨y, hy⟩ : ∃ y, y = Y i.toNat := ⟨_, rfl⟩
 obtain ⟨u1, hu1⟩ : ∃ x, x = y.1.1 := ⟨_, rfl⟩
 obtain ⟨x1, hx1⟩ : ∃ x, x = intsL y.1.2.1 := ⟨_, rfl⟩
 obtain ⟨g1, hg1⟩ : ∃ x, x = y.1.2.2 := ⟨_, rfl⟩
 obtain ⟨u2, hu2⟩ : ∃ x, x = y.2.1 := ⟨_, rfl⟩
 obtain ⟨x2, hx2⟩ : ∃ x, x = intsL y.2.2.1 := ⟨_, rfl⟩
 obtain ⟨g2, hg2⟩ : ∃ x, x = y.2.2.2 := ⟨_, rfl⟩
 have hlt : ∀ _ : Unit, A.lt i (A.cast (A.len p)) = true → i < vs.length := by
  intro _ h; subst hA; rw [hp] at h; have := of_decide_eq_true (show decide (i < (((cells6 vs).length : Nat) : Int)) = true from h); rw [c6len] at this; exact this
 have hge : ∀ _ : Unit, A.lt i (A.cast (A.len p)) = false → i.toNat = vs.length := by
  intro _ h; subst hA; rw [hp] at h; have := of_decide_eq_false (show decide (i < (((cells6 vs).length : Nat) : Int)) = false from h); rw [c6len] at this; omega
 have hcall : ∀ _ : Unit, i < vs.length → ((∀ P', Cx P' gl → FS P' gl 122 [.agg [B s1, .lst p1, I e1, B s2, .lst p2, I e2], I low] (· = .agg [B u1, .lst x1, I g1, B u2, .lst x2, I g2]))) ∧ t0.set i.toNat (.agg [B u1, .lst x1, I g1, B u2, .lst x2, I g2]) = cells6 (listV Y (i + 1).toNat ++ List.replicate (vs.length - (i + 1).toNat) noV) ∧ i.toNat < vs.length ∧ i + 1 ≤ vs.length := by
  intro _ h4
  refine ⟨?_, ?_, by omega, by omega⟩
  ·intro P' C'
   have h := hY i.toNat (by omega) P' C'
   rw [← hv, ← hy] at h
   rw [hs1, hp1, he1, hs2, hp2, he2, hu1, hx1, hg1, hu2, hx2, hg2]; exact h
  ·rw [show .agg [B u1, .lst x1, I g1, B u2, .lst x2, I g2] = cell6 (Y i.toNat) by rw [← hy, hu1, hx1, hg1, hu2, hx2, hg2]; rfl, ht0, c6set, show (i + 1).toNat = i.toNat + 1 by omega, listV_succ, List.append_assoc]
   congr 1
   rw [List.set_append_right _ _ (by rw [listV_len]; exact Nat.le_refl _), listV_len, Nat.sub_self, show vs.length - i.toNat = (vs.length - (i.toNat + 1)) + 1 by omega, List.replicate_succ]
   rfl
 have hdone : i.toNat = vs.length → t0 = r := fun h => by rw [ht0, hr, h, Nat.sub_self, List.replicate_zero, List.append_nil]
 clear hY hs1 hp1 he1 hs2 hp2 he2  hu1 hx1 hg1 hu2 hx2 hg2 hv  hy ht0 hr hu0
 iterate 2 (all_goals try cbv; all_goals with_reducible repeat' first | exact True.intro | refine And.intro ?_ ?_ | intro _)
 all_goals try exact oI
 ·rename_i g
  have gi := hlt () g
  obtain ⟨⟨w1, w2, w3⟩, w4, w5, w6⟩ := hel () gi
  obtain ⟨o1, o2, o3, o4⟩ := hcall () gi
  obtain ⟨t9, ht9⟩ : ∃ t9, t9 = t0.set i.toNat (.agg [B u1, .lst x1, I g1, B u2, .lst x2, I g2]) := ⟨_, rfl⟩
  have hst : A.set t0 (A.nat i) (.agg [B u1, .lst x1, I g1, B u2, .lst x2, I g2]) = t9 := by rw [ht9]; subst hA; rfl
  rw [← ht9] at o2
  clear hlt hge hel  hcall hdone ht9
  all_goals try simp only [w1, w2, w3, w4, w5, w6, hst]
  iterate 2 (all_goals try cbv; all_goals with_reducible repeat' first | exact True.intro | refine And.intro ?_ ?_ | intro _)
  all_goals try exact oI
  all_goals try simp only [w1, w2, w3, w4, w5, w6, hst]
  first | (refine callS hA rfl (o1 P C) ?_; rintro _ rfl) | refine ⟨_, o1 P C, ?_⟩
  iterate 2 (all_goals try cbv; all_goals with_reducible repeat' first | exact True.intro | refine And.intro ?_ ?_ | intro _)
  all_goals try exact oI
  all_goals try simp only [w1, w2, w3, w4, w5, w6, hst]
  clear hst w1 w2 w3 w4 w5 w6  o1
  obtain ⟨y1, hy1⟩ : ∃ y, y = i + 1 := ⟨_, rfl⟩
  obtain ⟨y2, hy2⟩ : ∃ y, y = t9 := ⟨_, rfl⟩
  refine ⟨⟨(y1, y2), ?_⟩, ?_, ?_⟩
  rotate_left
  ·cbv
   exact nI
  ·(subst hA; subst_vars; simp only [AR.std, natCast_eq, sI, reduceCtorEq] at *; try simp (disch := omega) only [AR.std, natCast_eq, sI, reduceCtorEq] at *); omega
  ·rw [hy1, hy2]
   exact ⟨by simp only; omega, o4, o2⟩
 ·rename_i g
  have e := hdone (hge () g)
  rw [e]

end Tryz
end Go.Proofs
