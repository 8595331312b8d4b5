/- Contracts: lists of numbers in form, in the reference. -/
import Derived.Test.YthmkdfmapdbenaaGreatDoorEM10
import Derived.Test.YthmkdfmapdbenaaGreatDoorEEvD
namespace Go.Proofs
open Go Go.Pe Go.Dg
namespace Tryz
set_option linter.unusedSimpArgs false
set_option linter.unusedVariables false
variable {P : Program} {gl : List (Nat × Obj)}

set_option maxHeartbeats 1000000 in
set_option maxRecDepth 100000 in
theorem l9fits_fs (C : Cx P gl) {ys : List Cell3} {p q : List PV} {b : Bool} (hp : p = cells3 ys) (hb : b = true ↔ allY ys) (hl : ys.length ≤ 2000000) (hy : ∀ y ∈ ys, y.2.1.length ≤ 2000000)
    (h1 : b = true → q = p) (h2 : b = false → q = []) : FS P gl 82 [.lst p] (· = .tup [.lst q, B b]) := by
  have hstep : ∀ (i : Int) (v : List PV), 0 ≤ i → i < ys.length → v = cells3 (ys.take i.toNat) → ∃ (s b0 : Bool) (e : Int) (u v2 : List PV), ((ys.getD i.toNat noY).1 = s ∧ intsL (ys.getD i.toNat noY).2.1 = u ∧ (ys.getD i.toNat noY).2.2 = e) ∧ (b0 = true ↔ okY (ys.getD i.toNat noY)) ∧
      (∀ P', Cx P' gl → FS P' gl 108 [.agg [B s, .lst u, I e]] (· = B b0)) ∧ (b0 = true → ∀ P', Cx P' gl → FS P' gl 69 [.agg [B s, .lst u, I e]] (· = .agg [B s, .lst u, I e])) ∧
      v2 = v ++ [.agg [B s, .lst u, I e]] ∧ v2 = cells3 (ys.take (i + 1).toNat) := by
    intro i v h1 h2 hv
    have hlt : i.toNat < ys.length := by omega
    have hm := hy _ (getY_mem hlt)
    obtain ⟨b0, hb0⟩ := bool_of (okY (ys.getD i.toNat noY))
    refine ⟨_, b0, _, _, _, ⟨rfl, rfl, rfl⟩, hb0, fun P' C' => DyOk_fs C' rfl hb0 hm, fun h P' C' => ?_, rfl, ?_⟩
    · obtain ⟨⟨g1, g2, g3⟩, g4, g5, g6⟩ := dyOk_val (hb0.1 h)
      exact l7own_fs C' (z := cZ (dval (ys.getD i.toNat noY).1 (ys.getD i.toNat noY).2.1 (ys.getD i.toNat noY).2.2)) (by rw [← g2]) g1 (by omega)
    · rw [show (i + 1).toNat = i.toNat + 1 by omega, hv]
      exact c3take hlt
  have hfin : ∀ v : List PV, v = cells3 (ys.take ys.length) → (∀ k, k < ys.length → okY (ys.getD k noY)) → v = q ∧ b = true := by
    intro v hv hk
    have hbt : b = true := hb.2 (fun y hy => by
      obtain ⟨k, hk2, rfl⟩ := List.getElem_of_mem hy
      have := hk k hk2
      rwa [List.getD, List.getElem?_eq_getElem hk2] at this)
    exact ⟨by rw [hv, List.take_length, h1 hbt, hp], hbt⟩
  have hbad : ∀ i : Int, 0 ≤ i → i < ys.length → ¬okY (ys.getD i.toNat noY) → q = [] ∧ b = false := by
    intro i g1 g2 g3
    have hbf : b = false := by
      cases hbc : b with
      | false => rfl
      | true => exact absurd (hb.1 hbc _ (getY_mem (by omega))) g3
    exact ⟨h2 hbf, hbf⟩
  have hpl : p.length = ys.length := by rw [hp, cells3_len]
  have hlen : ∀ (i : Int) (v : List PV), v = cells3 (ys.take i.toNat) → v.length ≤ 2000000 := by
    intro i v hv
    rw [hv, cells3_len, List.length_take]; omega
  clear hb h1 h2 hy
  obtain ⟨rfl, hG⟩ := C
  refine FS_ofT (args := fun A => [.lst p]) (R := fun A rr => rr = .tup [.lst q, B b]) Tryz.hT Tryz.mix Tryz.func82 rfl rfl (Nat.le_of_ble_eq_true rfl) ?_
  generalize hP : Tryz.prog = P
  intro A hA
  have C : Tryz.Cx P gl := ⟨hP.symm, hG⟩
  have hI : intsL = A.ints := by subst hA; rfl
  iterate 2 (all_goals try cbv; all_goals repeat' (first | with_reducible exact True.intro | with_reducible refine And.intro ?_ ?_ | intro _))
  all_goals try exact oG
  refine loopI hA [.slot 4 41 3] (ι := Int × List PV) (fun x => [(4, .own 0), (5, .pv (I x.1))]) (fun x => [(0, .row 41 3 x.2)]) (fun x => (ys.length - x.1).toNat) (fun x => 0 ≤ x.1 ∧ x.1 ≤ ys.length ∧ x.2 = cells3 (ys.take x.1.toNat) ∧ ∀ k, k < x.1.toNat → okY (ys.getD k noY)) (0, []) (by rfl) ?_ ?_ ?_
  all_goals try exact tG
  · exact ⟨Int.le_refl _, by omega, rfl, fun k hk => absurd hk (Nat.not_lt_zero _)⟩
  rintro ⟨i, v⟩ ⟨hi0, hi1, hv, hk⟩
  simp only at hi0 hi1 hv hk
  have hvl := hlen i v hv
  have hout : ∀ _ : Unit, i = ys.length → v = q ∧ b = true := by
    intro _ h
    have e : i.toNat = ys.length := by omega
    rw [e] at hv hk
    exact hfin v hv hk
  have hs : ∀ _ : Unit, i < ys.length → _ := fun _ h => hstep i v hi0 h hv
  have hbd : ∀ _ : Unit, i < ys.length → ¬okY (ys.getD i.toNat noY) → q = [] ∧ b = false := fun _ h => hbad i hi0 h
  have hk2 : ∀ _ : Unit, okY (ys.getD i.toNat noY) → ∀ k, k < (i + 1).toNat → okY (ys.getD k noY) := by
    intro _ h k hlt
    by_cases e : k = i.toNat
    · rw [e]; exact h
    · exact hk k (by omega)
  clear hv hk hstep hfin hbad hlen
  iterate 2 (all_goals try cbv; all_goals repeat' (first | with_reducible exact True.intro | with_reducible refine And.intro ?_ ?_ | intro _))
  all_goals try exact oG
  · rename_i g
    have gi : i < ys.length := by clear hs hout hbd hk2; (subst hA; subst_vars; simp only [AR.std, natCast_eq, sG, reduceCtorEq] at *; try simp (disch := omega) only [AR.std, natCast_eq, sG, reduceCtorEq] at *); omega
    have hlt : i.toNat < ys.length := by omega
    obtain ⟨s, b0, e, u, v2, ⟨g1, g2, g3⟩, g4, c1, c2, x1, x2⟩ := hs () gi
    have hi2 : i + 1 ≤ ys.length := by omega
    have hbd2 := hbd () gi
    have hk3 := hk2 ()
    have k1 : A.gb (A.el p (A.nat i)) 0 = s := by rw [← g1]; clear hs hout hbd hk2 g1 g2 g3 g4 c1 c2 x1 x2 g hbd2 hk3; (subst hA; subst_vars; simp only [AR.std, natCast_eq, sG, reduceCtorEq] at *; try simp (disch := omega) only [AR.std, natCast_eq, sG, reduceCtorEq] at *)
    have k2 : A.gl (A.el p (A.nat i)) 1 = u := by rw [← g2]; clear hs hout hbd hk2 g1 g2 g3 g4 c1 c2 x1 x2 g hbd2 hk3 k1; (subst hA; subst_vars; simp only [AR.std, natCast_eq, sG, reduceCtorEq] at *; try simp (disch := omega) only [AR.std, natCast_eq, sG, reduceCtorEq] at *)
    have k3 : A.gi (A.el p (A.nat i)) 2 = e := by rw [← g3]; clear hs hout hbd hk2 g1 g2 g3 g4 c1 c2 x1 x2 g hbd2 hk3 k1 k2; (subst hA; subst_vars; simp only [AR.std, natCast_eq, sG, reduceCtorEq] at *; try simp (disch := omega) only [AR.std, natCast_eq, sG, reduceCtorEq] at *)
    have hra : A.app v [.agg [B s, .lst u, I e]] = v2 := by rw [x1]; subst hA; rfl
    clear hs hout hbd hk2 g1 g2 g3 g x1
    all_goals try simp only [k1, k2, k3]
    refine callS hA rfl (c1 P C) ?_; rintro _ rfl
    cases b0 with
    | false =>
      obtain ⟨e1, e2⟩ := hbd2 (fun h => absurd (g4.2 h) (by decide))
      subst e1; subst e2
      clear g4 c1 c2 hbd2 hk3
      iterate 2 (all_goals try cbv; all_goals repeat' (first | with_reducible exact True.intro | with_reducible refine And.intro ?_ ?_ | intro _))
      all_goals try exact oG
      iterate 2 (all_goals try cbv; all_goals repeat' (first | with_reducible exact True.intro | with_reducible refine And.intro ?_ ?_ | intro _))
      all_goals try exact oG
    | true =>
      have c3 := c2 rfl
      have hk4 := hk3 (g4.1 rfl)
      clear g4 c1 c2 hbd2 hk3
      iterate 2 (all_goals try cbv; all_goals repeat' (first | with_reducible exact True.intro | with_reducible refine And.intro ?_ ?_ | intro _))
      all_goals try exact oG
      all_goals try simp only [k1, k2, k3]
      refine callS hA rfl (c3 P C) ?_; rintro _ rfl
      iterate 2 (all_goals try cbv; all_goals repeat' (first | with_reducible exact True.intro | with_reducible refine And.intro ?_ ?_ | intro _))
      all_goals try exact oG
      all_goals try exact okA_of hA (by intro x hx; rw [List.mem_singleton.1 hx]; exact ⟨rfl, rfl⟩)
      all_goals try exact cap_of hA (by simp only [List.length_singleton]; omega)
      simp only [hra]
      clear hra k1 k2 k3
      obtain ⟨y1, hy1⟩ : ∃ y, y = i + 1 := ⟨_, rfl⟩
      obtain ⟨y2, hy2⟩ : ∃ y, y = v2 := ⟨_, rfl⟩
      refine ⟨⟨(y1, y2), ?_⟩, ?_, ?_⟩
      rotate_left
      · cbv
        exact nG
      · (subst hA; subst_vars; simp only [AR.std, natCast_eq, sG, reduceCtorEq] at *; try simp (disch := omega) only [AR.std, natCast_eq, sG, reduceCtorEq] at *); omega
      · rw [hy1, hy2]
        exact ⟨by simp only; omega, hi2, x2, hk4⟩
  · rename_i g
    obtain ⟨e1, e2⟩ := hout () (by clear hs hout hbd hk2; (subst hA; subst_vars; simp only [AR.std, natCast_eq, sG, reduceCtorEq] at *; try simp (disch := omega) only [AR.std, natCast_eq, sG, reduceCtorEq] at *); omega)
    rw [e1, e2]

end Tryz
end Go.Proofs
