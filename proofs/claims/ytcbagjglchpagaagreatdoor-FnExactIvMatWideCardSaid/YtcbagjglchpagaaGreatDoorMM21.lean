/- Contracts: the greatest sum of sizes in the program. -/
import Derived.Test.YtcbagjglchpagaaGreatDoorMM13
namespace Go.Proofs
open Go Go.Pe Go.Dg
namespace Tryz
set_option linter.unusedSimpArgs false
set_option linter.unusedVariables false
variable {P : Program} {gl : List (Nat × Obj)}

/-- what most of two cells yields -/
def mostP (gl : List (Nat × Obj)) (y1 y2 y : Cell3) : Prop := ∀ (P : Program) (p r : List PV), Cx P gl → p = cells3 [y1, y2] → r = intsL y.2.1 → FS P gl 117 [.lst p] (· = .agg [B y.1, .lst r, I y.2.2])

set_option maxHeartbeats 1000000 in
set_option maxRecDepth 100000 in
theorem gridNorm_fs (C : Cx P gl) {ys : List Cell3} {p r : List PV} {n : Int} {s0 : Bool} {l0 : List Int} {e0 : Int} {c : Nat → Nat → Cell3} {o : Nat → Cell3} (hp : p = cells3 ys) (hn : 0 ≤ n) (hn4 : n ≤ 4)
    (hyl : (ys.length : Int) = n * n) (ho0 : o 0 = noY) (hon : o n.toNat = (s0, l0, e0)) (hr : r = intsL l0) (hc0 : ∀ j, j < n.toNat → c j 0 = noY)
    (hcp : ∀ i j : Nat, i < n.toNat → j < n.toNat → callP gl 128 (c j i) (false, (ys.getD (i * n.toNat + j) noY).2.1, (ys.getD (i * n.toNat + j) noY).2.2) (c j (i + 1)))
    (hmp : ∀ j : Nat, j < n.toNat → mostP gl (o j) (c j n.toNat) (o (j + 1))) :
    FS P gl 79 [.agg [I n, .lst p]] (· = .agg [B s0, .lst r, I e0]) := by
  have hmul : ∀ a b : Int, 0 ≤ a → 0 ≤ b → a < n → b < n → (a * n + b).toNat = a.toNat * n.toNat + b.toNat ∧ a * n + b < n * n := by
    intro a b h1 h2 h3 h4
    have e1 : a * n = ((a.toNat * n.toNat : Nat) : Int) := by rw [Int.natCast_mul, Int.toNat_of_nonneg h1, Int.toNat_of_nonneg hn]
    have : (a + 1) * n ≤ n * n := Int.mul_le_mul_of_nonneg_right (by omega) hn
    rw [Int.add_mul, Int.one_mul] at this
    omega
  -- a step of a column
  have hst0 : ∀ i j : Int, 0 ≤ i → 0 ≤ j → i < n → j < n → ∃ (s1 s4 : Bool) (e1 e4 : Int) (u1 u4 : List PV), (∀ P', Cx P' gl → FS P' gl 129 [.agg [I n, .lst p], I i, I j] (· = .agg [B s1, .lst u1, I e1])) ∧
      (∀ P', Cx P' gl → FS P' gl 130 [.agg [B s1, .lst u1, I e1]] (· = .agg [B false, .lst u1, I e1])) ∧
      (∀ (P' : Program) (s : Bool) (u : List PV) (e : Int), Cx P' gl → s = (c j.toNat i.toNat).1 → u = intsL (c j.toNat i.toNat).2.1 → e = (c j.toNat i.toNat).2.2 → FS P' gl 128 [.agg [B s, .lst u, I e], .agg [B false, .lst u1, I e1]] (· = .agg [B s4, .lst u4, I e4])) ∧
      s4 = (c j.toNat (i + 1).toNat).1 ∧ u4 = intsL (c j.toNat (i + 1).toNat).2.1 ∧ e4 = (c j.toNat (i + 1).toNat).2.2 := by
    intro i j hi0 hj0 hi hj
    obtain ⟨m1, m2⟩ := hmul i j hi0 hj0 hi hj
    have h2 := hcp i.toNat j.toNat (by omega) (by omega)
    refine ⟨_, _, _, _, _, _, fun P' C' => gridAt_fs C' hp hi0 hj0 hn hn4 (by omega) (by omega) (by omega) (by rw [m1]) rfl, fun P' C' => exactAbs_fs C', fun P' s u e C' h3 h4 h5 => ?_, by rw [show (i + 1).toNat = i.toNat + 1 by omega], by rw [show (i + 1).toNat = i.toNat + 1 by omega], by rw [show (i + 1).toNat = i.toNat + 1 by omega]⟩
    rw [h3, h4, h5]
    exact h2 P' _ _ _ C' rfl rfl rfl
  -- a step of the greatest
  have hmx0 : ∀ j : Int, 0 ≤ j → j < n → ∀ (s t : Bool) (u v : List PV) (e g : Int), s = (o j.toNat).1 → u = intsL (o j.toNat).2.1 → e = (o j.toNat).2.2 → t = (c j.toNat n.toNat).1 → v = intsL (c j.toNat n.toNat).2.1 → g = (c j.toNat n.toNat).2.2 →
      ∃ (s4 : Bool) (e4 : Int) (u4 : List PV), (∀ P', Cx P' gl → FS P' gl 117 [.lst [.agg [B s, .lst u, I e], .agg [B t, .lst v, I g]]] (· = .agg [B s4, .lst u4, I e4])) ∧ s4 = (o (j + 1).toNat).1 ∧ u4 = intsL (o (j + 1).toNat).2.1 ∧ e4 = (o (j + 1).toNat).2.2 := by
    intro j hj0 hj s t u v e g h1 h2 h3 h4 h5 h6
    refine ⟨_, _, _, fun P' C' => hmp j.toNat (by omega) P' _ _ C' ?_ rfl, by rw [show (j + 1).toNat = j.toNat + 1 by omega], by rw [show (j + 1).toNat = j.toNat + 1 by omega], by rw [show (j + 1).toNat = j.toNat + 1 by omega]⟩
    rw [h1, h2, h3, h4, h5, h6]
    rfl
  have hc0' : ∀ j : Int, 0 ≤ j → j < n → false = (c j.toNat (0 : Int).toNat).1 ∧ [] = intsL (c j.toNat (0 : Int).toNat).2.1 ∧ (0 : Int) = (c j.toNat (0 : Int).toNat).2.2 := by
    intro j hj0 hj
    rw [Int.toNat_zero, hc0 j.toNat (by omega)]
    exact ⟨rfl, rfl, rfl⟩
  have hfin : ∀ (s : Bool) (u : List PV) (e : Int), s = (o n.toNat).1 → u = intsL (o n.toNat).2.1 → e = (o n.toNat).2.2 → s = s0 ∧ u = r ∧ e = e0 := by
    intro s u e h1 h2 h3
    rw [h1, h2, h3, hon, hr]
    exact ⟨rfl, rfl, rfl⟩
  clear hp hyl hr hcp hmp hmul hc0 hon
  obtain ⟨rfl, hG⟩ := C
  refine FS_ofT (args := fun A => [.agg [I n, .lst p]]) (R := fun A rr => rr = .agg [B s0, .lst r, I e0]) Tryz.hT Tryz.mix Tryz.func79 rfl rfl (Nat.le_of_ble_eq_true rfl) ?_
  generalize hP : Tryz.prog = P
  intro A hA
  have C : Tryz.Cx P gl := ⟨hP.symm, hG⟩
  have hI : intsL = A.ints := by subst hA; rfl
  iterate 2 (all_goals try cbv; all_goals repeat' (first | with_reducible exact True.intro | with_reducible refine And.intro ?_ ?_ | intro _))
  all_goals try exact oG
  refine loopI hA [.nilc 2 1] (ι := Int × Bool × List PV × Int) (fun x => [(9, .pv (I x.1))]) (fun x => [(2, .box [.pv (B x.2.1), .pv (.lst x.2.2.1), .pv (I x.2.2.2)])]) (fun x => (n - x.1).toNat) (fun x => 0 ≤ x.1 ∧ x.1 ≤ n ∧ x.2.1 = (o x.1.toNat).1 ∧ x.2.2.1 = intsL (o x.1.toNat).2.1 ∧ x.2.2.2 = (o x.1.toNat).2.2) (0, false, [], 0) (by rfl) ?_ ?_ ?_
  all_goals try exact tG
  · refine ⟨Int.le_refl _, hn, ?_, ?_, ?_⟩ <;> simp only [Int.toNat_zero, ho0] <;> rfl
  rintro ⟨j, s, u, e⟩ ⟨hj0, hj1, hs, hu, he⟩
  simp only at hj0 hj1 hs hu he
  have hexj : j = n → s = s0 ∧ u = r ∧ e = e0 := by
    intro h
    rw [h] at hs hu he
    exact hfin s u e hs hu he
  have hmx : ∀ _ : Unit, j < n → ∀ (t : Bool) (v : List PV) (g : Int), t = (c j.toNat n.toNat).1 → v = intsL (c j.toNat n.toNat).2.1 → g = (c j.toNat n.toNat).2.2 →
      ∃ (s4 : Bool) (e4 : Int) (u4 : List PV), (∀ P', Cx P' gl → FS P' gl 117 [.lst [.agg [B s, .lst u, I e], .agg [B t, .lst v, I g]]] (· = .agg [B s4, .lst u4, I e4])) ∧ s4 = (o (j + 1).toNat).1 ∧ u4 = intsL (o (j + 1).toNat).2.1 ∧ e4 = (o (j + 1).toNat).2.2 :=
    fun _ hj t v g k1 k2 k3 => hmx0 j hj0 hj s t u v e g hs hu he k1 k2 k3
  clear hs hu he hmx0 hfin ho0
  iterate 2 (all_goals try cbv; all_goals repeat' (first | with_reducible exact True.intro | with_reducible refine And.intro ?_ ?_ | intro _))
  all_goals try exact oG
  · rename_i g0
    have gj : j < n := by clear hexj hmx hst0 hc0'; (subst hA; subst_vars; simp only [AR.std, natCast_eq, sG, reduceCtorEq] at *; try simp (disch := omega) only [AR.std, natCast_eq, sG, reduceCtorEq] at *); omega
    have hj2 : j + 1 ≤ n := by omega
    have hmx1 := hmx () gj
    have hc1 := hc0' j hj0 gj
    clear g0 hexj hmx hc0'
    refine loopI hA [.nilc 3 1] (ι := Int × Bool × List PV × Int) (fun x => [(14, .pv (I x.1))]) (fun x => [(3, .box [.pv (B x.2.1), .pv (.lst x.2.2.1), .pv (I x.2.2.2)])]) (fun x => (n - x.1).toNat) (fun x => 0 ≤ x.1 ∧ x.1 ≤ n ∧ x.2.1 = (c j.toNat x.1.toNat).1 ∧ x.2.2.1 = intsL (c j.toNat x.1.toNat).2.1 ∧ x.2.2.2 = (c j.toNat x.1.toNat).2.2) (0, false, [], 0) (by rfl) ?_ ?_ ?_
    all_goals try exact tG
    · exact ⟨Int.le_refl _, hn, hc1⟩
    rintro ⟨i, t, v, g⟩ ⟨hi0, hi1, ht, hv, hg⟩
    simp only at hi0 hi1 ht hv hg
    clear hc1
    have hexi : i = n → ∃ (s4 : Bool) (e4 : Int) (u4 : List PV), (∀ P', Cx P' gl → FS P' gl 117 [.lst [.agg [B s, .lst u, I e], .agg [B t, .lst v, I g]]] (· = .agg [B s4, .lst u4, I e4])) ∧ s4 = (o (j + 1).toNat).1 ∧ u4 = intsL (o (j + 1).toNat).2.1 ∧ e4 = (o (j + 1).toNat).2.2 := by
      intro h
      rw [h] at ht hv hg
      exact hmx1 t v g ht hv hg
    have hst : ∀ _ : Unit, i < n → ∃ (s1 s4 : Bool) (e1 e4 : Int) (u1 u4 : List PV), (∀ P', Cx P' gl → FS P' gl 129 [.agg [I n, .lst p], I i, I j] (· = .agg [B s1, .lst u1, I e1])) ∧
        (∀ P', Cx P' gl → FS P' gl 130 [.agg [B s1, .lst u1, I e1]] (· = .agg [B false, .lst u1, I e1])) ∧
        (∀ P', Cx P' gl → FS P' gl 128 [.agg [B t, .lst v, I g], .agg [B false, .lst u1, I e1]] (· = .agg [B s4, .lst u4, I e4])) ∧
        s4 = (c j.toNat (i + 1).toNat).1 ∧ u4 = intsL (c j.toNat (i + 1).toNat).2.1 ∧ e4 = (c j.toNat (i + 1).toNat).2.2 := by
      intro _ hi
      obtain ⟨s1, s4, e1, e4, u1, u4, g1, g2, g3, g4⟩ := hst0 i j hi0 hj0 hi gj
      exact ⟨s1, s4, e1, e4, u1, u4, g1, g2, fun P' C' => g3 P' t v g C' ht hv hg, g4⟩
    clear ht hv hg hst0 hmx1
    iterate 2 (all_goals try cbv; all_goals repeat' (first | with_reducible exact True.intro | with_reducible refine And.intro ?_ ?_ | intro _))
    all_goals try exact oG
    all_goals try exact okA_of hA (by
      intro x hx
      rcases List.mem_cons.1 hx with hx | hx
      · rw [hx]; exact ⟨rfl, rfl⟩
      · rw [List.mem_singleton.1 hx]; exact ⟨rfl, rfl⟩)
    · rename_i g0
      have gi : i < n := by clear hexi hst; (subst hA; subst_vars; simp only [AR.std, natCast_eq, sG, reduceCtorEq] at *; try simp (disch := omega) only [AR.std, natCast_eq, sG, reduceCtorEq] at *); omega
      obtain ⟨s1, s4, e1, e4, u1, u4, g1, g2, g3, g4⟩ := hst () gi
      have hi2 : i + 1 ≤ n := by omega
      clear hexi hst g0
      refine ⟨_, g1 P C, ?_⟩
      iterate 2 (all_goals try cbv; all_goals repeat' (first | with_reducible exact True.intro | with_reducible refine And.intro ?_ ?_ | intro _))
      all_goals try exact oG
      refine ⟨_, g2 P C, ?_⟩
      iterate 2 (all_goals try cbv; all_goals repeat' (first | with_reducible exact True.intro | with_reducible refine And.intro ?_ ?_ | intro _))
      all_goals try exact oG
      refine callS hA rfl (g3 P C) ?_; rintro _ rfl
      clear g1 g2 g3
      iterate 2 (all_goals try cbv; all_goals repeat' (first | with_reducible exact True.intro | with_reducible refine And.intro ?_ ?_ | intro _))
      all_goals try exact oG
      obtain ⟨y1, hy1⟩ : ∃ y, y = i + 1 := ⟨_, rfl⟩
      obtain ⟨y2, hy2⟩ : ∃ y, y = s4 := ⟨_, rfl⟩
      obtain ⟨y3, hy3⟩ : ∃ y, y = u4 := ⟨_, rfl⟩
      obtain ⟨y4, hy4⟩ : ∃ y, y = e4 := ⟨_, rfl⟩
      refine ⟨⟨(y1, y2, y3, y4), ?_⟩, ?_, ?_⟩
      rotate_left
      · cbv
        exact nG
      · (subst hA; subst_vars; simp only [AR.std, natCast_eq, sG, reduceCtorEq] at *; try simp (disch := omega) only [AR.std, natCast_eq, sG, reduceCtorEq] at *); omega
      · rw [hy1, hy2, hy3, hy4]
        exact ⟨by simp only; omega, hi2, g4⟩
    · rename_i g0
      obtain ⟨s4, e4, u4, g1, g2⟩ := hexi (by clear hexi hst; (subst hA; subst_vars; simp only [AR.std, natCast_eq, sG, reduceCtorEq] at *; try simp (disch := omega) only [AR.std, natCast_eq, sG, reduceCtorEq] at *); omega)
      clear hexi hst g0
      refine callS hA rfl (g1 P C) ?_; rintro _ rfl
      clear g1
      iterate 2 (all_goals try cbv; all_goals repeat' (first | with_reducible exact True.intro | with_reducible refine And.intro ?_ ?_ | intro _))
      all_goals try exact oG
      obtain ⟨y1, hy1⟩ : ∃ y, y = j + 1 := ⟨_, rfl⟩
      obtain ⟨y2, hy2⟩ : ∃ y, y = s4 := ⟨_, rfl⟩
      obtain ⟨y3, hy3⟩ : ∃ y, y = u4 := ⟨_, rfl⟩
      obtain ⟨y4, hy4⟩ : ∃ y, y = e4 := ⟨_, rfl⟩
      refine ⟨⟨(y1, y2, y3, y4), ?_⟩, ?_, ?_⟩
      rotate_left
      · cbv
        exact nG
      · (subst hA; subst_vars; simp only [AR.std, natCast_eq, sG, reduceCtorEq] at *; try simp (disch := omega) only [AR.std, natCast_eq, sG, reduceCtorEq] at *); omega
      · rw [hy1, hy2, hy3, hy4]
        exact ⟨by simp only; omega, hj2, g2⟩
  · rename_i g0
    obtain ⟨g1, g2, g3⟩ := hexj (by clear hexj hmx hst0 hc0'; (subst hA; subst_vars; simp only [AR.std, natCast_eq, sG, reduceCtorEq] at *; try simp (disch := omega) only [AR.std, natCast_eq, sG, reduceCtorEq] at *); omega)
    rw [g1, g2, g3]

/-- the greatest sum of sizes of a column -/
theorem gridNorm_ex {ys : List Cell3} {d : Nat → Dyadic} {L E : Nat} {n : Int} (h1 : XL d L E ys) (hL : L ≤ 500000) (hE : E ≤ 90000) (hn : 0 ≤ n) (hn4 : n ≤ 4) (hyl : (ys.length : Int) = n * n) :
    ∃ y, X (normD n.toNat d) (L + 4 * (E + 2)) E y ∧
      ∀ (P : Program) (gl : List (Nat × Obj)) (p r : List PV), Cx P gl → p = cells3 ys → r = intsL y.2.1 → FS P gl 79 [.agg [I n, .lst p]] (· = .agg [B y.1, .lst r, I y.2.2]) := by
  have hnn : n * n = ((n.toNat * n.toNat : Nat) : Int) := by rw [Int.natCast_mul, Int.toNat_of_nonneg hn]
  obtain ⟨m, hm⟩ : ∃ m, m = n.toNat := ⟨_, rfl⟩
  rw [← hm] at hnn ⊢
  have hm4 : m ≤ 4 := by omega
  have hcol : ∀ j, j < m → ∃ c : Nat → Cell3, c 0 = noY ∧ (∀ i, i < m → ∀ gl, callP gl 128 (c i) (false, (ys.getD (i * m + j) noY).2.1, (ys.getD (i * m + j) noY).2.2) (c (i + 1))) ∧ X (colD m d j) (L + 4 * (E + 2)) E (c m) := by
    intro j hj
    obtain ⟨c, t, c0, cs, cx⟩ := chain (S := psum (fun a => absD (d (a * m + j)))) (Lf := fun k => L + k * (E + 2)) (E := E) (y0 := noY)
      (Q := fun k y t y' => ∀ gl, callP gl 128 y (false, (ys.getD (k * m + j) noY).2.1, (ys.getD (k * m + j) noY).2.2) y') X_zero (n := m) (by
        intro k y hk hx
        have hle : k * (E + 2) ≤ 4 * (E + 2) := Nat.mul_le_mul_right _ (by omega)
        have ht := X_abs (h1 (k * m + j) (by have := place_lt hk hj; omega))
        obtain ⟨y', y1, y2⟩ := xPlus hx (ht.mono (L' := L + k * (E + 2)) (by omega) (Nat.le_refl _)) (by omega) (by omega)
        refine ⟨noY, y', fun gl P p q r C h3 h4 h5 => y2 P gl p q r C h3 h4 h5, ?_⟩
        exact y1.mono (by rw [Nat.add_mul, Nat.one_mul]; omega) (Nat.le_refl _))
    exact ⟨c, c0, cs, (cx m (Nat.le_refl _)).mono (Nat.add_le_add_left (Nat.mul_le_mul_right _ hm4) _) (Nat.le_refl _)⟩
  classical
  obtain ⟨c, hc⟩ : ∃ c : Nat → Nat → Cell3, ∀ j, j < m → c j 0 = noY ∧ (∀ i, i < m → ∀ gl, callP gl 128 (c j i) (false, (ys.getD (i * m + j) noY).2.1, (ys.getD (i * m + j) noY).2.2) (c j (i + 1))) ∧ X (colD m d j) (L + 4 * (E + 2)) E (c j m) := by
    refine ⟨fun j => if hj : j < m then Classical.choose (hcol j hj) else fun _ => noY, fun j hj => ?_⟩
    simp only [dif_pos hj]
    exact Classical.choose_spec (hcol j hj)
  obtain ⟨o, t, o0, os, ox⟩ := chain (S := pmax (colD m d)) (Lf := fun _ => L + 4 * (E + 2)) (E := E) (y0 := noY)
    (Q := fun k y t y' => ∀ gl, mostP gl y (c k m) y') X_zero (n := m) (by
      intro k y hk hx
      obtain ⟨y', y1, y2⟩ := xMost hx (hc k hk).2.2 (by omega) (by omega)
      exact ⟨noY, y', fun gl P p r C h3 h4 => y2 P gl p r C h3 h4, y1⟩)
  refine ⟨o m, ox m (Nat.le_refl _), ?_⟩
  intro P gl p r C hp hr
  subst hm
  exact gridNorm_fs C hp hn hn4 hyl o0 rfl hr (fun j hj => (hc j hj).1) (fun i j hi hj => (hc j hj).2.1 i hi gl) (fun j hj => os j hj gl)

end Tryz
end Go.Proofs
