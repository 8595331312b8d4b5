/- Contracts: the sum of a diagonal in the program. -/
import Derived.Test.YthmkdfmapdbenaaDoorTM13
import Derived.Test.YthmkdfmapdbenaaDoorTEvD
namespace Go.Proofs
open Go Go.Pe Go.Dg
namespace Tryd
set_option linter.unusedSimpArgs false
set_option linter.unusedVariables false
variable {P : Program} {gl : List (Nat × Obj)}

set_option maxHeartbeats 1000000 in
set_option maxRecDepth 100000 in
theorem gridTrace_fs (C : Cx P gl) {ys : List Cell3} {p r : List PV} {n : Int} {s0 : Bool} {l0 : List Int} {e0 : Int} {c : Nat → Cell3} (hp : p = cells3 ys) (hn : 0 ≤ n) (hn4 : n ≤ 4)
    (hyl : (ys.length : Int) = n * n) (hc0 : c 0 = noY) (hcn : c n.toNat = (s0, l0, e0)) (hr : r = intsL l0)
    (hcp : ∀ i : Nat, i < n.toNat → callP gl 34 (c i) (ys.getD (i * n.toNat + i) noY) (c (i + 1))) :
    FS P gl 20 [.agg [I n, .lst p]] (· = .agg [B s0, .lst r, I e0]) := by
  have hmul : ∀ a : Int, 0 ≤ a → a < n → (a * n + a).toNat = a.toNat * n.toNat + a.toNat ∧ a * n + a < n * n := by
    intro a h1 h3
    have e1 : a * n = ((a.toNat * n.toNat : Nat) : Int) := by rw [Int.natCast_mul, Int.toNat_of_nonneg h1, Int.toNat_of_nonneg hn]
    have : (a + 1) * n ≤ n * n := Int.mul_le_mul_of_nonneg_right (by omega) hn
    rw [Int.add_mul, Int.one_mul] at this
    omega
  have hst0 : ∀ i : Int, 0 ≤ i → i < n → ∃ (s1 s4 : Bool) (e1 e4 : Int) (u1 u4 : List PV), (∀ P', Cx P' gl → FS P' gl 35 [.agg [I n, .lst p], I i, I i] (· = .agg [B s1, .lst u1, I e1])) ∧
      (∀ (P' : Program) (s : Bool) (u : List PV) (e : Int), Cx P' gl → s = (c i.toNat).1 → u = intsL (c i.toNat).2.1 → e = (c i.toNat).2.2 → FS P' gl 34 [.agg [B s, .lst u, I e], .agg [B s1, .lst u1, I e1]] (· = .agg [B s4, .lst u4, I e4])) ∧
      s4 = (c (i + 1).toNat).1 ∧ u4 = intsL (c (i + 1).toNat).2.1 ∧ e4 = (c (i + 1).toNat).2.2 := by
    intro i hi0 hi
    obtain ⟨m1, m2⟩ := hmul i hi0 hi
    have h2 := hcp i.toNat (by omega)
    refine ⟨_, _, _, _, _, _, fun P' C' => gridAt_fs C' hp hi0 hi0 hn hn4 (by omega) (by omega) (by omega) (by rw [m1]) rfl, fun P' s u e C' h3 h4 h5 => ?_, by rw [show (i + 1).toNat = i.toNat + 1 by omega], by rw [show (i + 1).toNat = i.toNat + 1 by omega], by rw [show (i + 1).toNat = i.toNat + 1 by omega]⟩
    rw [h3, h4, h5]
    exact h2 P' _ _ _ C' rfl rfl rfl
  have hfin : ∀ (s : Bool) (u : List PV) (e : Int), s = (c n.toNat).1 → u = intsL (c n.toNat).2.1 → e = (c n.toNat).2.2 → s = s0 ∧ u = r ∧ e = e0 := by
    intro s u e h1 h2 h3
    rw [h1, h2, h3, hcn, hr]
    exact ⟨rfl, rfl, rfl⟩
  clear hp hyl hr hcp hmul hcn
  obtain ⟨rfl, hG⟩ := C
  refine FS_ofT (args := fun A => [.agg [I n, .lst p]]) (R := fun A rr => rr = .agg [B s0, .lst r, I e0]) Tryd.hT Tryd.mix Tryd.func20 rfl rfl (Nat.le_of_ble_eq_true rfl) ?_
  generalize hP : Tryd.prog = P
  intro A hA
  have C : Tryd.Cx P gl := ⟨hP.symm, hG⟩
  have hI : intsL = A.ints := by subst hA; rfl
  iterate 2 (all_goals try cbv; all_goals repeat' (first | with_reducible exact True.intro | with_reducible refine And.intro ?_ ?_ | intro _))
  all_goals try exact oG
  refine loopI hA [.nilc 2 1] (ι := Int × Bool × List PV × Int) (fun x => [(7, .pv (I x.1))]) (fun x => [(2, .box [.pv (B x.2.1), .pv (.lst x.2.2.1), .pv (I x.2.2.2)])]) (fun x => (n - x.1).toNat) (fun x => 0 ≤ x.1 ∧ x.1 ≤ n ∧ x.2.1 = (c x.1.toNat).1 ∧ x.2.2.1 = intsL (c x.1.toNat).2.1 ∧ x.2.2.2 = (c x.1.toNat).2.2) (0, false, [], 0) (by rfl) ?_ ?_ ?_
  all_goals try exact tG
  · refine ⟨Int.le_refl _, hn, ?_, ?_, ?_⟩ <;> simp only [Int.toNat_zero, hc0] <;> rfl
  rintro ⟨i, s, u, e⟩ ⟨hi0, hi1, hs, hu, he⟩
  simp only at hi0 hi1 hs hu he
  have hexi : i = n → s = s0 ∧ u = r ∧ e = e0 := by
    intro h
    rw [h] at hs hu he
    exact hfin s u e hs hu he
  have hst : ∀ _ : Unit, i < n → ∃ (s1 s4 : Bool) (e1 e4 : Int) (u1 u4 : List PV), (∀ P', Cx P' gl → FS P' gl 35 [.agg [I n, .lst p], I i, I i] (· = .agg [B s1, .lst u1, I e1])) ∧
      (∀ P', Cx P' gl → FS P' gl 34 [.agg [B s, .lst u, I e], .agg [B s1, .lst u1, I e1]] (· = .agg [B s4, .lst u4, I e4])) ∧
      s4 = (c (i + 1).toNat).1 ∧ u4 = intsL (c (i + 1).toNat).2.1 ∧ e4 = (c (i + 1).toNat).2.2 := by
    intro _ hi
    obtain ⟨s1, s4, e1, e4, u1, u4, g1, g3, g4⟩ := hst0 i hi0 hi
    exact ⟨s1, s4, e1, e4, u1, u4, g1, fun P' C' => g3 P' s u e C' hs hu he, g4⟩
  clear hs hu he hst0 hfin hc0
  iterate 2 (all_goals try cbv; all_goals repeat' (first | with_reducible exact True.intro | with_reducible refine And.intro ?_ ?_ | intro _))
  all_goals try exact oG
  · rename_i g0
    have gi : i < n := by clear hexi hst; (subst hA; subst_vars; simp only [AR.std, natCast_eq, sG, reduceCtorEq] at *; try simp (disch := omega) only [AR.std, natCast_eq, sG, reduceCtorEq] at *); omega
    obtain ⟨s1, s4, e1, e4, u1, u4, g1, g3, g4⟩ := hst () gi
    have hi2 : i + 1 ≤ n := by omega
    clear hexi hst g0
    refine ⟨_, g1 P C, ?_⟩
    iterate 2 (all_goals try cbv; all_goals repeat' (first | with_reducible exact True.intro | with_reducible refine And.intro ?_ ?_ | intro _))
    all_goals try exact oG
    refine callS hA rfl (g3 P C) ?_; rintro _ rfl
    clear g1 g3
    iterate 2 (all_goals try cbv; all_goals repeat' (first | with_reducible exact True.intro | with_reducible refine And.intro ?_ ?_ | intro _))
    all_goals try exact oG
    obtain ⟨y1, hy1⟩ : ∃ y, y = i + 1 := ⟨_, rfl⟩
    obtain ⟨y2, hy2⟩ : ∃ y, y = s4 := ⟨_, rfl⟩
    obtain ⟨y3, hy3⟩ : ∃ y, y = u4 := ⟨_, rfl⟩
    obtain ⟨y4, hy4⟩ : ∃ y, y = e4 := ⟨_, rfl⟩
    refine ⟨⟨(y1, y2, y3, y4), ?_⟩, ?_, ?_⟩
    rotate_left
    · cbv
      exact nG
    · (subst hA; subst_vars; simp only [AR.std, natCast_eq, sG, reduceCtorEq] at *; try simp (disch := omega) only [AR.std, natCast_eq, sG, reduceCtorEq] at *); omega
    · rw [hy1, hy2, hy3, hy4]
      exact ⟨by simp only; omega, hi2, g4⟩
  · rename_i g0
    obtain ⟨g1, g2, g3⟩ := hexi (by clear hexi hst; (subst hA; subst_vars; simp only [AR.std, natCast_eq, sG, reduceCtorEq] at *; try simp (disch := omega) only [AR.std, natCast_eq, sG, reduceCtorEq] at *); omega)
    rw [g1, g2, g3]

/-- the sum of a diagonal -/
theorem gridTrace_ex {ys : List Cell3} {d : Nat → Dyadic} {L E : Nat} {n : Int} (h1 : XL d L E ys) (hL : L ≤ 10000) (hE : E ≤ 10000) (hn : 0 ≤ n) (hn4 : n ≤ 4) (hyl : (ys.length : Int) = n * n) :
    ∃ y, X (traceD n.toNat d) (L + 4 * (E + 2)) E y ∧
      ∀ (P : Program) (gl : List (Nat × Obj)) (p r : List PV), Cx P gl → p = cells3 ys → r = intsL y.2.1 → FS P gl 20 [.agg [I n, .lst p]] (· = .agg [B y.1, .lst r, I y.2.2]) := by
  have hnn : n * n = ((n.toNat * n.toNat : Nat) : Int) := by rw [Int.natCast_mul, Int.toNat_of_nonneg hn]
  obtain ⟨m, hm⟩ : ∃ m, m = n.toNat := ⟨_, rfl⟩
  rw [← hm] at hnn ⊢
  have hm4 : m ≤ 4 := by omega
  obtain ⟨c, t, c0, cs, cx⟩ := chain (S := psum (fun a => d (a * m + a))) (Lf := fun k => L + k * (E + 2)) (E := E) (y0 := noY)
    (Q := fun k y t y' => ∀ gl, callP gl 34 y (ys.getD (k * m + k) noY) y') X_zero (n := m) (by
      intro k y hk hx
      have hle : k * (E + 2) ≤ 4 * (E + 2) := Nat.mul_le_mul_right _ (by omega)
      have ht := h1 (k * m + k) (by have := place_lt hk hk; omega)
      obtain ⟨y', y1, y2⟩ := xPlus hx (ht.mono (L' := L + k * (E + 2)) (by omega) (Nat.le_refl _)) (by omega) (by omega)
      refine ⟨noY, y', fun gl P p q r C h3 h4 h5 => y2 P gl p q r C h3 h4 h5, ?_⟩
      exact y1.mono (by rw [Nat.add_mul, Nat.one_mul]; omega) (Nat.le_refl _))
  refine ⟨c m, (cx m (Nat.le_refl _)).mono (Nat.add_le_add_left (Nat.mul_le_mul_right _ hm4) _) (Nat.le_refl _), ?_⟩
  intro P gl p r C hp hr
  subst hm
  exact gridTrace_fs C hp hn hn4 hyl c0 rfl hr (fun i hi => cs i hi gl)

end Tryd
end Go.Proofs
