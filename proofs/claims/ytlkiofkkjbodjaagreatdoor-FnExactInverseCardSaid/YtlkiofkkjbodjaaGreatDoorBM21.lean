/- Contracts: the greatest sum of sizes in the program. -/
import Derived.Test.YtlkiofkkjbodjaaGreatDoorBM20
import Derived.Test.YtlkiofkkjbodjaaGreatDoorBM13
set_option maxHeartbeats 1000000
set_option maxRecDepth 100000
namespace Go.Proofs
open Go Go.Pe Go.Dg
namespace Tryz
set_option linter.unusedSimpArgs false
set_option linter.unusedVariables false
variable {P : Program} {gl : List (Nat × Obj)}

def aT6 (gl : List (Nat × Obj)) (y1 y2 y : aC) : Prop := ∀ (P : Program) (p r : List PV), Cx P gl → p = aB [y1, y2] → r = aA y.2.1 → FS P gl 163 [.lst p] (· = .agg [B y.1, .lst r, I y.2.2])

theorem aF5 (C : Cx P gl) {ys : List aC} {p r : List PV} {n : Int} {s0 : Bool} {l0 : List Int} {e0 : Int} {c : Nat → Nat → aC} {o : Nat → aC} (hp : p = aB ys) (hn : 0 ≤ n) (hn4 : n ≤ 4)
  (hyl : (ys.length : Int) = n * n) (ho0 : o 0 = noY) (hon : o n.toNat = (s0, l0, e0)) (hr : r = aA l0) (hc0 : ∀ j, j < n.toNat → c j 0 = noY)
  (hcp : ∀ i j : Nat, i < n.toNat → j < n.toNat → lO gl 81 (c j i) (false, (ys.getD (i * n.toNat + j) noY).2.1, (ys.getD (i * n.toNat + j) noY).2.2) (c j (i + 1)))
  (hmp : ∀ j : Nat, j < n.toNat → aT6 gl (o j) (c j n.toNat) (o (j + 1))) :
  FS P gl 99 [.agg [I n, .lst p]] (· = .agg [B s0, .lst r, I e0]) := by
 have hmul : ∀ a b : Int, 0 ≤ a → 0 ≤ b → a < n → b < n → (a * n + b).toNat = a.toNat * n.toNat + b.toNat ∧ a * n + b < n * n := by
  intro a b h1 h2 h3 h4
  have e1 : a * n = ((a.toNat * n.toNat : Nat) : Int) := by rw [Int.natCast_mul, Int.toNat_of_nonneg h1, Int.toNat_of_nonneg hn]
  have : (a + 1) * n ≤ n * n := Int.mul_le_mul_of_nonneg_right (by omega) hn
  rw [Int.add_mul, Int.one_mul] at this
  omega
 have aA3 : ∀ i j : Int, 0 ≤ i → 0 ≤ j → i < n → j < n → ∃ (s1 s4 : Bool) (e1 e4 : Int) (u1 u4 : List PV), (∀ P', Cx P' gl → FS P' gl 82 [.agg [I n, .lst p], I i, I j] (· = .agg [B s1, .lst u1, I e1])) ∧
   (∀ P', Cx P' gl → FS P' gl 176 [.agg [B s1, .lst u1, I e1]] (· = .agg [B false, .lst u1, I e1])) ∧
   (∀ (P' : Program) (s : Bool) (u : List PV) (e : Int), Cx P' gl → s = (c j.toNat i.toNat).1 → u = aA (c j.toNat i.toNat).2.1 → e = (c j.toNat i.toNat).2.2 → FS P' gl 81 [.agg [B s, .lst u, I e], .agg [B false, .lst u1, I e1]] (· = .agg [B s4, .lst u4, I e4])) ∧
   s4 = (c j.toNat (i + 1).toNat).1 ∧ u4 = aA (c j.toNat (i + 1).toNat).2.1 ∧ e4 = (c j.toNat (i + 1).toNat).2.2 := by
  intro i j hi0 hj0 hi hj
  obtain ⟨m1, m2⟩ := hmul i j hi0 hj0 hi hj
  have h2 := hcp i.toNat j.toNat (by omega) (by omega)
  refine ⟨_, _, _, _, _, _, fun P' C' => gL C' hp hi0 hj0 hn hn4 (by omega) (by omega) (by omega) (by rw [m1]) rfl, fun P' C' => aF4 C', fun P' s u e C' h3 h4 h5 => ?_, by rw [show (i + 1).toNat = i.toNat + 1 by omega], by rw [show (i + 1).toNat = i.toNat + 1 by omega], by rw [show (i + 1).toNat = i.toNat + 1 by omega]⟩
  rw [h3, h4, h5]
  exact h2 P' _ _ _ C' rfl rfl rfl
 have aXR : ∀ j : Int, 0 ≤ j → j < n → ∀ (s t : Bool) (u v : List PV) (e g : Int), s = (o j.toNat).1 → u = aA (o j.toNat).2.1 → e = (o j.toNat).2.2 → t = (c j.toNat n.toNat).1 → v = aA (c j.toNat n.toNat).2.1 → g = (c j.toNat n.toNat).2.2 →
   ∃ (s4 : Bool) (e4 : Int) (u4 : List PV), (∀ P', Cx P' gl → FS P' gl 163 [.lst [.agg [B s, .lst u, I e], .agg [B t, .lst v, I g]]] (· = .agg [B s4, .lst u4, I e4])) ∧ s4 = (o (j + 1).toNat).1 ∧ u4 = aA (o (j + 1).toNat).2.1 ∧ e4 = (o (j + 1).toNat).2.2 := by
  intro j hj0 hj s t u v e g h1 h2 h3 h4 h5 h6
  refine ⟨_, _, _, fun P' C' => hmp j.toNat (by omega) P' _ _ C' ?_ rfl, by rw [show (j + 1).toNat = j.toNat + 1 by omega], by rw [show (j + 1).toNat = j.toNat + 1 by omega], by rw [show (j + 1).toNat = j.toNat + 1 by omega]⟩
  rw [h1, h2, h3, h4, h5, h6]
  rfl
 have hc0' : ∀ j : Int, 0 ≤ j → j < n → false = (c j.toNat (0 : Int).toNat).1 ∧ [] = aA (c j.toNat (0 : Int).toNat).2.1 ∧ (0 : Int) = (c j.toNat (0 : Int).toNat).2.2 := by
  intro j hj0 hj
  rw [Int.toNat_zero, hc0 j.toNat (by omega)]
  exact ⟨rfl, rfl, rfl⟩
 have fH : ∀ (s : Bool) (u : List PV) (e : Int), s = (o n.toNat).1 → u = aA (o n.toNat).2.1 → e = (o n.toNat).2.2 → s = s0 ∧ u = r ∧ e = e0 := by
  intro s u e h1 h2 h3
  rw [h1, h2, h3, hon, hr]
  exact ⟨rfl, rfl, rfl⟩
 clear hp hyl hr hcp hmp hmul hc0 hon
 refine gS C func99 rfl rfl rfl fun A hA hI => ?_
 iterate 2 all_goals try cbv; with_reducible repeat' first | exact ⟨⟩ | apply And.intro | intro _
 all_goals try exact oG
 refine aZ hA [.nilc 2 1] (ι := Int × Bool × List PV × Int) (fun x => [(9, .pv (I x.1))]) (fun x => [(2, .box [.pv (B x.2.1), .pv (.lst x.2.2.1), .pv (I x.2.2.2)])]) (fun x => (n - x.1).toNat) (fun x => 0 ≤ x.1 ∧ x.1 ≤ n ∧ x.2.1 = (o x.1.toNat).1 ∧ x.2.2.1 = aA (o x.1.toNat).2.1 ∧ x.2.2.2 = (o x.1.toNat).2.2) (0, false, [], 0) (by rfl) ?_ ?_ ?_
 all_goals try exact tG
 ·refine ⟨Int.le_refl _, hn, ?_, ?_, ?_⟩ <;> simp only [Int.toNat_zero, ho0] <;> rfl
 rintro ⟨j, s, u, e⟩ ⟨hj0, hj1, hs, hu, he⟩
 simp only at hj0 hj1 hs hu he
 have rP : j = n → s = s0 ∧ u = r ∧ e = e0 := by
  intro h
  rw [h] at hs hu he
  exact fH s u e hs hu he
 have hmx : ∀ _ : Unit, j < n → ∀ (t : Bool) (v : List PV) (g : Int), t = (c j.toNat n.toNat).1 → v = aA (c j.toNat n.toNat).2.1 → g = (c j.toNat n.toNat).2.2 →
   ∃ (s4 : Bool) (e4 : Int) (u4 : List PV), (∀ P', Cx P' gl → FS P' gl 163 [.lst [.agg [B s, .lst u, I e], .agg [B t, .lst v, I g]]] (· = .agg [B s4, .lst u4, I e4])) ∧ s4 = (o (j + 1).toNat).1 ∧ u4 = aA (o (j + 1).toNat).2.1 ∧ e4 = (o (j + 1).toNat).2.2 :=
  fun _ hj t v g k1 k2 k3 => aXR j hj0 hj s t u v e g hs hu he k1 k2 k3
 clear hs hu he aXR fH ho0
 iterate 2 all_goals try cbv; with_reducible repeat' first | exact ⟨⟩ | apply And.intro | intro _
 all_goals try exact oG
 ·rename_i g0
  have gj : j < n := by clear rP hmx aA3 hc0'; exact eG
  have hj2 : j + 1 ≤ n := by omega
  have aXS := hmx () gj
  have hc1 := hc0' j hj0 gj
  clear g0 rP hmx hc0'
  refine aZ hA [.nilc 3 1] (ι := Int × Bool × List PV × Int) (fun x => [(14, .pv (I x.1))]) (fun x => [(3, .box [.pv (B x.2.1), .pv (.lst x.2.2.1), .pv (I x.2.2.2)])]) (fun x => (n - x.1).toNat) (fun x => 0 ≤ x.1 ∧ x.1 ≤ n ∧ x.2.1 = (c j.toNat x.1.toNat).1 ∧ x.2.2.1 = aA (c j.toNat x.1.toNat).2.1 ∧ x.2.2.2 = (c j.toNat x.1.toNat).2.2) (0, false, [], 0) (by rfl) ?_ ?_ ?_
  all_goals try exact tG
  ·exact ⟨Int.le_refl _, hn, hc1⟩
  rintro ⟨i, t, v, g⟩ ⟨hi0, hi1, ht, hv, hg⟩
  simp only at hi0 hi1 ht hv hg
  clear hc1
  have fI : i = n → ∃ (s4 : Bool) (e4 : Int) (u4 : List PV), (∀ P', Cx P' gl → FS P' gl 163 [.lst [.agg [B s, .lst u, I e], .agg [B t, .lst v, I g]]] (· = .agg [B s4, .lst u4, I e4])) ∧ s4 = (o (j + 1).toNat).1 ∧ u4 = aA (o (j + 1).toNat).2.1 ∧ e4 = (o (j + 1).toNat).2.2 := by
   intro h
   rw [h] at ht hv hg
   exact aXS t v g ht hv hg
  have hst : ∀ _ : Unit, i < n → ∃ (s1 s4 : Bool) (e1 e4 : Int) (u1 u4 : List PV), (∀ P', Cx P' gl → FS P' gl 82 [.agg [I n, .lst p], I i, I j] (· = .agg [B s1, .lst u1, I e1])) ∧
    (∀ P', Cx P' gl → FS P' gl 176 [.agg [B s1, .lst u1, I e1]] (· = .agg [B false, .lst u1, I e1])) ∧
    (∀ P', Cx P' gl → FS P' gl 81 [.agg [B t, .lst v, I g], .agg [B false, .lst u1, I e1]] (· = .agg [B s4, .lst u4, I e4])) ∧
    s4 = (c j.toNat (i + 1).toNat).1 ∧ u4 = aA (c j.toNat (i + 1).toNat).2.1 ∧ e4 = (c j.toNat (i + 1).toNat).2.2 := by
   intro _ hi
   obtain ⟨s1, s4, e1, e4, u1, u4, g1, g2, g3, g4⟩ := aA3 i j hi0 hj0 hi gj
   exact ⟨s1, s4, e1, e4, u1, u4, g1, g2, fun P' C' => g3 P' t v g C' ht hv hg, g4⟩
  clear ht hv hg aA3 aXS
  iterate 2 all_goals try cbv; with_reducible repeat' first | exact ⟨⟩ | apply And.intro | intro _
  all_goals try exact oG
  all_goals try exact kP hA (by
   intro x hx
   rcases List.mem_cons.1 hx with hx | hx
   ·rw [hx]; exact ⟨rfl, rfl⟩
   ·rw [List.mem_singleton.1 hx]; exact ⟨rfl, rfl⟩)
  ·rename_i g0
   have gi : i < n := by clear fI hst; exact eG
   obtain ⟨s1, s4, e1, e4, u1, u4, g1, g2, g3, g4⟩ := hst () gi
   have hi2 : i + 1 ≤ n := by omega
   clear fI hst g0
   refine ⟨_, g1 P C, ?_⟩
   iterate 2 all_goals try cbv; with_reducible repeat' first | exact ⟨⟩ | apply And.intro | intro _
   all_goals try exact oG
   refine ⟨_, g2 P C, ?_⟩
   iterate 2 all_goals try cbv; with_reducible repeat' first | exact ⟨⟩ | apply And.intro | intro _
   all_goals try exact oG
   refine aD hA rfl (g3 P C) ?_; rintro _ rfl
   clear g1 g2 g3
   iterate 2 all_goals try cbv; with_reducible repeat' first | exact ⟨⟩ | apply And.intro | intro _
   all_goals try exact oG
   obtain ⟨y1, hy1⟩ : ∃ y, y = i + 1 := ⟨_, rfl⟩
   obtain ⟨y2, hy2⟩ : ∃ y, y = s4 := ⟨_, rfl⟩
   obtain ⟨y3, hy3⟩ : ∃ y, y = u4 := ⟨_, rfl⟩
   obtain ⟨y4, hy4⟩ : ∃ y, y = e4 := ⟨_, rfl⟩
   refine ⟨⟨(y1, y2, y3, y4), ?_⟩, ?_, ?_⟩
   rotate_left
   ·cbv
    exact nG
   ·exact eG
   ·rw [hy1, hy2, hy3, hy4]
    exact ⟨by simp only; omega, hi2, g4⟩
  ·rename_i g0
   obtain ⟨s4, e4, u4, g1, g2⟩ := fI (by clear fI hst; exact eG)
   clear fI hst g0
   refine aD hA rfl (g1 P C) ?_; rintro _ rfl
   clear g1
   iterate 2 all_goals try cbv; with_reducible repeat' first | exact ⟨⟩ | apply And.intro | intro _
   all_goals try exact oG
   obtain ⟨y1, hy1⟩ : ∃ y, y = j + 1 := ⟨_, rfl⟩
   obtain ⟨y2, hy2⟩ : ∃ y, y = s4 := ⟨_, rfl⟩
   obtain ⟨y3, hy3⟩ : ∃ y, y = u4 := ⟨_, rfl⟩
   obtain ⟨y4, hy4⟩ : ∃ y, y = e4 := ⟨_, rfl⟩
   refine ⟨⟨(y1, y2, y3, y4), ?_⟩, ?_, ?_⟩
   rotate_left
   ·cbv
    exact nG
   ·exact eG
   ·rw [hy1, hy2, hy3, hy4]
    exact ⟨by simp only; omega, hj2, g2⟩
 ·rename_i g0
  obtain ⟨g1, g2, g3⟩ := rP (by clear rP hmx aA3 hc0'; exact eG)
  rw [g1, g2, g3]

theorem pP {ys : List aC} {d : Nat → Dyadic} {L E : Nat} {n : Int} (h1 : XL d L E ys) (hL : L ≤ 500000) (hE : E ≤ 90000) (hn : 0 ≤ n) (hn4 : n ≤ 4) (hyl : (ys.length : Int) = n * n) :
  ∃ y, X (jH n.toNat d) (L + 4 * (E + 2)) E y ∧
   ∀ (P : Program) (gl : List (Nat × Obj)) (p r : List PV), Cx P gl → p = aB ys → r = aA y.2.1 → FS P gl 99 [.agg [I n, .lst p]] (· = .agg [B y.1, .lst r, I y.2.2]) := by
 have hnn : n * n = ((n.toNat * n.toNat : Nat) : Int) := by rw [Int.natCast_mul, Int.toNat_of_nonneg hn]
 obtain ⟨m, hm⟩ : ∃ m, m = n.toNat := ⟨_, rfl⟩
 rw [← hm] at hnn ⊢
 have hm4 : m ≤ 4 := by omega
 have aQP : ∀ j, j < m → ∃ c : Nat → aC, c 0 = noY ∧ (∀ i, i < m → ∀ gl, lO gl 81 (c i) (false, (ys.getD (i * m + j) noY).2.1, (ys.getD (i * m + j) noY).2.2) (c (i + 1))) ∧ X (jQ m d j) (L + 4 * (E + 2)) E (c m) := by
  intro j hj
  obtain ⟨c, t, c0, cs, cx⟩ := chain (S := bF (fun a => fO (d (a * m + j)))) (Lf := fun k => L + k * (E + 2)) (E := E) (y0 := noY)
   (Q := fun k y t y' => ∀ gl, lO gl 81 y (false, (ys.getD (k * m + j) noY).2.1, (ys.getD (k * m + j) noY).2.2) y') zE (n := m) (by
    intro k y hk hx
    have hle : k * (E + 2) ≤ 4 * (E + 2) := Nat.mul_le_mul_right _ (by omega)
    have ht := aXM (h1 (k * m + j) (by have := bQ hk hj; omega))
    obtain ⟨y', y1, y2⟩ := aQI hx (ht.mono (L' := L + k * (E + 2)) (by omega) (Nat.le_refl _)) (by omega) (by omega)
    refine ⟨noY, y', fun gl P p q r C h3 h4 h5 => y2 P gl p q r C h3 h4 h5, ?_⟩
    exact y1.mono (by rw [Nat.add_mul, Nat.one_mul]; omega) (Nat.le_refl _))
  exact ⟨c, c0, cs, (cx m (Nat.le_refl _)).mono (Nat.add_le_add_left (Nat.mul_le_mul_right _ hm4) _) (Nat.le_refl _)⟩
 classical
 obtain ⟨c, hc⟩ : ∃ c : Nat → Nat → aC, ∀ j, j < m → c j 0 = noY ∧ (∀ i, i < m → ∀ gl, lO gl 81 (c j i) (false, (ys.getD (i * m + j) noY).2.1, (ys.getD (i * m + j) noY).2.2) (c j (i + 1))) ∧ X (jQ m d j) (L + 4 * (E + 2)) E (c j m) := by
  refine ⟨fun j => if hj : j < m then Classical.choose (aQP j hj) else fun _ => noY, fun j hj => ?_⟩
  simp only [dif_pos hj]
  exact Classical.choose_spec (aQP j hj)
 obtain ⟨o, t, o0, os, ox⟩ := chain (S := eT (jQ m d)) (Lf := fun _ => L + 4 * (E + 2)) (E := E) (y0 := noY)
  (Q := fun k y t y' => ∀ gl, aT6 gl y (c k m) y') zE (n := m) (by
   intro k y hk hx
   obtain ⟨y', y1, y2⟩ := aXQ hx (hc k hk).2.2 (by omega) (by omega)
   exact ⟨noY, y', fun gl P p r C h3 h4 => y2 P gl p r C h3 h4, y1⟩)
 refine ⟨o m, ox m (Nat.le_refl _), ?_⟩
 intro P gl p r C hp hr
 subst hm
 exact aF5 C hp hn hn4 hyl o0 rfl hr (fun j hj => (hc j hj).1) (fun i j hi hj => (hc j hj).2.1 i hi gl) (fun j hj => os j hj gl)

end Tryz
end Go.Proofs
