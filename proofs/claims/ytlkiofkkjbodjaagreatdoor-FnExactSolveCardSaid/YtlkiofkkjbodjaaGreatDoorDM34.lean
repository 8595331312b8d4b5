/- Contracts: determinants in the program. -/
import Derived.Test.YtlkiofkkjbodjaaGreatDoorDM33
import Derived.Test.YtlkiofkkjbodjaaGreatDoorDM13
set_option maxHeartbeats 1000000
set_option maxRecDepth 100000
namespace Go.Proofs
open Go Go.Pe Go.Dg
namespace Tryz
set_option linter.unusedSimpArgs false
set_option linter.unusedVariables false
variable {P : Program} {gl : List (Nat × Obj)}

theorem one_fs (C : Cx P gl) {p : List PV} (hp : p = intsL (dg 1)) : FS P gl 151 [] (· = .agg [B false, .lst p, I 0]) := by
 have hsm := fun (P' : Program) (C' : Cx P' gl) => small_fs C' (k := 1) (n := 1) rfl hp (by decide)
 clear hp
 refine gS C func151 rfl rfl rfl fun A hA hI => ?_
 iterate 2 all_goals try cbv; with_reducible repeat' first | exact ⟨⟩ | apply And.intro | intro _
 all_goals try exact oG
 refine callS hA rfl (hsm P C) ?_; rintro _ rfl
 iterate 2 all_goals try cbv; with_reducible repeat' first | exact ⟨⟩ | apply And.intro | intro _
 all_goals try exact oG

theorem gridDet0_fs (C : Cx P gl) {p q : List PV} (hp : p = intsL (dg 1)) : FS P gl 78 [.agg [I 0, .lst q]] (· = .agg [B false, .lst p, I 0]) := by
 have h1 := fun (P' : Program) (C' : Cx P' gl) => one_fs C' hp
 clear hp
 refine gS C func78 rfl rfl rfl fun A hA hI => ?_
 iterate 2 all_goals try cbv; with_reducible repeat' first | exact ⟨⟩ | apply And.intro | intro _
 all_goals try exact oG
 refine callS hA rfl (h1 P C) ?_; rintro _ rfl
 iterate 2 all_goals try cbv; with_reducible repeat' first | exact ⟨⟩ | apply And.intro | intro _
 all_goals try exact oG

def detStep (gl : List (Nat × Obj)) (n : Int) (ys : List Cell3) (j : Nat) (y y' : Cell3) : Prop := ∃ dt pr sg : Cell3, (∀ (P : Program) (q u : List PV) (n1 : Int), Cx P gl → n1 = n - 1 → q = cells3 (minorL n.toNat 0 j ys) → u = intsL dt.2.1 → FS P gl 78 [.agg [I n1, .lst q]] (· = .agg [B dt.1, .lst u, I dt.2.2])) ∧
 callP gl 83 (ys.getD j noY) dt pr ∧ (∀ (P : Program) (u v : List PV) (k' : Int), Cx P gl → k' = j → u = intsL pr.2.1 → v = intsL sg.2.1 → FS P gl 153 [.agg [B pr.1, .lst u, I pr.2.2], I k'] (· = .agg [B sg.1, .lst v, I sg.2.2])) ∧
 callP gl 81 y sg y'

theorem gridDet_fs (C : Cx P gl) {ys : List Cell3} {p r : List PV} {n : Int} {s0 : Bool} {l0 : List Int} {e0 : Int} {c : Nat → Cell3} (hp : p = cells3 ys) (hn : 1 ≤ n) (hn4 : n ≤ 4)
  (hyl : (ys.length : Int) = n * n) (hc0 : c 0 = noY) (hcn : c n.toNat = (s0, l0, e0)) (hr : r = intsL l0) (hst : ∀ j : Nat, j < n.toNat → detStep gl n ys j (c j) (c (j + 1))) :
  FS P gl 78 [.agg [I n, .lst p]] (· = .agg [B s0, .lst r, I e0]) := by
 have hnn : n ≤ n * n := by
  have := Int.mul_le_mul_of_nonneg_right hn (by omega : 0 ≤ n)
  omega
 have hst0 : ∀ j : Int, 0 ≤ j → j < n → ∃ (s1 s2 s3 s4 s5 : Bool) (e1 e2 e3 e4 e5 n1 : Int) (u1 u2 u3 u4 u5 q : List PV), (∀ P', Cx P' gl → FS P' gl 82 [.agg [I n, .lst p], I 0, I j] (· = .agg [B s1, .lst u1, I e1])) ∧
   (∀ P', Cx P' gl → FS P' gl 152 [.agg [I n, .lst p], I 0, I j] (· = .agg [I n1, .lst q])) ∧ (∀ P', Cx P' gl → FS P' gl 78 [.agg [I n1, .lst q]] (· = .agg [B s2, .lst u2, I e2])) ∧
   (∀ P', Cx P' gl → FS P' gl 83 [.agg [B s1, .lst u1, I e1], .agg [B s2, .lst u2, I e2]] (· = .agg [B s3, .lst u3, I e3])) ∧ (∀ P', Cx P' gl → FS P' gl 153 [.agg [B s3, .lst u3, I e3], I j] (· = .agg [B s4, .lst u4, I e4])) ∧
   (∀ (P' : Program) (s : Bool) (u : List PV) (e : Int), Cx P' gl → s = (c j.toNat).1 → u = intsL (c j.toNat).2.1 → e = (c j.toNat).2.2 → FS P' gl 81 [.agg [B s, .lst u, I e], .agg [B s4, .lst u4, I e4]] (· = .agg [B s5, .lst u5, I e5])) ∧
   s5 = (c (j + 1).toNat).1 ∧ u5 = intsL (c (j + 1).toNat).2.1 ∧ e5 = (c (j + 1).toNat).2.2 := by
  intro j hj0 hj
  obtain ⟨dt, pr, sg, h1, h2, h3, h4⟩ := hst j.toNat (by omega)
  refine ⟨(ys.getD j.toNat noY).1, dt.1, pr.1, sg.1, _, (ys.getD j.toNat noY).2.2, dt.2.2, pr.2.2, sg.2.2, _, n - 1, intsL (ys.getD j.toNat noY).2.1, intsL dt.2.1, intsL pr.2.1, intsL sg.2.1, _, cells3 (minorL n.toNat 0 j.toNat ys),
   fun P' C' => gridAt_fs C' hp (Int.le_refl _) hj0 (by omega) hn4 (by omega) (by omega) (by omega) (by rw [Int.zero_mul, Int.zero_add]) rfl, fun P' C' => gridMinor_fs C' hp hn hn4 (Int.le_refl _) (by omega) hj0 hj hyl rfl rfl,
   fun P' C' => h1 P' _ _ _ C' rfl rfl rfl, fun P' C' => h2 P' _ _ _ C' rfl rfl rfl, fun P' C' => h3 P' _ _ _ C' (by omega) rfl rfl, fun P' s u e C' g1 g2 g3 => ?_, by rw [show (j + 1).toNat = j.toNat + 1 by omega], by rw [show (j + 1).toNat = j.toNat + 1 by omega], by rw [show (j + 1).toNat = j.toNat + 1 by omega]⟩
  rw [g1, g2, g3]
  exact h4 P' _ _ _ C' rfl rfl rfl
 have hfin : ∀ (s : Bool) (u : List PV) (e : Int), s = (c n.toNat).1 → u = intsL (c n.toNat).2.1 → e = (c n.toNat).2.2 → s = s0 ∧ u = r ∧ e = e0 := by
  intro s u e h1 h2 h3
  rw [h1, h2, h3, hcn, hr]
  exact ⟨rfl, rfl, rfl⟩
 clear hp hyl hr hst hcn hnn
 refine gS C func78 rfl rfl rfl fun A hA hI => ?_
 iterate 2 all_goals try cbv; with_reducible repeat' first | exact ⟨⟩ | apply And.intro | intro _
 all_goals try exact oG
 refine loopI hA [.nilc 2 1] (ι := Int × Bool × List PV × Int) (fun x => [(11, .pv (I x.1))]) (fun x => [(2, .box [.pv (B x.2.1), .pv (.lst x.2.2.1), .pv (I x.2.2.2)])]) (fun x => (n - x.1).toNat) (fun x => 0 ≤ x.1 ∧ x.1 ≤ n ∧ x.2.1 = (c x.1.toNat).1 ∧ x.2.2.1 = intsL (c x.1.toNat).2.1 ∧ x.2.2.2 = (c x.1.toNat).2.2) (0, false, [], 0) (by rfl) ?_ ?_ ?_
 all_goals try exact tG
 ·refine ⟨Int.le_refl _, by omega, ?_, ?_, ?_⟩ <;> simp only [Int.toNat_zero, hc0] <;> rfl
 rintro ⟨i, s, u, e⟩ ⟨hi0, hi1, hs, hu, he⟩
 simp only at hi0 hi1 hs hu he
 have hexi : i = n → s = s0 ∧ u = r ∧ e = e0 := by
  intro h
  rw [h] at hs hu he
  exact hfin s u e hs hu he
 have hsx : ∀ _ : Unit, i < n → ∃ (s1 s2 s3 s4 s5 : Bool) (e1 e2 e3 e4 e5 n1 : Int) (u1 u2 u3 u4 u5 q : List PV), (∀ P', Cx P' gl → FS P' gl 82 [.agg [I n, .lst p], I 0, I i] (· = .agg [B s1, .lst u1, I e1])) ∧
   (∀ P', Cx P' gl → FS P' gl 152 [.agg [I n, .lst p], I 0, I i] (· = .agg [I n1, .lst q])) ∧ (∀ P', Cx P' gl → FS P' gl 78 [.agg [I n1, .lst q]] (· = .agg [B s2, .lst u2, I e2])) ∧
   (∀ P', Cx P' gl → FS P' gl 83 [.agg [B s1, .lst u1, I e1], .agg [B s2, .lst u2, I e2]] (· = .agg [B s3, .lst u3, I e3])) ∧ (∀ P', Cx P' gl → FS P' gl 153 [.agg [B s3, .lst u3, I e3], I i] (· = .agg [B s4, .lst u4, I e4])) ∧
   (∀ P', Cx P' gl → FS P' gl 81 [.agg [B s, .lst u, I e], .agg [B s4, .lst u4, I e4]] (· = .agg [B s5, .lst u5, I e5])) ∧
   s5 = (c (i + 1).toNat).1 ∧ u5 = intsL (c (i + 1).toNat).2.1 ∧ e5 = (c (i + 1).toNat).2.2 := by
  intro _ hi
  obtain ⟨s1, s2, s3, s4, s5, e1, e2, e3, e4, e5, n1, u1, u2, u3, u4, u5, q, g1, g2, g3, g4, g5, g6, g7⟩ := hst0 i hi0 hi
  exact ⟨s1, s2, s3, s4, s5, e1, e2, e3, e4, e5, n1, u1, u2, u3, u4, u5, q, g1, g2, g3, g4, g5, fun P' C' => g6 P' s u e C' hs hu he, g7⟩
 clear hs hu he hst0 hfin hc0
 iterate 2 all_goals try cbv; with_reducible repeat' first | exact ⟨⟩ | apply And.intro | intro _
 all_goals try exact oG
 ·rename_i g0
  have gi : i < n := by clear hexi hsx; exact eG
  obtain ⟨s1, s2, s3, s4, s5, e1, e2, e3, e4, e5, n1, u1, u2, u3, u4, u5, q, g1, g2, g3, g4, g5, g6, g7⟩ := hsx () gi
  have hi2 : i + 1 ≤ n := by omega
  clear hexi hsx g0
  refine ⟨_, g1 P C, ?_⟩
  iterate 2 all_goals try cbv; with_reducible repeat' first | exact ⟨⟩ | apply And.intro | intro _
  all_goals try exact oG
  refine ⟨_, g2 P C, ?_⟩
  iterate 2 all_goals try cbv; with_reducible repeat' first | exact ⟨⟩ | apply And.intro | intro _
  all_goals try exact oG
  refine ⟨_, g3 P C, ?_⟩
  iterate 2 all_goals try cbv; with_reducible repeat' first | exact ⟨⟩ | apply And.intro | intro _
  all_goals try exact oG
  refine ⟨_, g4 P C, ?_⟩
  iterate 2 all_goals try cbv; with_reducible repeat' first | exact ⟨⟩ | apply And.intro | intro _
  all_goals try exact oG
  refine ⟨_, g5 P C, ?_⟩
  iterate 2 all_goals try cbv; with_reducible repeat' first | exact ⟨⟩ | apply And.intro | intro _
  all_goals try exact oG
  refine callS hA rfl (g6 P C) ?_; rintro _ rfl
  clear g1 g2 g3 g4 g5 g6
  iterate 2 all_goals try cbv; with_reducible repeat' first | exact ⟨⟩ | apply And.intro | intro _
  all_goals try exact oG
  obtain ⟨y1, hy1⟩ : ∃ y, y = i + 1 := ⟨_, rfl⟩
  obtain ⟨y2, hy2⟩ : ∃ y, y = s5 := ⟨_, rfl⟩
  obtain ⟨y3, hy3⟩ : ∃ y, y = u5 := ⟨_, rfl⟩
  obtain ⟨y4, hy4⟩ : ∃ y, y = e5 := ⟨_, rfl⟩
  refine ⟨⟨(y1, y2, y3, y4), ?_⟩, ?_, ?_⟩
  rotate_left
  ·cbv
   exact nG
  ·exact eG
  ·rw [hy1, hy2, hy3, hy4]
   exact ⟨by simp only; omega, hi2, g7⟩
 ·rename_i g0
  obtain ⟨g1, g2, g3⟩ := hexi (by clear hexi hsx; exact eG)
  rw [g1, g2, g3]

theorem gridDet_ex' : ∀ (m : Nat), m ≤ 4 → ∀ {ys : List Cell3} {d : Nat → Dyadic}, XL d 100 3000 ys → ys.length = m * m → ∃ y, X (detD m d) (50000 * m + 1) (3000 * m) y ∧
  ∀ (P : Program) (gl : List (Nat × Obj)) (p r : List PV) (n : Int), Cx P gl → n = m → p = cells3 ys → r = intsL y.2.1 → FS P gl 78 [.agg [I n, .lst p]] (· = .agg [B y.1, .lst r, I y.2.2])
 | 0, _, ys, d, h, hy => by
  refine ⟨(false, dg 1, 0), ⟨1, rfl, rfl, rfl, by show (dg 1).length ≤ 1; exact dg_len_le 1 _ (by decide), Nat.zero_le _⟩, ?_⟩
  intro P gl p r n C hn hp hr
  obtain rfl : n = 0 := hn
  exact gridDet0_fs C hr
 | m + 1, hm, ys, d, h, hy => by
  have hm3 : m ≤ 3 := by omega
  have IH := fun (j : Nat) (hj : j < m + 1) => gridDet_ex' m (by omega) (minor_XL (r := 0) (c := j) h hy) (by rw [minorL_len, idxL_len hm (by omega) hj, Nat.add_sub_cancel])
  obtain ⟨c, t, c0, cs, cx⟩ := chain (S := psum (fun j => sgnD j (d j * detD m (minorD (m + 1) 0 j d)))) (Lf := fun k => 100 + (50000 * m + 1) + k * (3000 + 3000 * m + 2)) (E := 3000 + 3000 * m) (y0 := noY)
   (Q := fun j y t y' => ∀ gl, detStep gl ((m + 1 : Nat) : Int) ys j y y') X_zero (n := m + 1) (by
    intro j y hj hx
    have hle : j * (3000 + 3000 * m + 2) ≤ 4 * 12002 := Nat.mul_le_mul (by omega) (by omega)
    have hjl : j < ys.length := by
     rw [hy]
     exact Nat.lt_of_lt_of_le hj (Nat.le_mul_of_pos_right _ (by omega))
    obtain ⟨dt, dx, dc⟩ := IH j hj
    obtain ⟨pr, px, pc⟩ := xTimes (h j hjl) dx (by omega) (by omega) (by omega) (by omega)
    obtain ⟨sg, sx, sc⟩ := xSigned px (by omega) j (by omega)
    obtain ⟨y', yx, yc⟩ := xPlus hx (sx.mono (L' := 100 + (50000 * m + 1) + j * (3000 + 3000 * m + 2)) (by omega) (Nat.le_refl _)) (by omega) (by omega)
    refine ⟨noY, y', fun gl => ⟨dt, pr, sg, ?_, fun P p q r C h3 h4 h5 => pc P gl p q r C h3 h4 h5, fun P u v k' C h1 h2 h3 => sc P gl u v k' C h1 h2 h3, fun P p q r C h3 h4 h5 => yc P gl p q r C h3 h4 h5⟩, ?_⟩
    ·intro P q u n1 C h1 h2 h3
     exact dc P gl q u n1 C (by omega) h2 h3
    ·exact yx.mono (by rw [Nat.add_mul, Nat.one_mul]; omega) (Nat.le_refl _))
  have hb : 100 + (50000 * m + 1) + (m + 1) * (3000 + 3000 * m + 2) ≤ 50000 * (m + 1) + 1 := by
   rcases (by omega : m = 0 ∨ m = 1 ∨ m = 2 ∨ m = 3) with rfl | rfl | rfl | rfl <;> decide
  refine ⟨c (m + 1), (cx (m + 1) (Nat.le_refl _)).mono hb (by omega), ?_⟩
  intro P gl p r n C hn hp hr
  subst hn
  exact gridDet_fs C hp (by omega) (by omega) (by rw [hy]; exact Int.natCast_mul _ _) c0 rfl hr (fun j hj => cs j hj gl)

theorem gridDet_ex {ys : List Cell3} {d : Nat → Dyadic} {L E : Nat} {n : Int} (h1 : XL d L E ys) (hL : L ≤ 100) (hE : E ≤ 3000) (hn : 0 ≤ n) (hn4 : n ≤ 4) (hyl : (ys.length : Int) = n * n) :
  ∃ y, X (detD n.toNat d) 200001 12000 y ∧
   ∀ (P : Program) (gl : List (Nat × Obj)) (p r : List PV), Cx P gl → p = cells3 ys → r = intsL y.2.1 → FS P gl 78 [.agg [I n, .lst p]] (· = .agg [B y.1, .lst r, I y.2.2]) := by
 have hnn : n * n = ((n.toNat * n.toNat : Nat) : Int) := by rw [Int.natCast_mul, Int.toNat_of_nonneg hn]
 obtain ⟨y, h2, h3⟩ := gridDet_ex' n.toNat (by omega) (h1.mono hL hE) (by omega)
 exact ⟨y, h2.mono (by omega) (by omega), fun P gl p r C hp hr => h3 P gl p r n C (by omega) hp hr⟩

end Tryz
end Go.Proofs
