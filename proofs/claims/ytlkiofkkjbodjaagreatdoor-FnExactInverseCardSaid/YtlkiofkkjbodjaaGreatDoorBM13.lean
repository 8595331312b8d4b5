/- Contracts: products of numbers in any form, sums of products. -/
import Derived.Test.YtlkiofkkjbodjaaGreatDoorBM6
set_option maxHeartbeats 1000000
set_option maxRecDepth 100000
namespace Go.Proofs
open Go Go.Pe Go.Dg
namespace Tryz
set_option linter.unusedSimpArgs false
set_option linter.unusedVariables false
variable {P : Program} {gl : List (Nat × Obj)}

theorem aA1 (C : Cx P gl) {z1 e1 z2 e2 w f : Int} {p q r : List PV} {s t u : Bool} (hp : p = aA (dg z1.natAbs)) (hs : s = decide (z1 < 0)) (hq : q = aA (dg z2.natAbs)) (ht : t = decide (z2 < 0))
  (hw : w = z1 * z2) (hf : f = e1 + e2) (hr : r = aA (dg w.natAbs)) (hu : u = decide (w < 0))
  (h1 : e1.natAbs ≤ 100000) (h2 : e2.natAbs ≤ 100000) (hl : (dg z1.natAbs).length ≤ 1000000) (hm : (dg z2.natAbs).length ≤ 1000000) :
  FS P gl 83 [.agg [B s, .lst p, I e1], .agg [B t, .lst q, I e2]] (· = .agg [B u, .lst r, I f]) := by
 have hv : val (dg z1.natAbs) * val (dg z2.natAbs) = ((w.natAbs : Nat) : Int) := by
  rw [aQ, aQ, hw, Int.natAbs_mul, Int.natCast_mul]
 have hc := fun (P' : Program) (C' : Cx P' gl) => aQF C' hp hq (aI _) (aI _) hv hr (by omega)
 have hz : decide (0 < (dg w.natAbs).length) = decide (w ≠ 0) := by
  have := cO (n := w.natAbs)
  rw [decide_eq_decide]
  omega
 have hsg : (xor s t && decide (w ≠ 0)) = u := by
  rw [hu, hs, ht, hw]
  rcases Int.lt_trichotomy z1 0 with a | a | a <;> rcases Int.lt_trichotomy z2 0 with b | b | b
  ·have := Int.mul_pos_of_neg_of_neg a b
   simp [a, b]; omega
  ·simp [b]
  ·have := Int.mul_neg_of_neg_of_pos a b
   simp [a, Int.not_lt.2 (Int.le_of_lt b), this]; omega
  ·simp [a]
  ·simp [a]
  ·simp [a]
  ·have := Int.mul_neg_of_pos_of_neg a b
   simp [b, Int.not_lt.2 (Int.le_of_lt a), this]; omega
  ·simp [b]
  ·have := Int.mul_pos a b
   simp [Int.not_lt.2 (Int.le_of_lt a), Int.not_lt.2 (Int.le_of_lt b)]; omega
 obtain ⟨m, hm'⟩ : ∃ m, m = (dg w.natAbs).length := ⟨_, rfl⟩
 have hrl : r.length = m := by rw [hr, bC, hm']
 rw [← hm'] at hz
 clear hp hs hq ht hw hr hu hv hm'
 refine gS C func83 rfl rfl rfl fun A hA hI => ?_
 have he : A.add .i64 e1 e2 = f := by clear hsg hz hrl hc; (subst hA; subst_vars; simp only [AR.std, bBG, sG, reduceCtorEq] at *; try simp (disch := omega) only [AR.std, bBG, sG, reduceCtorEq] at *)
 have hb : A.pick (A.bnot (A.beq s t)) (A.lt 0 (A.cast (A.len r))) false = u := by
  have e2 : A.lt 0 (A.cast (A.len r)) = decide (w ≠ 0) := by
   rw [← hz, ← hrl]
   clear hsg hz hrl hc he
   subst hA
   simp [AR.std]
  rw [e2, ← hsg]
  clear hsg hz hrl hc he e2
  subst hA
  cases s <;> cases t <;> simp [AR.std]
 iterate 2 all_goals try cbv; with_reducible repeat' first | exact ⟨⟩ | apply And.intro | intro _
 all_goals try exact oG
 refine aD hA rfl (hc P C) ?_; rintro _ rfl
 iterate 2 all_goals try cbv; with_reducible repeat' first | exact ⟨⟩ | apply And.intro | intro _
 all_goals try exact oG
 simp only [he, hb]

theorem aQG {d1 d2 : Dyadic} {L E L2 E2 : Nat} {y1 y2 : aC} (h1 : X d1 L E y1) (h2 : X d2 L2 E2 y2) (hL : L ≤ 1000000) (hE : E ≤ 100000) (hL2 : L2 ≤ 1000000) (hE2 : E2 ≤ 100000) : ∃ y, X (d1 * d2) (L + L2) (E + E2) y ∧
  ∀ (P : Program) (gl : List (Nat × Obj)) (p q r : List PV), Cx P gl → p = aA y1.2.1 → q = aA y2.2.1 → r = aA y.2.1 → FS P gl 83 [.agg [B y1.1, .lst p, I y1.2.2], .agg [B y2.1, .lst q, I y2.2.2]] (· = .agg [B y.1, .lst r, I y.2.2]) := by
 obtain ⟨z1, a1, a2, a3, a4, a5⟩ := h1
 obtain ⟨z2, b1, b2, b3, b4, b5⟩ := h2
 refine ⟨(decide (z1 * z2 < 0), dg (z1 * z2).natAbs, y1.2.2 + y2.2.2), ⟨z1 * z2, rfl, rfl, by rw [a3, b3, aHW], ?_, ?_⟩, ?_⟩
 ·rw [Int.natAbs_mul]; exact rO a4 b4
 ·simp only; omega
 ·intro P gl p q r C hp hq hr
  exact aA1 C (by rw [hp, a2]) a1 (by rw [hq, b2]) b1 rfl rfl hr rfl (by omega) (by omega) (by omega) (by omega)

def lO (gl : List (Nat × Obj)) (f : FuncId) (y1 y2 y : aC) : Prop := ∀ (P : Program) (p q r : List PV), Cx P gl → p = aA y1.2.1 → q = aA y2.2.1 → r = aA y.2.1 → FS P gl f [.agg [B y1.1, .lst p, I y1.2.2], .agg [B y2.1, .lst q, I y2.2.2]] (· = .agg [B y.1, .lst r, I y.2.2])

theorem aA2 (C : Cx P gl) {ys zs : List aC} {p q r : List PV} {n i j : Int} {s0 : Bool} {l0 : List Int} {e0 : Int} {c t : Nat → aC} (hp : p = aB ys) (hq : q = aB zs) (hi : 0 ≤ i) (hj : 0 ≤ j) (hn : 0 ≤ n) (hn4 : n ≤ 4) (hi4 : i < n) (hj4 : j < n)
  (hyl : (ys.length : Int) = n * n) (hzl : (zs.length : Int) = n * n) (hc0 : c 0 = noY) (hcn : c n.toNat = (s0, l0, e0)) (hr : r = aA l0)
  (ht : ∀ k : Nat, k < n.toNat → lO gl 83 (ys.getD (i.toNat * n.toNat + k) noY) (zs.getD (k * n.toNat + j.toNat) noY) (t k)) (hcp : ∀ k : Nat, k < n.toNat → lO gl 81 (c k) (t k) (c (k + 1))) :
  FS P gl 172 [I i, I j, .ptr [I n, .lst p] 0, .ptr [I n, .lst q] 0] (· = .agg [B s0, .lst r, I e0]) := by
 have hmul : ∀ a b : Int, 0 ≤ a → 0 ≤ b → a < n → b < n → (a * n + b).toNat = a.toNat * n.toNat + b.toNat ∧ a * n + b < n * n := by
  intro a b h1 h2 h3 h4
  have e1 : a * n = ((a.toNat * n.toNat : Nat) : Int) := by rw [Int.natCast_mul, Int.toNat_of_nonneg h1, Int.toNat_of_nonneg hn]
  have : (a + 1) * n ≤ n * n := Int.mul_le_mul_of_nonneg_right (by omega) hn
  rw [Int.add_mul, Int.one_mul] at this
  omega
 have aQH : ∀ (k : Int) (m : Nat), 0 ≤ k → k < n → k.toNat = m → ∃ (s1 s2 s3 s4 : Bool) (e1 e2 e3 e4 : Int) (u1 u2 u3 u4 : List PV), (∀ P', Cx P' gl → FS P' gl 82 [.agg [I n, .lst p], I i, I k] (· = .agg [B s1, .lst u1, I e1])) ∧
   (∀ P', Cx P' gl → FS P' gl 82 [.agg [I n, .lst q], I k, I j] (· = .agg [B s2, .lst u2, I e2])) ∧ (∀ P', Cx P' gl → FS P' gl 83 [.agg [B s1, .lst u1, I e1], .agg [B s2, .lst u2, I e2]] (· = .agg [B s3, .lst u3, I e3])) ∧
   (∀ (P' : Program) (s : Bool) (u : List PV) (e : Int), Cx P' gl → s = (c m).1 → u = aA (c m).2.1 → e = (c m).2.2 → FS P' gl 81 [.agg [B s, .lst u, I e], .agg [B s3, .lst u3, I e3]] (· = .agg [B s4, .lst u4, I e4])) ∧ s4 = (c (m + 1)).1 ∧ u4 = aA (c (m + 1)).2.1 ∧ e4 = (c (m + 1)).2.2 := by
  rintro k m hk0 hk rfl
  obtain ⟨m1, m2⟩ := hmul i k hi hk0 hi4 hk
  obtain ⟨m3, m4⟩ := hmul k j hk0 hj hk hj4
  have h1 := ht k.toNat (by omega)
  have h2 := hcp k.toNat (by omega)
  refine ⟨_, _, _, _, _, _, _, _, _, _, _, _, fun P' C' => gL C' hp hi hk0 hn hn4 (by omega) (by omega) (by omega) (by rw [m1]) rfl, fun P' C' => gL C' hq hk0 hj hn hn4 (by omega) (by omega) (by omega) (by rw [m3]) rfl,
   fun P' C' => h1 P' _ _ _ C' rfl rfl rfl, fun P' s u e C' h3 h4 h5 => ?_, rfl, rfl, rfl⟩
  rw [h3, h4, h5]
  exact h2 P' _ _ _ C' rfl rfl rfl
 clear hp hq hyl hzl ht hcp hmul
 refine gS C func172 rfl rfl rfl fun A hA hI => ?_
 iterate 2 all_goals try cbv; with_reducible repeat' first | exact ⟨⟩ | apply And.intro | intro _
 all_goals try exact oG
 refine aZ hA [.nilc 1 1] (ι := Int × Bool × List PV × Int) (fun x => [(11, .pv (I x.1))]) (fun x => [(1, .box [.pv (B x.2.1), .pv (.lst x.2.2.1), .pv (I x.2.2.2)])]) (fun x => (n - x.1).toNat) (fun x => 0 ≤ x.1 ∧ x.1 ≤ n ∧ x.2.1 = (c x.1.toNat).1 ∧ x.2.2.1 = aA (c x.1.toNat).2.1 ∧ x.2.2.2 = (c x.1.toNat).2.2) (0, false, [], 0) (by rfl) ?_ ?_ ?_
 all_goals try exact tG
 ·refine ⟨Int.le_refl _, hn, ?_, ?_, ?_⟩ <;> simp only [Int.toNat_zero, hc0] <;> rfl
 rintro ⟨k, s, u, e⟩ ⟨hk0, hk1, hs, hu, he⟩
 simp only at hk0 hk1 hs hu he
 have hex : k = n → s = s0 ∧ u = r ∧ e = e0 := by
  rintro rfl
  rw [hcn] at hs hu he
  exact ⟨hs, by rw [hu, hr], he⟩
 have bT : ∀ _ : Unit, k < n → ∃ (s1 s2 s3 s4 : Bool) (e1 e2 e3 e4 : Int) (u1 u2 u3 u4 : List PV), (∀ P', Cx P' gl → FS P' gl 82 [.agg [I n, .lst p], I i, I k] (· = .agg [B s1, .lst u1, I e1])) ∧
   (∀ P', Cx P' gl → FS P' gl 82 [.agg [I n, .lst q], I k, I j] (· = .agg [B s2, .lst u2, I e2])) ∧ (∀ P', Cx P' gl → FS P' gl 83 [.agg [B s1, .lst u1, I e1], .agg [B s2, .lst u2, I e2]] (· = .agg [B s3, .lst u3, I e3])) ∧
   (∀ P', Cx P' gl → FS P' gl 81 [.agg [B s, .lst u, I e], .agg [B s3, .lst u3, I e3]] (· = .agg [B s4, .lst u4, I e4])) ∧ s4 = (c (k + 1).toNat).1 ∧ u4 = aA (c (k + 1).toNat).2.1 ∧ e4 = (c (k + 1).toNat).2.2 := by
  intro _ hk
  obtain ⟨s1, s2, s3, s4, e1, e2, e3, e4, u1, u2, u3, u4, c1, c2, c3, c4, f1, f2, f3⟩ := aQH k k.toNat hk0 hk rfl
  rw [show (k + 1).toNat = k.toNat + 1 by omega]
  exact ⟨s1, s2, s3, s4, e1, e2, e3, e4, u1, u2, u3, u4, c1, c2, c3, fun P' C' => c4 P' s u e C' hs hu he, f1, f2, f3⟩
 clear hc0 hcn hr hs hu he aQH
 iterate 2 all_goals try cbv; with_reducible repeat' first | exact ⟨⟩ | apply And.intro | intro _
 all_goals try exact oG
 ·rename_i g
  have gk : k < n := by clear hex bT; exact eG
  obtain ⟨s1, s2, s3, s4, e1, e2, e3, e4, u1, u2, u3, u4, c1, c2, c3, c4, f1, f2, f3⟩ := bT () gk
  have hk2 : k + 1 ≤ n := by omega
  clear hex bT
  refine ⟨_, c1 P C, ?_⟩
  iterate 2 all_goals try cbv; with_reducible repeat' first | exact ⟨⟩ | apply And.intro | intro _
  all_goals try exact oG
  refine ⟨_, c2 P C, ?_⟩
  iterate 2 all_goals try cbv; with_reducible repeat' first | exact ⟨⟩ | apply And.intro | intro _
  all_goals try exact oG
  refine ⟨_, c3 P C, ?_⟩
  iterate 2 all_goals try cbv; with_reducible repeat' first | exact ⟨⟩ | apply And.intro | intro _
  all_goals try exact oG
  refine aD hA rfl (c4 P C) ?_; rintro _ rfl
  clear c1 c2 c3 c4
  iterate 2 all_goals try cbv; with_reducible repeat' first | exact ⟨⟩ | apply And.intro | intro _
  all_goals try exact oG
  obtain ⟨y1, hy1⟩ : ∃ y, y = k + 1 := ⟨_, rfl⟩
  obtain ⟨y2, hy2⟩ : ∃ y, y = s4 := ⟨_, rfl⟩
  obtain ⟨y3, hy3⟩ : ∃ y, y = u4 := ⟨_, rfl⟩
  obtain ⟨y4, hy4⟩ : ∃ y, y = e4 := ⟨_, rfl⟩
  refine ⟨⟨(y1, y2, y3, y4), ?_⟩, ?_, ?_⟩
  rotate_left
  ·cbv
   exact nG
  ·exact eG
  ·rw [hy1, hy2, hy3, hy4]
   exact ⟨by simp only; omega, hk2, f1, f2, f3⟩
 ·rename_i g
  obtain ⟨f1, f2, f3⟩ := hex (by clear hex bT; exact eG)
  rw [f1, f2, f3]

end Tryz
end Go.Proofs
