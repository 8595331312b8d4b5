/- Contracts: exact numbers, differences and odd forms. -/
import Derived.Test.YtlkiofkkjbodjaaGreatDoorBN11
set_option maxHeartbeats 1000000
set_option maxRecDepth 100000
namespace Go.Proofs
open Go Go.Pe Go.Dg
namespace Tryz
set_option linter.unusedSimpArgs false
set_option linter.unusedVariables false
variable {P : Program} {gl : List (Nat × Obj)}

theorem vF (C : Cx P gl) {x y : Int} {p q : List PV} {s t : Bool} {c : Int} (hp : p = aA (dg x.natAbs)) (hs : s = decide (x < 0)) (hq : q = aA (dg y.natAbs)) (ht : t = decide (y < 0))
  (hc : c = tB x y) (hl : (dg x.natAbs).length ≤ 1000000000) (hm : (dg y.natAbs).length ≤ 1000000000) :
  FS P gl 256 [B s, .lst p, B t, .lst q] (· = I c) := by
 have h1 : s = true → t = (!s) → c = -1 := by
  intro h h'; rw [h'] at ht; rw [h] at hs ht; simp at hs ht; rw [hc, tB, if_pos (by omega)]
 have h2 : s = false → t = (!s) → c = 1 := by
  intro h h'; rw [h'] at ht; rw [h] at hs ht; simp at hs ht; rw [hc, tB, if_neg (by omega), if_pos (by omega)]
 have h3 : s = true → t = s → c = dJ y.natAbs x.natAbs := by
  intro h h'; rw [h'] at ht; rw [h] at hs ht; simp at hs ht; rw [hc, tB, dJ]; repeat' split <;> omega
 have h4 : s = false → t = s → c = dJ x.natAbs y.natAbs := by
  intro h h'; rw [h'] at ht; rw [h] at hs ht; simp at hs ht; rw [hc, tB, dJ]; repeat' split <;> omega
 clear hc hs ht
 refine gS C func256 rfl rfl rfl fun A hA hI => ?_
 iterate 2 all_goals try cbv; with_reducible repeat' first | exact ⟨⟩ | apply And.intro | intro _
 all_goals try exact oH
 iterate 2 all_goals try cbv; with_reducible repeat' first | exact ⟨⟩ | apply And.intro | intro _
 all_goals try exact oH
 ·rename_i g
  obtain ⟨g1, g2⟩ : s = true ∧ t = !s := by subst hA; cases s <;> cases t <;> first | exact ⟨rfl, rfl⟩ | exact absurd g (by decide)
  rw [h1 g1 g2]
 ·rename_i g' g
  obtain ⟨g1, g2⟩ : s = false ∧ t = !s := by subst hA; cases s <;> cases t <;> first | exact ⟨rfl, rfl⟩ | exact absurd g (by decide)
  rw [h2 g1 g2]
 ·rename_i g' g g1
  have g2 : t = s := by subst hA; cases s <;> cases t <;> first | rfl | exact absurd g (by decide) | exact absurd g' (by decide)
  refine aD hA rfl (kA C hq hp (h3 g1 g2) hm) ?_; rintro _ rfl
  iterate 2 all_goals try cbv; with_reducible repeat' first | exact ⟨⟩ | apply And.intro | intro _
  all_goals try exact oH
 ·rename_i g' g g1
  have g2 : t = s := by subst hA; cases s <;> cases t <;> first | rfl | exact absurd g (by decide) | exact absurd g' (by decide)
  refine aD hA rfl (kA C hp hq (h4 g1 g2) hl) ?_; rintro _ rfl
  iterate 2 all_goals try cbv; with_reducible repeat' first | exact ⟨⟩ | apply And.intro | intro _
  all_goals try exact oH

theorem aDS (C : Cx P gl) {x y : Int} {p q r : List PV} {s t u : Bool} (hp : p = aA (dg x.natAbs)) (hq : q = aA (dg y.natAbs)) (h : aU6 x y s t u)
  (hr : r = aA (dg (x + y).natAbs)) (hl : (dg x.natAbs).length ≤ 10000000) (hm : (dg y.natAbs).length ≤ 10000000) :
  FS P gl 157 [B s, .lst p, B t, .lst q] (· = .tup [B u, .lst r]) := by
 have hx := aI x.natAbs
 have hy := aI y.natAbs
 obtain ⟨h1, h2, h3⟩ := h
 have hm1 : y.natAbs ≤ x.natAbs → (dg y.natAbs).length ≤ (dg x.natAbs).length := eC
 have hm2 : x.natAbs ≤ y.natAbs → (dg x.natAbs).length ≤ (dg y.natAbs).length := eC
 obtain ⟨k, hk⟩ : ∃ k, k = dJ x.natAbs y.natAbs := ⟨_, rfl⟩
 have hk1 : 0 ≤ k → y.natAbs ≤ x.natAbs := by rw [hk, dJ]; intro h; repeat' split at h <;> first | omega | exact absurd h (by decide)
 have hk2 : k < 0 → x.natAbs < y.natAbs := by rw [hk, dJ]; intro h; repeat' split at h <;> first | omega | exact absurd h (by decide)
 refine gS C func157 rfl rfl rfl fun A hA hI => ?_
 iterate 2 all_goals try cbv; with_reducible repeat' first | exact ⟨⟩ | apply And.intro | intro _
 all_goals try exact oH
 iterate 2 all_goals try cbv; with_reducible repeat' first | exact ⟨⟩ | apply And.intro | intro _
 all_goals try exact oH
 ·rename_i g
  obtain ⟨e1, rfl⟩ := h1 (aT7 hA g)
  refine aD hA rfl (aJJ C hp hq hx hy e1 hr (by omega) (by omega)) ?_; rintro _ rfl
  iterate 2 all_goals try cbv; with_reducible repeat' first | exact ⟨⟩ | apply And.intro | intro _
  all_goals try exact oH
 ·rename_i g
  have g := aT8 hA g
  refine aD hA rfl (kA C hp hq hk (by omega)) ?_; rintro _ rfl
  iterate 2 all_goals try cbv; with_reducible repeat' first | exact ⟨⟩ | apply And.intro | intro _
  all_goals try exact oH
  ·have g2 := hk1 (by exact eH)
   obtain ⟨e1, rfl⟩ := h2 g g2
   refine aD hA rfl (aGG C hp hq hx hy e1 hr (by omega) (hm1 g2)) ?_; rintro _ rfl
   iterate 2 all_goals try cbv; with_reducible repeat' first | exact ⟨⟩ | apply And.intro | intro _
   all_goals try exact oH
  ·have g2 := hk2 (by exact eH)
   obtain ⟨e1, rfl⟩ := h3 g g2
   have g3 := hm2 (Nat.le_of_lt g2)
   iterate 2 all_goals try cbv; with_reducible repeat' first | exact ⟨⟩ | apply And.intro | intro _
   all_goals try exact oH
   refine aD hA rfl (aGG C hq hp hy hx e1 hr (by omega) g3) ?_; rintro _ rfl
   iterate 2 all_goals try cbv; with_reducible repeat' first | exact ⟨⟩ | apply And.intro | intro _
   all_goals try exact oH

theorem wQ (C : Cx P gl) {z1 e1 z2 e2 c : Int} {p q : List PV} {s t : Bool} (hp : p = aA (dg z1.natAbs)) (hs : s = decide (z1 < 0)) (hq : q = aA (dg z2.natAbs)) (ht : t = decide (z2 < 0))
  (hc : c = gC (mk z1 e1) (mk z2 e2)) (h1 : e1.natAbs ≤ 100000) (h2 : e2.natAbs ≤ 100000) (hl : (dg z1.natAbs).length ≤ 1000000) (hm : (dg z2.natAbs).length ≤ 1000000) :
  FS P gl 225 [.agg [B s, .lst p, I e1], .agg [B t, .lst q, I e2]] (· = I c) := by
 obtain ⟨y, x, e, ha⟩ := sZ z2 e2 z1 e1
 obtain ⟨v2, v1⟩ := tA ha
 obtain ⟨b2, b1, b3⟩ := iM ha hm hl h2 h1
 have hsx : s = decide (x < 0) := by rw [hs, decide_eq_decide]; exact (qL ha).2.symm
 have hty : t = decide (y < 0) := by rw [ht, decide_eq_decide]; exact (qL ha).1.symm
 obtain ⟨p', hp'⟩ : ∃ p', p' = aA (dg x.natAbs) := ⟨_, rfl⟩
 obtain ⟨q', hq'⟩ : ∃ p', p' = aA (dg y.natAbs) := ⟨_, rfl⟩
 have hc' : c = tB x y := by rw [hc, ← v1, ← v2, aJ6]
 clear hc
 refine gS C func225 rfl rfl rfl fun A hA hI => ?_
 iterate 2 all_goals try cbv; with_reducible repeat' first | exact ⟨⟩ | apply And.intro | intro _
 all_goals try exact oH
 refine aD hA rfl (zS C hp hq ha hp' hq' h1 h2 hl hm) ?_; rintro _ rfl
 iterate 2 all_goals try cbv; with_reducible repeat' first | exact ⟨⟩ | apply And.intro | intro _
 all_goals try exact oH
 refine aD hA rfl (vF C hp' hsx hq' hty hc' (by omega) (by omega)) ?_; rintro _ rfl
 iterate 2 all_goals try cbv; with_reducible repeat' first | exact ⟨⟩ | apply And.intro | intro _
 all_goals try exact oH

theorem tO (C : Cx P gl) {z1 e1 z2 e2 w f : Int} {p q r : List PV} {s t u : Bool} (hp : p = aA (dg z1.natAbs)) (hs : s = decide (z1 < 0)) (hq : q = aA (dg z2.natAbs)) (ht : t = decide (z2 < 0))
  (hd : aST z1 e1 z2 e2 w f) (hr : r = aA (dg w.natAbs)) (hu : u = decide (w < 0))
  (h1 : e1.natAbs ≤ 100000) (h2 : e2.natAbs ≤ 100000) (hl : (dg z1.natAbs).length ≤ 1000000) (hm : (dg z2.natAbs).length ≤ 1000000) :
  FS P gl 81 [.agg [B s, .lst p, I e1], .agg [B t, .lst q, I e2]] (· = .agg [B u, .lst r, I f]) := by
 obtain ⟨x, y, ha, rfl⟩ := hd
 obtain ⟨b2, b1, b3⟩ := iM ha hm hl h2 h1
 have hsx : s = decide (x < 0) := by rw [hs, decide_eq_decide]; exact (qL ha).2.symm
 have hty : t = decide (y < 0) := by rw [ht, decide_eq_decide]; exact (qL ha).1.symm
 obtain ⟨p', hp'⟩ : ∃ p', p' = aA (dg x.natAbs) := ⟨_, rfl⟩
 obtain ⟨q', hq'⟩ : ∃ p', p' = aA (dg y.natAbs) := ⟨_, rfl⟩
 obtain ⟨v, hv, hvu⟩ := aU7 (x := x) (y := y) (s := s) (t := t) (by rw [hsx]; exact aJ7 x) (by rw [hty]; exact aJ7 y)
 rw [← hu] at hvu
 clear hu
 refine gS C func81 rfl rfl rfl fun A hA hI => ?_
 iterate 2 all_goals try cbv; with_reducible repeat' first | exact ⟨⟩ | apply And.intro | intro _
 all_goals try exact oH
 refine aD hA rfl (zS C hp hq ha hp' hq' h1 h2 hl hm) ?_; rintro _ rfl
 iterate 2 all_goals try cbv; with_reducible repeat' first | exact ⟨⟩ | apply And.intro | intro _
 all_goals try exact oH
 refine aD hA rfl (aDS C hp' hq' hv hr (by omega) (by omega)) ?_; rintro _ rfl
 iterate 2 all_goals try cbv; with_reducible repeat' first | exact ⟨⟩ | apply And.intro | intro _
 all_goals try exact oH
 have e0 := aKJ hA hr
 have e1 : A.pick v (decide ((dg (x + y).natAbs).length ≠ 0)) false = u := by subst hA; rw [← hvu]; cases v <;> rfl
 simp only [e0, e1]

end Tryz
end Go.Proofs

set_option maxHeartbeats 1000000
set_option maxRecDepth 100000
namespace Go.Proofs
open Go Go.Pe Go.Dg
namespace Tryz
set_option linter.unusedSimpArgs false
set_option linter.unusedVariables false
variable {P : Program} {gl : List (Nat × Obj)}

theorem aA4 (C : Cx P gl) {z1 e1 z2 e2 w f : Int} {p q r : List PV} {s t u : Bool} (hp : p = aA (dg z1.natAbs)) (hs : s = decide (z1 < 0)) (hq : q = aA (dg z2.natAbs)) (ht : t = decide (z2 < 0))
  (hd : aST z1 e1 (-z2) e2 w f) (hr : r = aA (dg w.natAbs)) (hu : u = decide (w < 0))
  (h1 : e1.natAbs ≤ 100000) (h2 : e2.natAbs ≤ 100000) (hl : (dg z1.natAbs).length ≤ 1000000) (hm : (dg z2.natAbs).length ≤ 1000000) :
  FS P gl 174 [.agg [B s, .lst p, I e1], .agg [B t, .lst q, I e2]] (· = .agg [B u, .lst r, I f]) := by
 obtain ⟨t', ht'⟩ : ∃ t', t' = decide (0 < z2) := ⟨_, rfl⟩
 have ht2 : t' = decide (-z2 < 0) := by rw [ht', decide_eq_decide]; omega
 have hq2 : q = aA (dg (-z2).natAbs) := by rw [Int.natAbs_neg]; exact hq
 have hm2 : (dg (-z2).natAbs).length ≤ 1000000 := by rw [Int.natAbs_neg]; exact hm
 refine gS C func174 rfl rfl rfl fun A hA hI => ?_
 iterate 2 all_goals try cbv; with_reducible repeat' first | exact ⟨⟩ | apply And.intro | intro _
 all_goals try exact oH
 refine ⟨_, zN C hq ht ht' (by omega), ?_⟩
 iterate 2 all_goals try cbv; with_reducible repeat' first | exact ⟨⟩ | apply And.intro | intro _
 all_goals try exact oH
 refine aD hA rfl (tO C hp hs hq2 ht2 hd hr hu h1 h2 hl hm2) ?_; rintro _ rfl
 iterate 2 all_goals try cbv; with_reducible repeat' first | exact ⟨⟩ | apply And.intro | intro _
 all_goals try exact oH

theorem aDT (C : Cx P gl) {z e f : Int} {p r : List PV} {s u : Bool} {d : Dyadic} (hp : p = aA (dg z.natAbs)) (hs : s = decide (z < 0)) (hd : d = mk z e)
  (hr : r = aA (dg (cZ d).natAbs)) (hu : u = decide (cZ d < 0)) (hf : f = cE d) (h0 : e.natAbs ≤ 1000000000) (hl : (dg z.natAbs).length ≤ 10000000) :
  FS P gl 187 [.agg [B s, .lst p, I e]] (· = .agg [B u, .lst r, I f]) := by
 have hz : z = 0 → r = [] ∧ u = false ∧ f = 0 := by
  intro h
  rw [h] at hd
  rw [hr, hu, hf, hd, mk_zero, dT, nJ]
  exact ⟨by rw [show (0 : Int).natAbs = 0 from rfl, aO]; rfl, rfl, rfl⟩
 have hz2 : (dg z.natAbs).length = 0 ↔ z = 0 := by rw [cO]; omega
 have hnz : z ≠ 0 → ∃ (k m : Nat) (c : Int), c = k ∧ 0 ≤ c ∧ c ≤ 160000000 ∧ z.natAbs = 2 ^ k * (2 * m + 1) ∧ r = aA (dg (z.natAbs / 2 ^ c.toNat)) ∧ u = s ∧ f = e + c := by
  intro h
  obtain ⟨k, m, hk⟩ := wV (x := z.natAbs) (by omega)
  obtain ⟨l1, l2, l3⟩ := kQ (e := e) hk
  have hdv : z.natAbs / 2 ^ k = 2 * m + 1 := by rw [hk, Nat.mul_div_cancel_left _ (Nat.two_pow_pos k)]
  have hkb : k < 16 * (dg z.natAbs).length := by
   have h1 := dZ z.natAbs
   rw [show (65536 : Nat) = 2 ^ 16 from rfl, ← Nat.pow_mul] at h1
   have h3 : 2 ^ k ≤ z.natAbs := by rw [hk]; exact Nat.le_mul_of_pos_right _ (by omega)
   exact (Nat.pow_lt_pow_iff_right (by decide : 1 < 2)).1 (Nat.lt_of_le_of_lt h3 h1)
  refine ⟨k, m, k, rfl, by omega, by omega, hk, ?_, ?_, ?_⟩
  ·rw [Int.toNat_natCast, hdv, hr, hd, l1]
  ·rw [hu, hd, l3, hs]
  ·rw [hf, hd, l2]
 have hva := aI z.natAbs
 have hvv := aQ z.natAbs
 clear hr hu hf hd
 refine gS C func187 rfl rfl rfl fun A hA hI => ?_
 iterate 2 all_goals try cbv; with_reducible repeat' first | exact ⟨⟩ | apply And.intro | intro _
 all_goals try exact oH
 iterate 2 all_goals try cbv; with_reducible repeat' first | exact ⟨⟩ | apply And.intro | intro _
 all_goals try exact oH
 ·rename_i g
  obtain ⟨rfl, rfl, rfl⟩ := hz (hz2.1 (zT hA hp g))
  rfl
 rename_i g
 obtain ⟨k, m, c, hc, hc0, hc1, hk, hr, hu, hf⟩ := hnz (fun h => qZ hA hp g (hz2.2 h))
 clear hnz hz hz2
 refine aD hA rfl (aI6 C hp hk hc (by omega)) ?_; rintro _ rfl
 iterate 2 all_goals try cbv; with_reducible repeat' first | exact ⟨⟩ | apply And.intro | intro _
 all_goals try exact oH
 refine ⟨_, aJI C hp hva hvv rfl hr hc0 (by omega) (by omega), ?_⟩
 iterate 2 all_goals try cbv; with_reducible repeat' first | exact ⟨⟩ | apply And.intro | intro _
 all_goals try exact oH
 have e1 : A.add .i64 e c = f := by subst hA; rw [hf]; exact aX (by omega) (by omega)
 simp only [e1, hu]

end Tryz
end Go.Proofs

