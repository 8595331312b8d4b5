/- Contracts: the reference's signed numbers, more. -/
import Derived.Test.YtlkiofkkjbodjaaGreatDoorBN5
import Derived.Test.YtlkiofkkjbodjaaGreatDoorBEvD
set_option maxHeartbeats 1000000
set_option maxRecDepth 100000
namespace Go.Proofs
open Go Go.Pe Go.Dg
namespace Tryz
set_option linter.unusedSimpArgs false
set_option linter.unusedVariables false
variable {P : Program} {gl : List (Nat × Obj)}

theorem fC {n : Nat} (h : n ≠ 0) : 0 < (dg n).length := by
 rcases Nat.eq_zero_or_pos (dg n).length with e | e
 ·have := List.eq_nil_of_length_eq_zero e
  rw [← aO] at this
  exact absurd (yT this) h
 ·exact e

theorem dG (C : Cx P gl) {n : Nat} {p : List PV} {s s' : Bool} (hp : p = aA (dg n)) (hs : s' = (s && decide (n ≠ 0))) (hl : (dg n).length ≤ 1000000000) :
  FS P gl 169 [B s, .agg [.lst p]] (· = .agg [B s', .lst p]) := by
 have h0 : n = 0 → s' = false := fun h => by rw [hs, h]; simp
 have h1 : n ≠ 0 → s' = s := fun h => by rw [hs]; simp [h]
 have h2 : n ≠ 0 → 0 < (dg n).length := fC
 have h3 : n = 0 → (dg n).length = 0 := fun h => by rw [h, aO]; rfl
 have ht : p = aA (bG (dg n)) := by rw [hp, dO (aI n), aQ]; rfl
 clear hs
 refine gS C func169 rfl rfl rfl fun A hA hI => ?_
 iterate 2 all_goals try cbv; with_reducible repeat' first | exact ⟨⟩ | apply And.intro | intro _
 all_goals try exact oH
 refine ⟨_, jX C hp ht hl, ?_⟩
 iterate 2 all_goals try cbv; with_reducible repeat' first | exact ⟨⟩ | apply And.intro | intro _
 all_goals try exact oH
 have e0 : A.lt 0 (A.cast (A.len p)) = decide (n ≠ 0) := by
  by_cases h : n = 0
  ·have e2 := h3 h
   rw [decide_eq_false (by simpa using h)]
   exact eH
  ·have e2 := h2 h
   rw [decide_eq_true h]
   exact eH
 have e : A.pick s (decide (n ≠ 0)) false = s' := by
  subst hA
  by_cases h : n = 0
  ·rw [h0 h, decide_eq_false (by simpa using h)]; cases s <;> rfl
  ·rw [h1 h, decide_eq_true h]; cases s <;> rfl
 simp only [e0, e]

end Tryz
end Go.Proofs

set_option maxHeartbeats 1000000
set_option maxRecDepth 100000
namespace Go.Proofs
open Go Go.Pe Go.Dg
namespace Tryz
set_option linter.unusedSimpArgs false
set_option linter.unusedVariables false
variable {P : Program} {gl : List (Nat × Obj)}

theorem aUB {A : AR} (hA : A = AR.std) {s t : Bool} (h : A.bnot (A.beq s t) = true) : t = !s := by subst hA; cases s <;> cases t <;> first | rfl | exact absurd h (by decide)
theorem aUC {A : AR} (hA : A = AR.std) {s t : Bool} (h : A.bnot (A.beq s t) = false) : t = s := by subst hA; cases s <;> cases t <;> first | rfl | exact absurd h (by decide)
theorem aT7 {A : AR} (hA : A = AR.std) {s t : Bool} (h : A.beq s t = true) : t = s := by subst hA; cases s <;> cases t <;> first | rfl | exact absurd h (by decide)
theorem aT8 {A : AR} (hA : A = AR.std) {s t : Bool} (h : A.beq s t = false) : t = !s := by subst hA; cases s <;> cases t <;> first | rfl | exact absurd h (by decide)

theorem eC {x y : Nat} (h : x ≤ y) : (dg x).length ≤ (dg y).length := by
 rcases Nat.lt_or_ge (dg y).length (dg x).length with h' | h'
 ·have := jT h'; omega
 ·exact h'

theorem kR (x y : Nat) : (dg (x + y)).length ≤ (dg x).length + (dg y).length + 1 := by
 refine aT _ _ ?_
 have h1 := dZ x
 have h2 := dZ y
 have h3 : 65536 ^ (dg x).length ≤ 65536 ^ ((dg x).length + (dg y).length) := Nat.pow_le_pow_right (by decide) (by omega)
 have h4 : 65536 ^ (dg y).length ≤ 65536 ^ ((dg x).length + (dg y).length) := Nat.pow_le_pow_right (by decide) (by omega)
 rw [Nat.pow_succ]
 omega

theorem aKL {p q : Prop} [Decidable p] [Decidable q] (h : decide p = !decide q) : p ↔ ¬q := by
 by_cases hp : p <;> by_cases hq : q <;> simp [hp, hq] at h ⊢

theorem aRE (C : Cx P gl) {z : Int} {p : List PV} {s s' : Bool} (hp : p = aA (dg z.natAbs)) (hs : s = decide (z < 0)) (hs' : s' = decide (0 < z)) (hl : (dg z.natAbs).length ≤ 1000000000) :
  FS P gl 207 [.agg [B s, .lst p]] (· = .agg [B s', .lst p]) := by
 have h0 : s' = (!s && decide (z.natAbs ≠ 0)) := by
  rw [hs, hs', Bool.eq_iff_iff]
  simp only [Bool.and_eq_true, Bool.not_eq_true', decide_eq_true_eq, decide_eq_false_iff_not]
  omega
 clear hs hs'
 refine gS C func207 rfl rfl rfl fun A hA hI => ?_
 iterate 2 all_goals try cbv; with_reducible repeat' first | exact ⟨⟩ | apply And.intro | intro _
 all_goals try exact oH
 have e0 : s' = (A.bnot s && decide (z.natAbs ≠ 0)) := by subst hA; exact h0
 refine aD hA rfl (dG C hp e0 hl) ?_; rintro _ rfl
 iterate 2 all_goals try cbv; with_reducible repeat' first | exact ⟨⟩ | apply And.intro | intro _
 all_goals try exact oH

theorem aRF (C : Cx P gl) {x y : Int} {p q : List PV} {s t : Bool} {c : Int} (hp : p = aA (dg x.natAbs)) (hs : s = decide (x < 0)) (hq : q = aA (dg y.natAbs)) (ht : t = decide (y < 0))
  (hc : c = tB x y) (hl : (dg x.natAbs).length ≤ 1000000000) (hm : (dg y.natAbs).length ≤ 1000000000) :
  FS P gl 194 [.agg [B s, .lst p], .agg [B t, .lst q]] (· = I c) := by
 have h1 : s = true → t = (!s) → c = -1 := by
  intro h h'; rw [h'] at ht; rw [h] at hs ht; simp at hs ht; rw [hc, tB, if_pos (by omega)]
 have h2 : s = false → t = (!s) → c = 1 := by
  intro h h'; rw [h'] at ht; rw [h] at hs ht; simp at hs ht; rw [hc, tB, if_neg (by omega), if_pos (by omega)]
 have h3 : s = true → t = s → c = dJ y.natAbs x.natAbs := by
  intro h h'; rw [h'] at ht; rw [h] at hs ht; simp at hs ht; rw [hc, tB, dJ]; repeat' split <;> omega
 have h4 : s = false → t = s → c = dJ x.natAbs y.natAbs := by
  intro h h'; rw [h'] at ht; rw [h] at hs ht; simp at hs ht; rw [hc, tB, dJ]; repeat' split <;> omega
 clear hc hs ht
 refine gS C func194 rfl rfl rfl fun A hA hI => ?_
 iterate 2 all_goals try cbv; with_reducible repeat' first | exact ⟨⟩ | apply And.intro | intro _
 all_goals try exact oH
 iterate 2 all_goals try cbv; with_reducible repeat' first | exact ⟨⟩ | apply And.intro | intro _
 all_goals try exact oH
 ·rename_i g1 g2; rw [h1 g2 (aUB hA g1)]
 ·rename_i g1 g2; rw [h2 g2 (aUB hA g1)]
 ·rename_i g1 g2
  refine aD hA rfl (tQ C hq hp (h3 g2 (aUC hA g1)) hm hl) ?_; rintro _ rfl
  iterate 2 all_goals try cbv; with_reducible repeat' first | exact ⟨⟩ | apply And.intro | intro _
  all_goals try exact oH
 ·rename_i g1 g2
  refine aD hA rfl (tQ C hp hq (h4 g2 (aUC hA g1)) hl hm) ?_; rintro _ rfl
  iterate 2 all_goals try cbv; with_reducible repeat' first | exact ⟨⟩ | apply And.intro | intro _
  all_goals try exact oH

theorem aRG (C : Cx P gl) {x y : Int} {p q r : List PV} {s t u : Bool} (hp : p = aA (dg x.natAbs)) (hs : s = decide (x < 0)) (hq : q = aA (dg y.natAbs)) (ht : t = decide (y < 0))
  (hr : r = aA (dg (x + y).natAbs)) (hu : u = decide (x + y < 0)) (hl : (dg x.natAbs).length ≤ 10000000) (hm : (dg y.natAbs).length ≤ 10000000) :
  FS P gl 144 [.agg [B s, .lst p], .agg [B t, .lst q]] (· = .agg [B u, .lst r]) := by
 have hx := aI x.natAbs
 have hy := aI y.natAbs
 have hvx := aQ x.natAbs
 have hvy := aQ y.natAbs
 have hll : (dg (x + y).natAbs).length ≤ 1000000000 := by
  have h1 := kR x.natAbs y.natAbs
  have h2 : (dg (x + y).natAbs).length ≤ (dg (x.natAbs + y.natAbs)).length := eC (by omega)
  omega
 have h1 : t = s → val (dg x.natAbs) + val (dg y.natAbs) = ((x + y).natAbs : Nat) ∧ u = (s && decide ((x + y).natAbs ≠ 0)) := by
  intro h; rw [hvx, hvy, hu]
  rw [hs, ht] at h
  have h := decide_eq_decide.1 h
  refine ⟨by omega, ?_⟩
  rw [hs, Bool.eq_iff_iff, Bool.and_eq_true, decide_eq_true_eq, decide_eq_true_eq, decide_eq_true_eq]
  omega
 have h2 : t = (!s) → y.natAbs ≤ x.natAbs → val (dg x.natAbs) - val (dg y.natAbs) = ((x + y).natAbs : Nat) ∧ u = (s && decide ((x + y).natAbs ≠ 0)) := by
  intro h hle; rw [hvx, hvy, hu]
  rw [hs, ht] at h
  have h := aKL h
  refine ⟨by omega, ?_⟩
  rw [hs, Bool.eq_iff_iff, Bool.and_eq_true, decide_eq_true_eq, decide_eq_true_eq, decide_eq_true_eq]
  omega
 have h3 : t = (!s) → x.natAbs < y.natAbs → val (dg y.natAbs) - val (dg x.natAbs) = ((x + y).natAbs : Nat) ∧ u = (t && decide ((x + y).natAbs ≠ 0)) := by
  intro h hle; rw [hvx, hvy, hu]
  rw [hs, ht] at h
  have h := aKL h
  refine ⟨by omega, ?_⟩
  rw [ht, Bool.eq_iff_iff, Bool.and_eq_true, decide_eq_true_eq, decide_eq_true_eq, decide_eq_true_eq]
  omega
 have hm1 : y.natAbs ≤ x.natAbs → (dg y.natAbs).length ≤ (dg x.natAbs).length := eC
 have hm2 : x.natAbs ≤ y.natAbs → (dg x.natAbs).length ≤ (dg y.natAbs).length := eC
 obtain ⟨k, hk⟩ : ∃ k, k = dJ x.natAbs y.natAbs := ⟨_, rfl⟩
 have hk1 : 0 ≤ k → y.natAbs ≤ x.natAbs := by rw [hk, dJ]; intro h; repeat' split at h <;> first | omega | exact absurd h (by decide)
 have hk2 : k < 0 → x.natAbs < y.natAbs := by rw [hk, dJ]; intro h; repeat' split at h <;> first | omega | exact absurd h (by decide)
 clear hvx hvy hs ht hu
 refine gS C func144 rfl rfl rfl fun A hA hI => ?_
 iterate 2 all_goals try cbv; with_reducible repeat' first | exact ⟨⟩ | apply And.intro | intro _
 all_goals try exact oH
 iterate 2 all_goals try cbv; with_reducible repeat' first | exact ⟨⟩ | apply And.intro | intro _
 all_goals try exact oH
 ·rename_i g
  obtain ⟨e1, e2⟩ := h1 (aT7 hA g)
  refine ⟨_, zZ C hp hq hx hy e1 hr (by omega) (by omega), ?_⟩
  iterate 2 all_goals try cbv; with_reducible repeat' first | exact ⟨⟩ | apply And.intro | intro _
  all_goals try exact oH
  refine aD hA rfl (dG C hr e2 hll) ?_; rintro _ rfl
  iterate 2 all_goals try cbv; with_reducible repeat' first | exact ⟨⟩ | apply And.intro | intro _
  all_goals try exact oH
 ·rename_i g
  have g := aT8 hA g
  refine aD hA rfl (tQ C hp hq hk (by omega) (by omega)) ?_; rintro _ rfl
  iterate 2 all_goals try cbv; with_reducible repeat' first | exact ⟨⟩ | apply And.intro | intro _
  all_goals try exact oH
  ·have g2 := hk1 (by exact eH)
   obtain ⟨e1, e2⟩ := h2 g g2
   refine ⟨_, zX C hp hq hx hy e1 hr (by omega) (hm1 g2), ?_⟩
   iterate 2 all_goals try cbv; with_reducible repeat' first | exact ⟨⟩ | apply And.intro | intro _
   all_goals try exact oH
   refine aD hA rfl (dG C hr e2 hll) ?_; rintro _ rfl
   iterate 2 all_goals try cbv; with_reducible repeat' first | exact ⟨⟩ | apply And.intro | intro _
   all_goals try exact oH
  ·have g2 := hk2 (by exact eH)
   obtain ⟨e1, e2⟩ := h3 g g2
   have g3 := hm2 (Nat.le_of_lt g2)
   refine ⟨_, zX C hq hp hy hx e1 hr (by omega) g3, ?_⟩
   iterate 2 all_goals try cbv; with_reducible repeat' first | exact ⟨⟩ | apply And.intro | intro _
   all_goals try exact oH
   refine aD hA rfl (dG C hr e2 hll) ?_; rintro _ rfl
   iterate 2 all_goals try cbv; with_reducible repeat' first | exact ⟨⟩ | apply And.intro | intro _
   all_goals try exact oH

end Tryz
end Go.Proofs

