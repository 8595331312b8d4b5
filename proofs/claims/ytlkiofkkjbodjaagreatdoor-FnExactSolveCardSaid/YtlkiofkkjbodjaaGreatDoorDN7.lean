/- Contracts: the reference's signed numbers, more. -/
import Derived.Test.YtlkiofkkjbodjaaGreatDoorDN5
import Derived.Test.YtlkiofkkjbodjaaGreatDoorDEvD
set_option maxHeartbeats 1000000
set_option maxRecDepth 100000
namespace Go.Proofs
open Go Go.Pe Go.Dg
namespace Tryz
set_option linter.unusedSimpArgs false
set_option linter.unusedVariables false
variable {P : Program} {gl : List (Nat × Obj)}

theorem dg_pos {n : Nat} (h : n ≠ 0) : 0 < (dg n).length := by
 rcases Nat.eq_zero_or_pos (dg n).length with e | e
 ·have := List.eq_nil_of_length_eq_zero e
  rw [← dg_zero] at this
  exact absurd (dg_inj this) h
 ·exact e

theorem l3make_fs (C : Cx P gl) {n : Nat} {p : List PV} {s s' : Bool} (hp : p = intsL (dg n)) (hs : s' = (s && decide (n ≠ 0))) (hl : (dg n).length ≤ 1000000000) :
  FS P gl 169 [B s, .agg [.lst p]] (· = .agg [B s', .lst p]) := by
 have h0 : n = 0 → s' = false := fun h => by rw [hs, h]; simp
 have h1 : n ≠ 0 → s' = s := fun h => by rw [hs]; simp [h]
 have h2 : n ≠ 0 → 0 < (dg n).length := dg_pos
 have h3 : n = 0 → (dg n).length = 0 := fun h => by rw [h, dg_zero]; rfl
 have ht : p = intsL (trimL (dg n)) := by rw [hp, trim_dg (valid_dg n), val_dg]; rfl
 clear hs
 refine gS C func169 rfl rfl rfl fun A hA hI => ?_
 iterate 2 all_goals try cbv; with_reducible repeat' first | exact ⟨⟩ | apply And.intro | intro _
 all_goals try exact oH
 refine ⟨_, l2norm_fs C hp ht hl, ?_⟩
 iterate 2 all_goals try cbv; with_reducible repeat' first | exact ⟨⟩ | apply And.intro | intro _
 all_goals try exact oH
 have e0 : A.lt 0 (A.cast (A.len p)) = decide (n ≠ 0) := by
  by_cases h : n = 0
  ·have e2 := h3 h
   rw [decide_eq_false (by simpa using h)]
   exact eH
  ·have e2 := h2 h
   rw [decide_eq_true h]
   exact eH
 have e : A.pick s (decide (n ≠ 0)) false = s' := by
  subst hA
  by_cases h : n = 0
  ·rw [h0 h, decide_eq_false (by simpa using h)]; cases s <;> rfl
  ·rw [h1 h, decide_eq_true h]; cases s <;> rfl
 simp only [e0, e]

end Tryz
end Go.Proofs

set_option maxHeartbeats 1000000
set_option maxRecDepth 100000
namespace Go.Proofs
open Go Go.Pe Go.Dg
namespace Tryz
set_option linter.unusedSimpArgs false
set_option linter.unusedVariables false
variable {P : Program} {gl : List (Nat × Obj)}

theorem bne_t {A : AR} (hA : A = AR.std) {s t : Bool} (h : A.bnot (A.beq s t) = true) : t = !s := by subst hA; cases s <;> cases t <;> first | rfl | exact absurd h (by decide)
theorem bne_f {A : AR} (hA : A = AR.std) {s t : Bool} (h : A.bnot (A.beq s t) = false) : t = s := by subst hA; cases s <;> cases t <;> first | rfl | exact absurd h (by decide)
theorem beq_t {A : AR} (hA : A = AR.std) {s t : Bool} (h : A.beq s t = true) : t = s := by subst hA; cases s <;> cases t <;> first | rfl | exact absurd h (by decide)
theorem beq_f {A : AR} (hA : A = AR.std) {s t : Bool} (h : A.beq s t = false) : t = !s := by subst hA; cases s <;> cases t <;> first | rfl | exact absurd h (by decide)

theorem dg_len_mono {x y : Nat} (h : x ≤ y) : (dg x).length ≤ (dg y).length := by
 rcases Nat.lt_or_ge (dg y).length (dg x).length with h' | h'
 ·have := dg_len_lt h'; omega
 ·exact h'

theorem dg_len_add (x y : Nat) : (dg (x + y)).length ≤ (dg x).length + (dg y).length + 1 := by
 refine dg_len_le _ _ ?_
 have h1 := dg_lt_pow x
 have h2 := dg_lt_pow y
 have h3 : 65536 ^ (dg x).length ≤ 65536 ^ ((dg x).length + (dg y).length) := Nat.pow_le_pow_right (by decide) (by omega)
 have h4 : 65536 ^ (dg y).length ≤ 65536 ^ ((dg x).length + (dg y).length) := Nat.pow_le_pow_right (by decide) (by omega)
 rw [Nat.pow_succ]
 omega

theorem dec_not {p q : Prop} [Decidable p] [Decidable q] (h : decide p = !decide q) : p ↔ ¬q := by
 by_cases hp : p <;> by_cases hq : q <;> simp [hp, hq] at h ⊢

theorem l3neg_fs (C : Cx P gl) {z : Int} {p : List PV} {s s' : Bool} (hp : p = intsL (dg z.natAbs)) (hs : s = decide (z < 0)) (hs' : s' = decide (0 < z)) (hl : (dg z.natAbs).length ≤ 1000000000) :
  FS P gl 207 [.agg [B s, .lst p]] (· = .agg [B s', .lst p]) := by
 have h0 : s' = (!s && decide (z.natAbs ≠ 0)) := by
  rw [hs, hs', Bool.eq_iff_iff]
  simp only [Bool.and_eq_true, Bool.not_eq_true', decide_eq_true_eq, decide_eq_false_iff_not]
  omega
 clear hs hs'
 refine gS C func207 rfl rfl rfl fun A hA hI => ?_
 iterate 2 all_goals try cbv; with_reducible repeat' first | exact ⟨⟩ | apply And.intro | intro _
 all_goals try exact oH
 have e0 : s' = (A.bnot s && decide (z.natAbs ≠ 0)) := by subst hA; exact h0
 refine callS hA rfl (l3make_fs C hp e0 hl) ?_; rintro _ rfl
 iterate 2 all_goals try cbv; with_reducible repeat' first | exact ⟨⟩ | apply And.intro | intro _
 all_goals try exact oH

theorem l3add_fs (C : Cx P gl) {x y : Int} {p q r : List PV} {s t u : Bool} (hp : p = intsL (dg x.natAbs)) (hs : s = decide (x < 0)) (hq : q = intsL (dg y.natAbs)) (ht : t = decide (y < 0))
  (hr : r = intsL (dg (x + y).natAbs)) (hu : u = decide (x + y < 0)) (hl : (dg x.natAbs).length ≤ 10000000) (hm : (dg y.natAbs).length ≤ 10000000) :
  FS P gl 144 [.agg [B s, .lst p], .agg [B t, .lst q]] (· = .agg [B u, .lst r]) := by
 have hx := valid_dg x.natAbs
 have hy := valid_dg y.natAbs
 have hvx := val_dg x.natAbs
 have hvy := val_dg y.natAbs
 have hll : (dg (x + y).natAbs).length ≤ 1000000000 := by
  have h1 := dg_len_add x.natAbs y.natAbs
  have h2 : (dg (x + y).natAbs).length ≤ (dg (x.natAbs + y.natAbs)).length := dg_len_mono (by omega)
  omega
 have h1 : t = s → val (dg x.natAbs) + val (dg y.natAbs) = ((x + y).natAbs : Nat) ∧ u = (s && decide ((x + y).natAbs ≠ 0)) := by
  intro h; rw [hvx, hvy, hu]
  rw [hs, ht] at h
  have h := decide_eq_decide.1 h
  refine ⟨by omega, ?_⟩
  rw [hs, Bool.eq_iff_iff, Bool.and_eq_true, decide_eq_true_eq, decide_eq_true_eq, decide_eq_true_eq]
  omega
 have h2 : t = (!s) → y.natAbs ≤ x.natAbs → val (dg x.natAbs) - val (dg y.natAbs) = ((x + y).natAbs : Nat) ∧ u = (s && decide ((x + y).natAbs ≠ 0)) := by
  intro h hle; rw [hvx, hvy, hu]
  rw [hs, ht] at h
  have h := dec_not h
  refine ⟨by omega, ?_⟩
  rw [hs, Bool.eq_iff_iff, Bool.and_eq_true, decide_eq_true_eq, decide_eq_true_eq, decide_eq_true_eq]
  omega
 have h3 : t = (!s) → x.natAbs < y.natAbs → val (dg y.natAbs) - val (dg x.natAbs) = ((x + y).natAbs : Nat) ∧ u = (t && decide ((x + y).natAbs ≠ 0)) := by
  intro h hle; rw [hvx, hvy, hu]
  rw [hs, ht] at h
  have h := dec_not h
  refine ⟨by omega, ?_⟩
  rw [ht, Bool.eq_iff_iff, Bool.and_eq_true, decide_eq_true_eq, decide_eq_true_eq, decide_eq_true_eq]
  omega
 have hm1 : y.natAbs ≤ x.natAbs → (dg y.natAbs).length ≤ (dg x.natAbs).length := dg_len_mono
 have hm2 : x.natAbs ≤ y.natAbs → (dg x.natAbs).length ≤ (dg y.natAbs).length := dg_len_mono
 obtain ⟨k, hk⟩ : ∃ k, k = cmpN x.natAbs y.natAbs := ⟨_, rfl⟩
 have hk1 : 0 ≤ k → y.natAbs ≤ x.natAbs := by rw [hk, cmpN]; intro h; repeat' split at h <;> first | omega | exact absurd h (by decide)
 have hk2 : k < 0 → x.natAbs < y.natAbs := by rw [hk, cmpN]; intro h; repeat' split at h <;> first | omega | exact absurd h (by decide)
 clear hvx hvy hs ht hu
 refine gS C func144 rfl rfl rfl fun A hA hI => ?_
 iterate 2 all_goals try cbv; with_reducible repeat' first | exact ⟨⟩ | apply And.intro | intro _
 all_goals try exact oH
 iterate 2 all_goals try cbv; with_reducible repeat' first | exact ⟨⟩ | apply And.intro | intro _
 all_goals try exact oH
 ·rename_i g
  obtain ⟨e1, e2⟩ := h1 (beq_t hA g)
  refine ⟨_, l2add_fs C hp hq hx hy e1 hr (by omega) (by omega), ?_⟩
  iterate 2 all_goals try cbv; with_reducible repeat' first | exact ⟨⟩ | apply And.intro | intro _
  all_goals try exact oH
  refine callS hA rfl (l3make_fs C hr e2 hll) ?_; rintro _ rfl
  iterate 2 all_goals try cbv; with_reducible repeat' first | exact ⟨⟩ | apply And.intro | intro _
  all_goals try exact oH
 ·rename_i g
  have g := beq_f hA g
  refine callS hA rfl (l2cmp_fs C hp hq hk (by omega) (by omega)) ?_; rintro _ rfl
  iterate 2 all_goals try cbv; with_reducible repeat' first | exact ⟨⟩ | apply And.intro | intro _
  all_goals try exact oH
  ·have g2 := hk1 (by exact eH)
   obtain ⟨e1, e2⟩ := h2 g g2
   refine ⟨_, l2sub_fs C hp hq hx hy e1 hr (by omega) (hm1 g2), ?_⟩
   iterate 2 all_goals try cbv; with_reducible repeat' first | exact ⟨⟩ | apply And.intro | intro _
   all_goals try exact oH
   refine callS hA rfl (l3make_fs C hr e2 hll) ?_; rintro _ rfl
   iterate 2 all_goals try cbv; with_reducible repeat' first | exact ⟨⟩ | apply And.intro | intro _
   all_goals try exact oH
  ·have g2 := hk2 (by exact eH)
   obtain ⟨e1, e2⟩ := h3 g g2
   have g3 := hm2 (Nat.le_of_lt g2)
   refine ⟨_, l2sub_fs C hq hp hy hx e1 hr (by omega) g3, ?_⟩
   iterate 2 all_goals try cbv; with_reducible repeat' first | exact ⟨⟩ | apply And.intro | intro _
   all_goals try exact oH
   refine callS hA rfl (l3make_fs C hr e2 hll) ?_; rintro _ rfl
   iterate 2 all_goals try cbv; with_reducible repeat' first | exact ⟨⟩ | apply And.intro | intro _
   all_goals try exact oH

end Tryz
end Go.Proofs

