/- Contracts: exact numbers, sums and orders. -/
import Derived.Test.YtlkiofkkjbodjaaGreatDoorDN11
set_option maxHeartbeats 1000000
set_option maxRecDepth 100000
namespace Go.Proofs
open Go Go.Pe Go.Dg
namespace Tryz
set_option linter.unusedSimpArgs false
set_option linter.unusedVariables false
variable {P : Program} {gl : List (Nat × Obj)}

theorem signedCompare_fs (C : Cx P gl) {x y : Int} {p q : List PV} {s t : Bool} {c : Int} (hp : p = intsL (dg x.natAbs)) (hs : s = decide (x < 0)) (hq : q = intsL (dg y.natAbs)) (ht : t = decide (y < 0))
  (hc : c = cmpZ x y) (hl : (dg x.natAbs).length ≤ 1000000000) (hm : (dg y.natAbs).length ≤ 1000000000) :
  FS P gl 256 [B s, .lst p, B t, .lst q] (· = I c) := by
 have h1 : s = true → t = (!s) → c = -1 := by
  intro h h'; rw [h'] at ht; rw [h] at hs ht; simp at hs ht; rw [hc, cmpZ, if_pos (by omega)]
 have h2 : s = false → t = (!s) → c = 1 := by
  intro h h'; rw [h'] at ht; rw [h] at hs ht; simp at hs ht; rw [hc, cmpZ, if_neg (by omega), if_pos (by omega)]
 have h3 : s = true → t = s → c = cmpN y.natAbs x.natAbs := by
  intro h h'; rw [h'] at ht; rw [h] at hs ht; simp at hs ht; rw [hc, cmpZ, cmpN]; repeat' split <;> omega
 have h4 : s = false → t = s → c = cmpN x.natAbs y.natAbs := by
  intro h h'; rw [h'] at ht; rw [h] at hs ht; simp at hs ht; rw [hc, cmpZ, cmpN]; repeat' split <;> omega
 clear hc hs ht
 refine gS C func256 rfl rfl rfl fun A hA hI => ?_
 iterate 2 all_goals try cbv; with_reducible repeat' first | exact ⟨⟩ | apply And.intro | intro _
 all_goals try exact oH
 iterate 2 all_goals try cbv; with_reducible repeat' first | exact ⟨⟩ | apply And.intro | intro _
 all_goals try exact oH
 ·rename_i g
  obtain ⟨g1, g2⟩ : s = true ∧ t = !s := by subst hA; cases s <;> cases t <;> first | exact ⟨rfl, rfl⟩ | exact absurd g (by decide)
  rw [h1 g1 g2]
 ·rename_i g' g
  obtain ⟨g1, g2⟩ : s = false ∧ t = !s := by subst hA; cases s <;> cases t <;> first | exact ⟨rfl, rfl⟩ | exact absurd g (by decide)
  rw [h2 g1 g2]
 ·rename_i g' g g1
  have g2 : t = s := by subst hA; cases s <;> cases t <;> first | rfl | exact absurd g (by decide) | exact absurd g' (by decide)
  refine callS hA rfl (compare_fs C hq hp (h3 g1 g2) hm) ?_; rintro _ rfl
  iterate 2 all_goals try cbv; with_reducible repeat' first | exact ⟨⟩ | apply And.intro | intro _
  all_goals try exact oH
 ·rename_i g' g g1
  have g2 : t = s := by subst hA; cases s <;> cases t <;> first | rfl | exact absurd g (by decide) | exact absurd g' (by decide)
  refine callS hA rfl (compare_fs C hp hq (h4 g1 g2) hl) ?_; rintro _ rfl
  iterate 2 all_goals try cbv; with_reducible repeat' first | exact ⟨⟩ | apply And.intro | intro _
  all_goals try exact oH

theorem signedSum_fs (C : Cx P gl) {x y : Int} {p q r : List PV} {s t u : Bool} (hp : p = intsL (dg x.natAbs)) (hq : q = intsL (dg y.natAbs)) (h : sumS x y s t u)
  (hr : r = intsL (dg (x + y).natAbs)) (hl : (dg x.natAbs).length ≤ 10000000) (hm : (dg y.natAbs).length ≤ 10000000) :
  FS P gl 157 [B s, .lst p, B t, .lst q] (· = .tup [B u, .lst r]) := by
 have hx := valid_dg x.natAbs
 have hy := valid_dg y.natAbs
 obtain ⟨h1, h2, h3⟩ := h
 have hm1 : y.natAbs ≤ x.natAbs → (dg y.natAbs).length ≤ (dg x.natAbs).length := dg_len_mono
 have hm2 : x.natAbs ≤ y.natAbs → (dg x.natAbs).length ≤ (dg y.natAbs).length := dg_len_mono
 obtain ⟨k, hk⟩ : ∃ k, k = cmpN x.natAbs y.natAbs := ⟨_, rfl⟩
 have hk1 : 0 ≤ k → y.natAbs ≤ x.natAbs := by rw [hk, cmpN]; intro h; repeat' split at h <;> first | omega | exact absurd h (by decide)
 have hk2 : k < 0 → x.natAbs < y.natAbs := by rw [hk, cmpN]; intro h; repeat' split at h <;> first | omega | exact absurd h (by decide)
 refine gS C func157 rfl rfl rfl fun A hA hI => ?_
 iterate 2 all_goals try cbv; with_reducible repeat' first | exact ⟨⟩ | apply And.intro | intro _
 all_goals try exact oH
 iterate 2 all_goals try cbv; with_reducible repeat' first | exact ⟨⟩ | apply And.intro | intro _
 all_goals try exact oH
 ·rename_i g
  obtain ⟨e1, rfl⟩ := h1 (beq_t hA g)
  refine callS hA rfl (plus_fs C hp hq hx hy e1 hr (by omega) (by omega)) ?_; rintro _ rfl
  iterate 2 all_goals try cbv; with_reducible repeat' first | exact ⟨⟩ | apply And.intro | intro _
  all_goals try exact oH
 ·rename_i g
  have g := beq_f hA g
  refine callS hA rfl (compare_fs C hp hq hk (by omega)) ?_; rintro _ rfl
  iterate 2 all_goals try cbv; with_reducible repeat' first | exact ⟨⟩ | apply And.intro | intro _
  all_goals try exact oH
  ·have g2 := hk1 (by exact eH)
   obtain ⟨e1, rfl⟩ := h2 g g2
   refine callS hA rfl (minus_fs C hp hq hx hy e1 hr (by omega) (hm1 g2)) ?_; rintro _ rfl
   iterate 2 all_goals try cbv; with_reducible repeat' first | exact ⟨⟩ | apply And.intro | intro _
   all_goals try exact oH
  ·have g2 := hk2 (by exact eH)
   obtain ⟨e1, rfl⟩ := h3 g g2
   have g3 := hm2 (Nat.le_of_lt g2)
   iterate 2 all_goals try cbv; with_reducible repeat' first | exact ⟨⟩ | apply And.intro | intro _
   all_goals try exact oH
   refine callS hA rfl (minus_fs C hq hp hy hx e1 hr (by omega) g3) ?_; rintro _ rfl
   iterate 2 all_goals try cbv; with_reducible repeat' first | exact ⟨⟩ | apply And.intro | intro _
   all_goals try exact oH

theorem exactCompare_fs (C : Cx P gl) {z1 e1 z2 e2 c : Int} {p q : List PV} {s t : Bool} (hp : p = intsL (dg z1.natAbs)) (hs : s = decide (z1 < 0)) (hq : q = intsL (dg z2.natAbs)) (ht : t = decide (z2 < 0))
  (hc : c = cmpD (mk z1 e1) (mk z2 e2)) (h1 : e1.natAbs ≤ 100000) (h2 : e2.natAbs ≤ 100000) (hl : (dg z1.natAbs).length ≤ 1000000) (hm : (dg z2.natAbs).length ≤ 1000000) :
  FS P gl 225 [.agg [B s, .lst p, I e1], .agg [B t, .lst q, I e2]] (· = I c) := by
 obtain ⟨y, x, e, ha⟩ := align_ex z2 e2 z1 e1
 obtain ⟨v2, v1⟩ := align_mk ha
 obtain ⟨b2, b1, b3⟩ := align_len ha hm hl h2 h1
 have hsx : s = decide (x < 0) := by rw [hs, decide_eq_decide]; exact (align_sgn ha).2.symm
 have hty : t = decide (y < 0) := by rw [ht, decide_eq_decide]; exact (align_sgn ha).1.symm
 obtain ⟨p', hp'⟩ : ∃ p', p' = intsL (dg x.natAbs) := ⟨_, rfl⟩
 obtain ⟨q', hq'⟩ : ∃ p', p' = intsL (dg y.natAbs) := ⟨_, rfl⟩
 have hc' : c = cmpZ x y := by rw [hc, ← v1, ← v2, cmpD_mk]
 clear hc
 refine gS C func225 rfl rfl rfl fun A hA hI => ?_
 iterate 2 all_goals try cbv; with_reducible repeat' first | exact ⟨⟩ | apply And.intro | intro _
 all_goals try exact oH
 refine callS hA rfl (aligned_fs C hp hq ha hp' hq' h1 h2 hl hm) ?_; rintro _ rfl
 iterate 2 all_goals try cbv; with_reducible repeat' first | exact ⟨⟩ | apply And.intro | intro _
 all_goals try exact oH
 refine callS hA rfl (signedCompare_fs C hp' hsx hq' hty hc' (by omega) (by omega)) ?_; rintro _ rfl
 iterate 2 all_goals try cbv; with_reducible repeat' first | exact ⟨⟩ | apply And.intro | intro _
 all_goals try exact oH

theorem exactPlus_fs (C : Cx P gl) {z1 e1 z2 e2 w f : Int} {p q r : List PV} {s t u : Bool} (hp : p = intsL (dg z1.natAbs)) (hs : s = decide (z1 < 0)) (hq : q = intsL (dg z2.natAbs)) (ht : t = decide (z2 < 0))
  (hd : sumD z1 e1 z2 e2 w f) (hr : r = intsL (dg w.natAbs)) (hu : u = decide (w < 0))
  (h1 : e1.natAbs ≤ 100000) (h2 : e2.natAbs ≤ 100000) (hl : (dg z1.natAbs).length ≤ 1000000) (hm : (dg z2.natAbs).length ≤ 1000000) :
  FS P gl 81 [.agg [B s, .lst p, I e1], .agg [B t, .lst q, I e2]] (· = .agg [B u, .lst r, I f]) := by
 obtain ⟨x, y, ha, rfl⟩ := hd
 obtain ⟨b2, b1, b3⟩ := align_len ha hm hl h2 h1
 have hsx : s = decide (x < 0) := by rw [hs, decide_eq_decide]; exact (align_sgn ha).2.symm
 have hty : t = decide (y < 0) := by rw [ht, decide_eq_decide]; exact (align_sgn ha).1.symm
 obtain ⟨p', hp'⟩ : ∃ p', p' = intsL (dg x.natAbs) := ⟨_, rfl⟩
 obtain ⟨q', hq'⟩ : ∃ p', p' = intsL (dg y.natAbs) := ⟨_, rfl⟩
 obtain ⟨v, hv, hvu⟩ := sum_ex (x := x) (y := y) (s := s) (t := t) (by rw [hsx]; exact sgn_dec x) (by rw [hty]; exact sgn_dec y)
 rw [← hu] at hvu
 clear hu
 refine gS C func81 rfl rfl rfl fun A hA hI => ?_
 iterate 2 all_goals try cbv; with_reducible repeat' first | exact ⟨⟩ | apply And.intro | intro _
 all_goals try exact oH
 refine callS hA rfl (aligned_fs C hp hq ha hp' hq' h1 h2 hl hm) ?_; rintro _ rfl
 iterate 2 all_goals try cbv; with_reducible repeat' first | exact ⟨⟩ | apply And.intro | intro _
 all_goals try exact oH
 refine callS hA rfl (signedSum_fs C hp' hq' hv hr (by omega) (by omega)) ?_; rintro _ rfl
 iterate 2 all_goals try cbv; with_reducible repeat' first | exact ⟨⟩ | apply And.intro | intro _
 all_goals try exact oH
 have e0 := len_d hA hr
 have e1 : A.pick v (decide ((dg (x + y).natAbs).length ≠ 0)) false = u := by subst hA; rw [← hvu]; cases v <;> rfl
 simp only [e0, e1]

end Tryz
end Go.Proofs
