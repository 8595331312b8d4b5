/- Contracts: the reference's dyadic numbers. -/
import Derived.Test.YtlkiofkkjbodjaaGreatDoorDN7
set_option maxHeartbeats 1000000
set_option maxRecDepth 100000
namespace Go.Proofs
open Go Go.Pe Go.Dg
namespace Tryz
set_option linter.unusedSimpArgs false
set_option linter.unusedVariables false
variable {P : Program} {gl : List (Nat × Obj)}

theorem len_t {A : AR} (hA : A = AR.std) {p : List PV} {l : List Int} (hp : p = intsL l) (h : A.eq (A.cast (A.len p)) 0 = true) : l.length = 0 := by
 exact eH
theorem len_f {A : AR} (hA : A = AR.std) {p : List PV} {l : List Int} (hp : p = intsL l) (h : A.eq (A.cast (A.len p)) 0 = false) : l.length ≠ 0 := by
 exact eH

theorem l4neg_fs (C : Cx P gl) {z e : Int} {p : List PV} {s s' : Bool} (hp : p = intsL (dg z.natAbs)) (hs : s = decide (z < 0)) (hs' : s' = decide (0 < z)) (hl : (dg z.natAbs).length ≤ 1000000000) :
  FS P gl 140 [.agg [B s, .lst p, I e]] (· = .agg [B s', .lst p, I e]) := by
 refine gS C func140 rfl rfl rfl fun A hA hI => ?_
 iterate 2 all_goals try cbv; with_reducible repeat' first | exact ⟨⟩ | apply And.intro | intro _
 all_goals try exact oH
 refine ⟨_, l3neg_fs C hp hs hs' hl, ?_⟩
 iterate 2 all_goals try cbv; with_reducible repeat' first | exact ⟨⟩ | apply And.intro | intro _
 all_goals try exact oH

theorem l4make_fs (C : Cx P gl) {z e f : Int} {p r : List PV} {s u : Bool} {d : Dyadic} (hp : p = intsL (dg z.natAbs)) (hs : s = decide (z < 0)) (hd : d = mk z e)
  (hr : r = intsL (dg (cZ d).natAbs)) (hu : u = decide (cZ d < 0)) (hf : f = cE d) (h0 : e.natAbs ≤ 1000000000) (hl : (dg z.natAbs).length ≤ 10000000) :
  FS P gl 129 [.agg [B s, .lst p], I e] (· = .agg [B u, .lst r, I f]) := by
 have hz : z = 0 → r = [] ∧ u = false ∧ f = 0 := by
  intro h
  rw [h] at hd
  rw [hr, hu, hf, hd, mk_zero, cZ_zero, cE_zero]
  exact ⟨by rw [show (0 : Int).natAbs = 0 from rfl, dg_zero]; rfl, rfl, rfl⟩
 have hz2 : (dg z.natAbs).length = 0 → z = 0 := by
  intro h
  have := List.eq_nil_of_length_eq_zero h
  rw [← dg_zero] at this
  have := dg_inj this
  omega
 have hnz : z ≠ 0 → ∃ (k m : Nat) (c : Int), c = k ∧ 0 ≤ c ∧ c ≤ 160000000 ∧ z.natAbs = 2 ^ k * (2 * m + 1) ∧ r = intsL (dg (z.natAbs / 2 ^ c.toNat)) ∧ u = (s && decide (z.natAbs / 2 ^ c.toNat ≠ 0)) ∧ f = e + c ∧ (dg (z.natAbs / 2 ^ c.toNat)).length ≤ 10000000 := by
  intro h
  obtain ⟨k, m, hk⟩ := two_odd (x := z.natAbs) (by omega)
  obtain ⟨l1, l2, l3⟩ := make_law (e := e) hk
  have hdv : z.natAbs / 2 ^ k = 2 * m + 1 := by rw [hk, Nat.mul_div_cancel_left _ (Nat.two_pow_pos k)]
  have hkb : k < 16 * (dg z.natAbs).length := by
   have h1 := dg_lt_pow z.natAbs
   rw [show (65536 : Nat) = 2 ^ 16 from rfl, ← Nat.pow_mul] at h1
   have h3 : 2 ^ k ≤ z.natAbs := by rw [hk]; exact Nat.le_mul_of_pos_right _ (by omega)
   exact (Nat.pow_lt_pow_iff_right (by decide : 1 < 2)).1 (Nat.lt_of_le_of_lt h3 h1)
  refine ⟨k, m, k, rfl, by omega, by omega, hk, ?_, ?_, ?_, ?_⟩
  ·rw [Int.toNat_natCast, hdv, hr, hd, l1]
  ·rw [Int.toNat_natCast, hdv, hu, hd, l3, hs]; simp
  ·rw [hf, hd, l2]
  ·rw [Int.toNat_natCast]
   exact Nat.le_trans (dg_len_mono (Nat.div_le_self _ _)) hl
 clear hr hu hf hd
 refine gS C func129 rfl rfl rfl fun A hA hI => ?_
 iterate 2 all_goals try cbv; with_reducible repeat' first | exact ⟨⟩ | apply And.intro | intro _
 all_goals try exact oH
 iterate 2 all_goals try cbv; with_reducible repeat' first | exact ⟨⟩ | apply And.intro | intro _
 all_goals try exact oH
 ·have h := hz2 (by exact eH)
  obtain ⟨rfl, rfl, rfl⟩ := hz h
  rfl
 have h : z ≠ 0 := by
  rintro rfl
  have e : (dg (0 : Int).natAbs).length = 0 := by rw [show (0 : Int).natAbs = 0 from rfl, dg_zero]; rfl
  exact eH
 obtain ⟨k, m, c, hc, hc0, hc1, hk, hr, hu, hf, hlr⟩ := hnz h
 clear hnz hz hz2
 refine callS hA rfl (l2trail_fs C hp hk hc (by omega)) ?_; rintro _ rfl
 iterate 2 all_goals try cbv; with_reducible repeat' first | exact ⟨⟩ | apply And.intro | intro _
 all_goals try exact oH
 refine ⟨_, l2shr_fs C hp hc0 (by omega) (by omega) hr, ?_⟩
 iterate 2 all_goals try cbv; with_reducible repeat' first | exact ⟨⟩ | apply And.intro | intro _
 all_goals try exact oH
 refine ⟨_, l3make_fs C hr hu (by omega), ?_⟩
 iterate 2 all_goals try cbv; with_reducible repeat' first | exact ⟨⟩ | apply And.intro | intro _
 all_goals try exact oH
 have e1 : A.add .i64 e c = f := by clear hr hu hk hc hlr; (subst hA; subst_vars; simp only [AR.std, natCast_eq, sH, reduceCtorEq] at *; try simp (disch := omega) only [AR.std, natCast_eq, sH, reduceCtorEq] at *)
 simp only [e1]

theorem l4align_fs (C : Cx P gl) {z1 e1 z2 e2 x y e : Int} {p q p' q' : List PV} {s t s' t' : Bool} (hp : p = intsL (dg z1.natAbs)) (hs : s = decide (z1 < 0)) (hq : q = intsL (dg z2.natAbs)) (ht : t = decide (z2 < 0))
  (hI : alignI z1 e1 z2 e2 x y e) (hp' : p' = intsL (dg x.natAbs)) (hs' : s' = decide (x < 0)) (hq' : q' = intsL (dg y.natAbs)) (ht' : t' = decide (y < 0))
  (h1 : e1.natAbs ≤ 100000) (h2 : e2.natAbs ≤ 100000) (hl : (dg z1.natAbs).length ≤ 1000000) (hm : (dg z2.natAbs).length ≤ 1000000) :
  FS P gl 143 [.agg [B s, .lst p, I e1], .agg [B t, .lst q, I e2]] (· = .tup [.agg [B s', .lst p'], .agg [B t', .lst q'], I e]) := by
 have hn : ∀ (z : Int) (k : Nat), (z * 2 ^ k).natAbs = z.natAbs * 2 ^ k := by
  intro z k; rw [Int.natAbs_mul, Int.natAbs_pow]; rfl
 have hneg : ∀ (z : Int) (k : Nat), decide (z * 2 ^ k < 0) = (decide (z < 0) && decide (z.natAbs * 2 ^ k ≠ 0)) := by
  intro z k
  have hk : (0 : Int) < 2 ^ k := Int.pow_pos (by decide)
  have hk2 : 0 < 2 ^ k := Nat.two_pow_pos k
  rw [Bool.eq_iff_iff, Bool.and_eq_true, decide_eq_true_eq, decide_eq_true_eq, decide_eq_true_eq]
  constructor
  ·intro h
   have hz : z < 0 := by
    rcases Int.lt_or_le z 0 with h' | h'
    ·exact h'
    ·exact absurd h (Int.not_lt.2 (Int.mul_nonneg h' (Int.le_of_lt hk)))
   exact ⟨hz, Nat.mul_ne_zero (by omega) (by omega)⟩
  ·rintro ⟨h, _⟩
   exact Int.mul_neg_of_neg_of_pos h hk
 obtain ⟨b1, b2, b3, b4⟩ := hI
 have l0 : ∀ z : Int, (dg z.natAbs).length = 0 → z = 0 := by
  intro z h
  have := List.eq_nil_of_length_eq_zero h
  rw [← dg_zero] at this
  have := dg_inj this
  omega
 have l1 : (dg z1.natAbs).length = 0 → z1 = 0 := l0 z1
 have l2 : (dg z2.natAbs).length = 0 → z2 = 0 := l0 z2
 have k1 : z1 = 0 → (dg z1.natAbs).length = 0 := by intro h; rw [h, show (0 : Int).natAbs = 0 from rfl, dg_zero]; rfl
 have k2 : z2 = 0 → (dg z2.natAbs).length = 0 := by intro h; rw [h, show (0 : Int).natAbs = 0 from rfl, dg_zero]; rfl
 have c1 : z1 = 0 → s' = s ∧ p' = p ∧ t' = t ∧ q' = q ∧ e = e2 := by
  intro h; obtain ⟨rfl, rfl, rfl⟩ := b1 h; exact ⟨by rw [hs', hs], by rw [hp', hp], by rw [ht', ht], by rw [hq', hq], rfl⟩
 have c2 : z1 ≠ 0 → z2 = 0 → s' = s ∧ p' = p ∧ t' = t ∧ q' = q ∧ e = e1 := by
  intro h h'; obtain ⟨rfl, rfl, rfl⟩ := b2 h h'; exact ⟨by rw [hs', hs], by rw [hp', hp], by rw [ht', ht], by rw [hq', hq], rfl⟩
 have c3 : z1 ≠ 0 → z2 ≠ 0 → e1 ≤ e2 → s' = s ∧ p' = p ∧ t' = (t && decide (z2.natAbs * 2 ^ (e2 - e1).toNat ≠ 0)) ∧ q' = intsL (dg (z2.natAbs * 2 ^ (e2 - e1).toNat)) ∧ e = e1 := by
  intro h h' h3; obtain ⟨rfl, rfl, rfl⟩ := b3 h h' h3; exact ⟨by rw [hs', hs], by rw [hp', hp], by rw [ht', ht, hneg], by rw [hq', hn], rfl⟩
 have c4 : z1 ≠ 0 → z2 ≠ 0 → e2 < e1 → s' = (s && decide (z1.natAbs * 2 ^ (e1 - e2).toNat ≠ 0)) ∧ p' = intsL (dg (z1.natAbs * 2 ^ (e1 - e2).toNat)) ∧ t' = t ∧ q' = q ∧ e = e2 := by
  intro h h' h3; obtain ⟨rfl, rfl, rfl⟩ := b4 h h' h3; exact ⟨by rw [hs', hs, hneg], by rw [hp', hn], by rw [ht', ht], by rw [hq', hq], rfl⟩
 have m1 := dg_len_shl z2.natAbs (e2 - e1).toNat
 have m2 := dg_len_shl z1.natAbs (e1 - e2).toNat
 clear b1 b2 b3 b4 hs' hp' ht' hq' l0 hn hneg
 generalize hA1 : z2.natAbs * 2 ^ (e2 - e1).toNat = w2 at *
 generalize hA2 : z1.natAbs * 2 ^ (e1 - e2).toNat = w1 at *
 refine gS C func143 rfl rfl rfl fun A hA hI => ?_
 iterate 2 all_goals try cbv; with_reducible repeat' first | exact ⟨⟩ | apply And.intro | intro _
 all_goals try exact oH
 iterate 2 all_goals try cbv; with_reducible repeat' first | exact ⟨⟩ | apply And.intro | intro _
 all_goals try exact oH
 ·rename_i g
  obtain ⟨rfl, rfl, rfl, rfl, rfl⟩ := c1 (l1 (len_t hA hp g))
  rfl
 ·rename_i g g2
  have n1 : z1 ≠ 0 := fun h => len_f hA hp g (k1 h)
  obtain ⟨rfl, rfl, rfl, rfl, rfl⟩ := c2 n1 (l2 (len_t hA hq g2))
  rfl
 ·rename_i g g2 g3
  have n1 : z1 ≠ 0 := fun h => len_f hA hp g (k1 h)
  have n2 : z2 ≠ 0 := fun h => len_f hA hq g2 (k2 h)
  have g3 : e1 ≤ e2 := by subst hA; exact of_decide_eq_true g3
  have e0 : A.sub .i64 e2 e1 = e2 - e1 := by subst hA; exact wrapi (by omega) (by omega)
  obtain ⟨rfl, rfl, d3, d4, rfl⟩ := c3 n1 n2 g3
  refine ⟨_, l2shl_fs C hq (r := q') (k := A.sub .i64 e2 e) (by rw [e0]; omega) (by rw [e0]; omega) (by omega) (by rw [e0, hA1]; exact d4), ?_⟩
  iterate 2 all_goals try cbv; with_reducible repeat' first | exact ⟨⟩ | apply And.intro | intro _
  all_goals try exact oH
  refine ⟨_, l3make_fs C d4 d3 (by omega), ?_⟩
  iterate 2 all_goals try cbv; with_reducible repeat' first | exact ⟨⟩ | apply And.intro | intro _
  all_goals try exact oH
 ·rename_i g g2 g3
  have n1 : z1 ≠ 0 := fun h => len_f hA hp g (k1 h)
  have n2 : z2 ≠ 0 := fun h => len_f hA hq g2 (k2 h)
  have g3 : e2 < e1 := by subst hA; exact Int.not_le.1 (of_decide_eq_false g3)
  have e0 : A.sub .i64 e1 e2 = e1 - e2 := by subst hA; exact wrapi (by omega) (by omega)
  obtain ⟨d1, d2, rfl, rfl, rfl⟩ := c4 n1 n2 g3
  refine ⟨_, l2shl_fs C hp (r := p') (k := A.sub .i64 e1 e) (by rw [e0]; omega) (by rw [e0]; omega) (by omega) (by rw [e0, hA2]; exact d2), ?_⟩
  iterate 2 all_goals try cbv; with_reducible repeat' first | exact ⟨⟩ | apply And.intro | intro _
  all_goals try exact oH
  refine ⟨_, l3make_fs C d2 d1 (by omega), ?_⟩
  iterate 2 all_goals try cbv; with_reducible repeat' first | exact ⟨⟩ | apply And.intro | intro _
  all_goals try exact oH

theorem l4add_fs (C : Cx P gl) {z1 e1 z2 e2 f : Int} {p q r : List PV} {s t u : Bool} {d : Dyadic} (hp : p = intsL (dg z1.natAbs)) (hs : s = decide (z1 < 0)) (hq : q = intsL (dg z2.natAbs)) (ht : t = decide (z2 < 0))
  (hd : d = mk z1 e1 + mk z2 e2) (hr : r = intsL (dg (cZ d).natAbs)) (hu : u = decide (cZ d < 0)) (hf : f = cE d)
  (h1 : e1.natAbs ≤ 100000) (h2 : e2.natAbs ≤ 100000) (hl : (dg z1.natAbs).length ≤ 1000000) (hm : (dg z2.natAbs).length ≤ 1000000) :
  FS P gl 70 [.agg [B s, .lst p, I e1], .agg [B t, .lst q, I e2]] (· = .agg [B u, .lst r, I f]) := by
 obtain ⟨x, y, e, ha⟩ := align_ex z1 e1 z2 e2
 obtain ⟨v1, v2⟩ := align_mk ha
 obtain ⟨b1, b2, b3⟩ := align_len ha hl hm h1 h2
 obtain ⟨p', hp'⟩ : ∃ p', p' = intsL (dg x.natAbs) := ⟨_, rfl⟩
 obtain ⟨q', hq'⟩ : ∃ p', p' = intsL (dg y.natAbs) := ⟨_, rfl⟩
 obtain ⟨s', hs'⟩ : ∃ s', s' = decide (x < 0) := ⟨_, rfl⟩
 obtain ⟨t', ht'⟩ : ∃ s', s' = decide (y < 0) := ⟨_, rfl⟩
 obtain ⟨r', hr'⟩ : ∃ p', p' = intsL (dg (x + y).natAbs) := ⟨_, rfl⟩
 obtain ⟨u', hu'⟩ : ∃ s', s' = decide (x + y < 0) := ⟨_, rfl⟩
 have hd' : d = mk (x + y) e := by rw [hd, ← v1, ← v2, mk_add]
 have hlr : (dg (x + y).natAbs).length ≤ 10000000 := by
  have h1 := dg_len_add x.natAbs y.natAbs
  have h2 : (dg (x + y).natAbs).length ≤ (dg (x.natAbs + y.natAbs)).length := dg_len_mono (by omega)
  omega
 refine gS C func70 rfl rfl rfl fun A hA hI => ?_
 iterate 2 all_goals try cbv; with_reducible repeat' first | exact ⟨⟩ | apply And.intro | intro _
 all_goals try exact oH
 refine callS hA rfl (l4align_fs C hp hs hq ht ha hp' hs' hq' ht' h1 h2 hl hm) ?_; rintro _ rfl
 iterate 2 all_goals try cbv; with_reducible repeat' first | exact ⟨⟩ | apply And.intro | intro _
 all_goals try exact oH
 refine callS hA rfl (l3add_fs C hp' hs' hq' ht' hr' hu' (by omega) (by omega)) ?_; rintro _ rfl
 iterate 2 all_goals try cbv; with_reducible repeat' first | exact ⟨⟩ | apply And.intro | intro _
 all_goals try exact oH
 refine callS hA rfl (l4make_fs C hr' hu' hd' hr hu hf (by omega) hlr) ?_; rintro _ rfl
 iterate 2 all_goals try cbv; with_reducible repeat' first | exact ⟨⟩ | apply And.intro | intro _
 all_goals try exact oH

end Tryz
end Go.Proofs
