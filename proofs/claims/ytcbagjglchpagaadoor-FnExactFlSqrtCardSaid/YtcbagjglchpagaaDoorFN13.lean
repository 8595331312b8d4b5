/- Contracts: exact numbers, differences and odd forms. -/
import Derived.Test.YtcbagjglchpagaaDoorFN31
namespace Go.Proofs
open Go Go.Pe Go.Dg
namespace Tryd
set_option linter.unusedSimpArgs false
set_option linter.unusedVariables false
variable {P : Program} {gl : List (Nat × Obj)}

end Tryd
end Go.Proofs

namespace Go.Proofs
open Go Go.Pe Go.Dg
namespace Tryd
set_option linter.unusedSimpArgs false
set_option linter.unusedVariables false
variable {P : Program} {gl : List (Nat × Obj)}

theorem min_std2 (a b : Int) : AR.std.min a b = min a b := by show (if b < a then b else a) = _; split <;> omega

theorem max_sub {A : AR} (hA : A = AR.std) {a w e : Int} (hw : w = e) (h1 : a.natAbs ≤ 100000) (h2 : e.natAbs ≤ 100000) : A.max (A.sub .i64 a w) 0 = max (a - e) 0 := by
  subst hA hw
  have h : AR.std.sub .i64 a w = a - w := wrapi (by omega) (by omega)
  rw [h]
  show (if (0 : Int) > a - w then (0 : Int) else a - w) = _
  split <;> omega

set_option maxHeartbeats 1000000 in
set_option maxRecDepth 100000 in
theorem aligned_fs (C : Cx P gl) {z1 e1 z2 e2 x y e : Int} {p q p' q' : List PV} {s t : Bool} (hp : p = intsL (dg z1.natAbs)) (hq : q = intsL (dg z2.natAbs))
    (hI : alignI z2 e2 z1 e1 y x e) (hp' : p' = intsL (dg x.natAbs)) (hq' : q' = intsL (dg y.natAbs))
    (h1 : e1.natAbs ≤ 100000) (h2 : e2.natAbs ≤ 100000) (hl : (dg z1.natAbs).length ≤ 1000000) (hm : (dg z2.natAbs).length ≤ 1000000) :
    FS P gl 168 [.agg [B s, .lst p, I e1], .agg [B t, .lst q, I e2]] (· = .tup [.lst p', .lst q', I e]) := by
  obtain ⟨u1, u2, d1, d2, d3⟩ := align_up hI
  have b3 := (align_len hI hm hl h2 h1).2.2
  have hx := valid_dg z1.natAbs
  have hy := valid_dg z2.natAbs
  have k1 : (dg z1.natAbs).length = 0 ↔ z1 = 0 := by rw [dg_len0]; omega
  have k2 : (dg z2.natAbs).length = 0 ↔ z2 = 0 := by rw [dg_len0]; omega
  have v1 : val (dg z1.natAbs) * 2 ^ (max (e1 - e) 0).toNat = (x.natAbs : Nat) := by rw [val_dg, ← u1, Int.natCast_mul, Int.natCast_pow]; rfl
  have v2 : val (dg z2.natAbs) * 2 ^ (max (e2 - e) 0).toNat = (y.natAbs : Nat) := by rw [val_dg, ← u2, Int.natCast_mul, Int.natCast_pow]; rfl
  clear hI u1 u2
  obtain ⟨rfl, hG⟩ := C
  refine FS_ofT (args := fun A => [.agg [B s, .lst p, I e1], .agg [B t, .lst q, I e2]]) (R := fun A rr => rr = .tup [.lst p', .lst q', I e]) Tryd.hT Tryd.mix Tryd.func168 rfl rfl (Nat.le_of_ble_eq_true rfl) ?_
  generalize hP : Tryd.prog = P
  intro A hA
  have C : Tryd.Cx P gl := ⟨hP.symm, hG⟩
  have hI : intsL = A.ints := by subst hA; rfl
  iterate 2 (all_goals try cbv; all_goals repeat' (first | with_reducible exact True.intro | with_reducible refine And.intro ?_ ?_ | intro _))
  all_goals try exact oH
  iterate 2 (all_goals try cbv; all_goals repeat' (first | with_reducible exact True.intro | with_reducible refine And.intro ?_ ?_ | intro _))
  all_goals try exact oH
  · rename_i g1 g2
    have hw : e1 = e := (d1 (k2.1 (len_t hA hq g2))).symm
    refine ⟨_, up_fs C hp hx (max_sub hA hw h1 b3) v1 hp' (by omega) (by omega) (by omega), ?_⟩
    iterate 2 (all_goals try cbv; all_goals repeat' (first | with_reducible exact True.intro | with_reducible refine And.intro ?_ ?_ | intro _))
    all_goals try exact oH
    refine ⟨_, up_fs C hq hy (max_sub hA hw h2 b3) v2 hq' (by omega) (by omega) (by omega), ?_⟩
    iterate 2 (all_goals try cbv; all_goals repeat' (first | with_reducible exact True.intro | with_reducible refine And.intro ?_ ?_ | intro _))
    all_goals try exact oH
    simp only [hw]
  · rename_i g1 g2
    have hw : e2 = e := (d2 (fun h => len_f hA hq g2 (k2.2 h)) (k1.1 (len_t hA hp g1))).symm
    refine ⟨_, up_fs C hp hx (max_sub hA hw h1 b3) v1 hp' (by omega) (by omega) (by omega), ?_⟩
    iterate 2 (all_goals try cbv; all_goals repeat' (first | with_reducible exact True.intro | with_reducible refine And.intro ?_ ?_ | intro _))
    all_goals try exact oH
    refine ⟨_, up_fs C hq hy (max_sub hA hw h2 b3) v2 hq' (by omega) (by omega) (by omega), ?_⟩
    iterate 2 (all_goals try cbv; all_goals repeat' (first | with_reducible exact True.intro | with_reducible refine And.intro ?_ ?_ | intro _))
    all_goals try exact oH
    simp only [hw]
  · rename_i g1 g2
    have hw : e1 = e := (d1 (k2.1 (len_t hA hq g2))).symm
    refine ⟨_, up_fs C hp hx (max_sub hA hw h1 b3) v1 hp' (by omega) (by omega) (by omega), ?_⟩
    iterate 2 (all_goals try cbv; all_goals repeat' (first | with_reducible exact True.intro | with_reducible refine And.intro ?_ ?_ | intro _))
    all_goals try exact oH
    refine ⟨_, up_fs C hq hy (max_sub hA hw h2 b3) v2 hq' (by omega) (by omega) (by omega), ?_⟩
    iterate 2 (all_goals try cbv; all_goals repeat' (first | with_reducible exact True.intro | with_reducible refine And.intro ?_ ?_ | intro _))
    all_goals try exact oH
    simp only [hw]
  · rename_i g1 g2
    have hw : A.min e1 e2 = e := by rw [d3 (fun h => len_f hA hq g2 (k2.2 h)) (fun h => len_f hA hp g1 (k1.2 h))]; subst hA; exact min_std2 _ _
    refine ⟨_, up_fs C hp hx (max_sub hA hw h1 b3) v1 hp' (by omega) (by omega) (by omega), ?_⟩
    iterate 2 (all_goals try cbv; all_goals repeat' (first | with_reducible exact True.intro | with_reducible refine And.intro ?_ ?_ | intro _))
    all_goals try exact oH
    refine ⟨_, up_fs C hq hy (max_sub hA hw h2 b3) v2 hq' (by omega) (by omega) (by omega), ?_⟩
    iterate 2 (all_goals try cbv; all_goals repeat' (first | with_reducible exact True.intro | with_reducible refine And.intro ?_ ?_ | intro _))
    all_goals try exact oH
    simp only [hw]

end Tryd
end Go.Proofs

namespace Go.Proofs
open Go Go.Pe Go.Dg
namespace Tryd
set_option linter.unusedSimpArgs false
set_option linter.unusedVariables false
variable {P : Program} {gl : List (Nat × Obj)}

set_option maxHeartbeats 1000000 in
set_option maxRecDepth 100000 in
theorem signedCompare_fs (C : Cx P gl) {x y : Int} {p q : List PV} {s t : Bool} {c : Int} (hp : p = intsL (dg x.natAbs)) (hs : s = decide (x < 0)) (hq : q = intsL (dg y.natAbs)) (ht : t = decide (y < 0))
    (hc : c = cmpZ x y) (hl : (dg x.natAbs).length ≤ 1000000000) (hm : (dg y.natAbs).length ≤ 1000000000) :
    FS P gl 169 [B s, .lst p, B t, .lst q] (· = I c) := by
  have h1 : s = true → t = (!s) → c = -1 := by
    intro h h'; rw [h'] at ht; rw [h] at hs ht; simp at hs ht; rw [hc, cmpZ, if_pos (by omega)]
  have h2 : s = false → t = (!s) → c = 1 := by
    intro h h'; rw [h'] at ht; rw [h] at hs ht; simp at hs ht; rw [hc, cmpZ, if_neg (by omega), if_pos (by omega)]
  have h3 : s = true → t = s → c = cmpN y.natAbs x.natAbs := by
    intro h h'; rw [h'] at ht; rw [h] at hs ht; simp at hs ht; rw [hc, cmpZ, cmpN]; repeat' split <;> omega
  have h4 : s = false → t = s → c = cmpN x.natAbs y.natAbs := by
    intro h h'; rw [h'] at ht; rw [h] at hs ht; simp at hs ht; rw [hc, cmpZ, cmpN]; repeat' split <;> omega
  clear hc hs ht
  obtain ⟨rfl, hG⟩ := C
  refine FS_ofT (args := fun A => [B s, .lst p, B t, .lst q]) (R := fun A rr => rr = I c) Tryd.hT Tryd.mix Tryd.func169 rfl rfl (Nat.le_of_ble_eq_true rfl) ?_
  generalize hP : Tryd.prog = P
  intro A hA
  have C : Tryd.Cx P gl := ⟨hP.symm, hG⟩
  have hI : intsL = A.ints := by subst hA; rfl
  iterate 2 (all_goals try cbv; all_goals repeat' (first | with_reducible exact True.intro | with_reducible refine And.intro ?_ ?_ | intro _))
  all_goals try exact oH
  iterate 2 (all_goals try cbv; all_goals repeat' (first | with_reducible exact True.intro | with_reducible refine And.intro ?_ ?_ | intro _))
  all_goals try exact oH
  · rename_i g
    obtain ⟨g1, g2⟩ : s = true ∧ t = !s := by subst hA; cases s <;> cases t <;> first | exact ⟨rfl, rfl⟩ | exact absurd g (by decide)
    rw [h1 g1 g2]
  · rename_i g' g
    obtain ⟨g1, g2⟩ : s = false ∧ t = !s := by subst hA; cases s <;> cases t <;> first | exact ⟨rfl, rfl⟩ | exact absurd g (by decide)
    rw [h2 g1 g2]
  · rename_i g' g g1
    have g2 : t = s := by subst hA; cases s <;> cases t <;> first | rfl | exact absurd g (by decide) | exact absurd g' (by decide)
    refine callS hA rfl (compare_fs C hq hp (h3 g1 g2) hm) ?_; rintro _ rfl
    iterate 2 (all_goals try cbv; all_goals repeat' (first | with_reducible exact True.intro | with_reducible refine And.intro ?_ ?_ | intro _))
    all_goals try exact oH
  · rename_i g' g g1
    have g2 : t = s := by subst hA; cases s <;> cases t <;> first | rfl | exact absurd g (by decide) | exact absurd g' (by decide)
    refine callS hA rfl (compare_fs C hp hq (h4 g1 g2) hl) ?_; rintro _ rfl
    iterate 2 (all_goals try cbv; all_goals repeat' (first | with_reducible exact True.intro | with_reducible refine And.intro ?_ ?_ | intro _))
    all_goals try exact oH

set_option maxHeartbeats 1000000 in
set_option maxRecDepth 100000 in
theorem exactCompare_fs (C : Cx P gl) {z1 e1 z2 e2 c : Int} {p q : List PV} {s t : Bool} (hp : p = intsL (dg z1.natAbs)) (hs : s = decide (z1 < 0)) (hq : q = intsL (dg z2.natAbs)) (ht : t = decide (z2 < 0))
    (hc : c = cmpD (mk z1 e1) (mk z2 e2)) (h1 : e1.natAbs ≤ 100000) (h2 : e2.natAbs ≤ 100000) (hl : (dg z1.natAbs).length ≤ 1000000) (hm : (dg z2.natAbs).length ≤ 1000000) :
    FS P gl 140 [.agg [B s, .lst p, I e1], .agg [B t, .lst q, I e2]] (· = I c) := by
  obtain ⟨y, x, e, ha⟩ := align_ex z2 e2 z1 e1
  obtain ⟨v2, v1⟩ := align_mk ha
  obtain ⟨b2, b1, b3⟩ := align_len ha hm hl h2 h1
  have hsx : s = decide (x < 0) := by rw [hs, decide_eq_decide]; exact (align_sgn ha).2.symm
  have hty : t = decide (y < 0) := by rw [ht, decide_eq_decide]; exact (align_sgn ha).1.symm
  obtain ⟨p', hp'⟩ : ∃ p', p' = intsL (dg x.natAbs) := ⟨_, rfl⟩
  obtain ⟨q', hq'⟩ : ∃ p', p' = intsL (dg y.natAbs) := ⟨_, rfl⟩
  have hc' : c = cmpZ x y := by rw [hc, ← v1, ← v2, cmpD_mk]
  clear hc
  obtain ⟨rfl, hG⟩ := C
  refine FS_ofT (args := fun A => [.agg [B s, .lst p, I e1], .agg [B t, .lst q, I e2]]) (R := fun A rr => rr = I c) Tryd.hT Tryd.mix Tryd.func140 rfl rfl (Nat.le_of_ble_eq_true rfl) ?_
  generalize hP : Tryd.prog = P
  intro A hA
  have C : Tryd.Cx P gl := ⟨hP.symm, hG⟩
  have hI : intsL = A.ints := by subst hA; rfl
  iterate 2 (all_goals try cbv; all_goals repeat' (first | with_reducible exact True.intro | with_reducible refine And.intro ?_ ?_ | intro _))
  all_goals try exact oH
  refine callS hA rfl (aligned_fs C hp hq ha hp' hq' h1 h2 hl hm) ?_; rintro _ rfl
  iterate 2 (all_goals try cbv; all_goals repeat' (first | with_reducible exact True.intro | with_reducible refine And.intro ?_ ?_ | intro _))
  all_goals try exact oH
  refine callS hA rfl (signedCompare_fs C hp' hsx hq' hty hc' (by omega) (by omega)) ?_; rintro _ rfl
  iterate 2 (all_goals try cbv; all_goals repeat' (first | with_reducible exact True.intro | with_reducible refine And.intro ?_ ?_ | intro _))
  all_goals try exact oH

end Tryd
end Go.Proofs

namespace Go.Proofs
open Go Go.Pe Go.Dg
namespace Tryd
set_option linter.unusedSimpArgs false
set_option linter.unusedVariables false
variable {P : Program} {gl : List (Nat × Obj)}

set_option maxHeartbeats 1000000 in
set_option maxRecDepth 100000 in
theorem odd_fs (C : Cx P gl) {z e f : Int} {p r : List PV} {s u : Bool} {d : Dyadic} (hp : p = intsL (dg z.natAbs)) (hs : s = decide (z < 0)) (hd : d = mk z e)
    (hr : r = intsL (dg (cZ d).natAbs)) (hu : u = decide (cZ d < 0)) (hf : f = cE d) (h0 : e.natAbs ≤ 1000000000) (hl : (dg z.natAbs).length ≤ 10000000) :
    FS P gl 84 [.agg [B s, .lst p, I e]] (· = .agg [B u, .lst r, I f]) := by
  have hz : z = 0 → r = [] ∧ u = false ∧ f = 0 := by
    intro h
    rw [h] at hd
    rw [hr, hu, hf, hd, mk_zero, cZ_zero, cE_zero]
    exact ⟨by rw [show (0 : Int).natAbs = 0 from rfl, dg_zero]; rfl, rfl, rfl⟩
  have hz2 : (dg z.natAbs).length = 0 ↔ z = 0 := by rw [dg_len0]; omega
  have hnz : z ≠ 0 → ∃ (k m : Nat) (c : Int), c = k ∧ 0 ≤ c ∧ c ≤ 160000000 ∧ z.natAbs = 2 ^ k * (2 * m + 1) ∧ r = intsL (dg (z.natAbs / 2 ^ c.toNat)) ∧ u = s ∧ f = e + c := by
    intro h
    obtain ⟨k, m, hk⟩ := two_odd (x := z.natAbs) (by omega)
    obtain ⟨l1, l2, l3⟩ := make_law (e := e) hk
    have hdv : z.natAbs / 2 ^ k = 2 * m + 1 := by rw [hk, Nat.mul_div_cancel_left _ (Nat.two_pow_pos k)]
    have hkb : k < 16 * (dg z.natAbs).length := by
      have h1 := dg_lt_pow z.natAbs
      rw [show (65536 : Nat) = 2 ^ 16 from rfl, ← Nat.pow_mul] at h1
      have h3 : 2 ^ k ≤ z.natAbs := by rw [hk]; exact Nat.le_mul_of_pos_right _ (by omega)
      exact (Nat.pow_lt_pow_iff_right (by decide : 1 < 2)).1 (Nat.lt_of_le_of_lt h3 h1)
    refine ⟨k, m, k, rfl, by omega, by omega, hk, ?_, ?_, ?_⟩
    · rw [Int.toNat_natCast, hdv, hr, hd, l1]
    · rw [hu, hd, l3, hs]
    · rw [hf, hd, l2]
  have hva := valid_dg z.natAbs
  have hvv := val_dg z.natAbs
  clear hr hu hf hd
  obtain ⟨rfl, hG⟩ := C
  refine FS_ofT (args := fun A => [.agg [B s, .lst p, I e]]) (R := fun A rr => rr = .agg [B u, .lst r, I f]) Tryd.hT Tryd.mix Tryd.func84 rfl rfl (Nat.le_of_ble_eq_true rfl) ?_
  generalize hP : Tryd.prog = P
  intro A hA
  have C : Tryd.Cx P gl := ⟨hP.symm, hG⟩
  have hI : intsL = A.ints := by subst hA; rfl
  iterate 2 (all_goals try cbv; all_goals repeat' (first | with_reducible exact True.intro | with_reducible refine And.intro ?_ ?_ | intro _))
  all_goals try exact oH
  iterate 2 (all_goals try cbv; all_goals repeat' (first | with_reducible exact True.intro | with_reducible refine And.intro ?_ ?_ | intro _))
  all_goals try exact oH
  · rename_i g
    obtain ⟨rfl, rfl, rfl⟩ := hz (hz2.1 (len_t hA hp g))
    rfl
  rename_i g
  obtain ⟨k, m, c, hc, hc0, hc1, hk, hr, hu, hf⟩ := hnz (fun h => len_f hA hp g (hz2.2 h))
  clear hnz hz hz2
  refine callS hA rfl (trailOf_fs C hp hk hc (by omega)) ?_; rintro _ rfl
  iterate 2 (all_goals try cbv; all_goals repeat' (first | with_reducible exact True.intro | with_reducible refine And.intro ?_ ?_ | intro _))
  all_goals try exact oH
  refine ⟨_, down_fs C hp hva hvv rfl hr hc0 (by omega) (by omega), ?_⟩
  iterate 2 (all_goals try cbv; all_goals repeat' (first | with_reducible exact True.intro | with_reducible refine And.intro ?_ ?_ | intro _))
  all_goals try exact oH
  have e1 : A.add .i64 e c = f := by subst hA; rw [hf]; exact wrapi (by omega) (by omega)
  simp only [e1, hu]

end Tryd
end Go.Proofs

