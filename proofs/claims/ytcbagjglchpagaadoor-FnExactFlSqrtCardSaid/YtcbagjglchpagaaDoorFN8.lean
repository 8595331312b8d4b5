/- Contracts: the reference's dyadic numbers. -/
import Derived.Test.YtcbagjglchpagaaDoorFN5
import Derived.Test.YtcbagjglchpagaaDoorFEvD
namespace Go.Proofs
open Go Go.Pe Go.Dg
namespace Tryd
set_option linter.unusedSimpArgs false
set_option linter.unusedVariables false
variable {P : Program} {gl : List (Nat × Obj)}

theorem dg_pos {n : Nat} (h : n ≠ 0) : 0 < (dg n).length := by
  rcases Nat.eq_zero_or_pos (dg n).length with e | e
  · have := List.eq_nil_of_length_eq_zero e
    rw [← dg_zero] at this
    exact absurd (dg_inj this) h
  · exact e

set_option maxHeartbeats 1000000 in
set_option maxRecDepth 100000 in
theorem l3make_fs (C : Cx P gl) {n : Nat} {p : List PV} {s s' : Bool} (hp : p = intsL (dg n)) (hs : s' = (s && decide (n ≠ 0))) (hl : (dg n).length ≤ 1000000000) :
    FS P gl 70 [B s, .agg [.lst p]] (· = .agg [B s', .lst p]) := by
  have h0 : n = 0 → s' = false := fun h => by rw [hs, h]; simp
  have h1 : n ≠ 0 → s' = s := fun h => by rw [hs]; simp [h]
  have h2 : n ≠ 0 → 0 < (dg n).length := dg_pos
  have h3 : n = 0 → (dg n).length = 0 := fun h => by rw [h, dg_zero]; rfl
  have ht : p = intsL (trimL (dg n)) := by rw [hp, trim_dg (valid_dg n), val_dg]; rfl
  clear hs
  obtain ⟨rfl, hG⟩ := C
  refine FS_ofT (args := fun A => [B s, .agg [.lst p]]) (R := fun A rr => rr = .agg [B s', .lst p]) Tryd.hT Tryd.mix Tryd.func70 rfl rfl (Nat.le_of_ble_eq_true rfl) ?_
  generalize hP : Tryd.prog = P
  intro A hA
  have C : Tryd.Cx P gl := ⟨hP.symm, hG⟩
  have hI : intsL = A.ints := by subst hA; rfl
  iterate 2 (all_goals try cbv; all_goals repeat' (first | with_reducible exact True.intro | with_reducible refine And.intro ?_ ?_ | intro _))
  all_goals try exact oH
  refine ⟨_, l2norm_fs C hp ht hl, ?_⟩
  iterate 2 (all_goals try cbv; all_goals repeat' (first | with_reducible exact True.intro | with_reducible refine And.intro ?_ ?_ | intro _))
  all_goals try exact oH
  have e0 : A.lt 0 (A.cast (A.len p)) = decide (n ≠ 0) := by
    by_cases h : n = 0
    · have e2 := h3 h
      rw [decide_eq_false (by simpa using h)]
      (subst hA; subst_vars; simp only [AR.std, natCast_eq, sH, reduceCtorEq] at *; try simp (disch := omega) only [AR.std, natCast_eq, sH, reduceCtorEq] at *); omega
    · have e2 := h2 h
      rw [decide_eq_true h]
      (subst hA; subst_vars; simp only [AR.std, natCast_eq, sH, reduceCtorEq] at *; try simp (disch := omega) only [AR.std, natCast_eq, sH, reduceCtorEq] at *); omega
  have e : A.pick s (decide (n ≠ 0)) false = s' := by
    subst hA
    by_cases h : n = 0
    · rw [h0 h, decide_eq_false (by simpa using h)]; cases s <;> rfl
    · rw [h1 h, decide_eq_true h]; cases s <;> rfl
  simp only [e0, e]

end Tryd
end Go.Proofs

namespace Go.Proofs
open Go Go.Pe Go.Dg
namespace Tryd
set_option linter.unusedSimpArgs false
set_option linter.unusedVariables false
variable {P : Program} {gl : List (Nat × Obj)}

theorem bne_t {A : AR} (hA : A = AR.std) {s t : Bool} (h : A.bnot (A.beq s t) = true) : t = !s := by subst hA; cases s <;> cases t <;> first | rfl | exact absurd h (by decide)
theorem bne_f {A : AR} (hA : A = AR.std) {s t : Bool} (h : A.bnot (A.beq s t) = false) : t = s := by subst hA; cases s <;> cases t <;> first | rfl | exact absurd h (by decide)
theorem beq_t {A : AR} (hA : A = AR.std) {s t : Bool} (h : A.beq s t = true) : t = s := by subst hA; cases s <;> cases t <;> first | rfl | exact absurd h (by decide)
theorem beq_f {A : AR} (hA : A = AR.std) {s t : Bool} (h : A.beq s t = false) : t = !s := by subst hA; cases s <;> cases t <;> first | rfl | exact absurd h (by decide)

theorem dg_len_mono {x y : Nat} (h : x ≤ y) : (dg x).length ≤ (dg y).length := by
  rcases Nat.lt_or_ge (dg y).length (dg x).length with h' | h'
  · have := dg_len_lt h'; omega
  · exact h'

theorem dg_len_add (x y : Nat) : (dg (x + y)).length ≤ (dg x).length + (dg y).length + 1 := by
  refine dg_len_le _ _ ?_
  have h1 := dg_lt_pow x
  have h2 := dg_lt_pow y
  have h3 : 65536 ^ (dg x).length ≤ 65536 ^ ((dg x).length + (dg y).length) := Nat.pow_le_pow_right (by decide) (by omega)
  have h4 : 65536 ^ (dg y).length ≤ 65536 ^ ((dg x).length + (dg y).length) := Nat.pow_le_pow_right (by decide) (by omega)
  rw [Nat.pow_succ]
  omega

end Tryd
end Go.Proofs

namespace Go.Proofs
open Go Go.Pe Go.Dg
namespace Tryd
set_option linter.unusedSimpArgs false
set_option linter.unusedVariables false
variable {P : Program} {gl : List (Nat × Obj)}

theorem len_t {A : AR} (hA : A = AR.std) {p : List PV} {l : List Int} (hp : p = intsL l) (h : A.eq (A.cast (A.len p)) 0 = true) : l.length = 0 := by
  (subst hA; subst_vars; simp only [AR.std, natCast_eq, sH, reduceCtorEq] at *; try simp (disch := omega) only [AR.std, natCast_eq, sH, reduceCtorEq] at *); omega
theorem len_f {A : AR} (hA : A = AR.std) {p : List PV} {l : List Int} (hp : p = intsL l) (h : A.eq (A.cast (A.len p)) 0 = false) : l.length ≠ 0 := by
  (subst hA; subst_vars; simp only [AR.std, natCast_eq, sH, reduceCtorEq] at *; try simp (disch := omega) only [AR.std, natCast_eq, sH, reduceCtorEq] at *); omega

set_option maxHeartbeats 1000000 in
set_option maxRecDepth 100000 in
theorem l4make_fs (C : Cx P gl) {z e f : Int} {p r : List PV} {s u : Bool} {d : Dyadic} (hp : p = intsL (dg z.natAbs)) (hs : s = decide (z < 0)) (hd : d = mk z e)
    (hr : r = intsL (dg (cZ d).natAbs)) (hu : u = decide (cZ d < 0)) (hf : f = cE d) (h0 : e.natAbs ≤ 1000000000) (hl : (dg z.natAbs).length ≤ 10000000) :
    FS P gl 69 [.agg [B s, .lst p], I e] (· = .agg [B u, .lst r, I f]) := by
  have hz : z = 0 → r = [] ∧ u = false ∧ f = 0 := by
    intro h
    rw [h] at hd
    rw [hr, hu, hf, hd, mk_zero, cZ_zero, cE_zero]
    exact ⟨by rw [show (0 : Int).natAbs = 0 from rfl, dg_zero]; rfl, rfl, rfl⟩
  have hz2 : (dg z.natAbs).length = 0 → z = 0 := by
    intro h
    have := List.eq_nil_of_length_eq_zero h
    rw [← dg_zero] at this
    have := dg_inj this
    omega
  have hnz : z ≠ 0 → ∃ (k m : Nat) (c : Int), c = k ∧ 0 ≤ c ∧ c ≤ 160000000 ∧ z.natAbs = 2 ^ k * (2 * m + 1) ∧ r = intsL (dg (z.natAbs / 2 ^ c.toNat)) ∧ u = (s && decide (z.natAbs / 2 ^ c.toNat ≠ 0)) ∧ f = e + c ∧ (dg (z.natAbs / 2 ^ c.toNat)).length ≤ 10000000 := by
    intro h
    obtain ⟨k, m, hk⟩ := two_odd (x := z.natAbs) (by omega)
    obtain ⟨l1, l2, l3⟩ := make_law (e := e) hk
    have hdv : z.natAbs / 2 ^ k = 2 * m + 1 := by rw [hk, Nat.mul_div_cancel_left _ (Nat.two_pow_pos k)]
    have hkb : k < 16 * (dg z.natAbs).length := by
      have h1 := dg_lt_pow z.natAbs
      rw [show (65536 : Nat) = 2 ^ 16 from rfl, ← Nat.pow_mul] at h1
      have h3 : 2 ^ k ≤ z.natAbs := by rw [hk]; exact Nat.le_mul_of_pos_right _ (by omega)
      exact (Nat.pow_lt_pow_iff_right (by decide : 1 < 2)).1 (Nat.lt_of_le_of_lt h3 h1)
    refine ⟨k, m, k, rfl, by omega, by omega, hk, ?_, ?_, ?_, ?_⟩
    · rw [Int.toNat_natCast, hdv, hr, hd, l1]
    · rw [Int.toNat_natCast, hdv, hu, hd, l3, hs]; simp
    · rw [hf, hd, l2]
    · rw [Int.toNat_natCast]
      exact Nat.le_trans (dg_len_mono (Nat.div_le_self _ _)) hl
  clear hr hu hf hd
  obtain ⟨rfl, hG⟩ := C
  refine FS_ofT (args := fun A => [.agg [B s, .lst p], I e]) (R := fun A rr => rr = .agg [B u, .lst r, I f]) Tryd.hT Tryd.mix Tryd.func69 rfl rfl (Nat.le_of_ble_eq_true rfl) ?_
  generalize hP : Tryd.prog = P
  intro A hA
  have C : Tryd.Cx P gl := ⟨hP.symm, hG⟩
  have hI : intsL = A.ints := by subst hA; rfl
  iterate 2 (all_goals try cbv; all_goals repeat' (first | with_reducible exact True.intro | with_reducible refine And.intro ?_ ?_ | intro _))
  all_goals try exact oH
  iterate 2 (all_goals try cbv; all_goals repeat' (first | with_reducible exact True.intro | with_reducible refine And.intro ?_ ?_ | intro _))
  all_goals try exact oH
  · have h := hz2 (by (subst hA; subst_vars; simp only [AR.std, natCast_eq, sH, reduceCtorEq] at *; try simp (disch := omega) only [AR.std, natCast_eq, sH, reduceCtorEq] at *); omega)
    obtain ⟨rfl, rfl, rfl⟩ := hz h
    rfl
  have h : z ≠ 0 := by
    rintro rfl
    have e : (dg (0 : Int).natAbs).length = 0 := by rw [show (0 : Int).natAbs = 0 from rfl, dg_zero]; rfl
    (subst hA; subst_vars; simp only [AR.std, natCast_eq, sH, reduceCtorEq] at *; try simp (disch := omega) only [AR.std, natCast_eq, sH, reduceCtorEq] at *); omega
  obtain ⟨k, m, c, hc, hc0, hc1, hk, hr, hu, hf, hlr⟩ := hnz h
  clear hnz hz hz2
  refine callS hA rfl (l2trail_fs C hp hk hc (by omega)) ?_; rintro _ rfl
  iterate 2 (all_goals try cbv; all_goals repeat' (first | with_reducible exact True.intro | with_reducible refine And.intro ?_ ?_ | intro _))
  all_goals try exact oH
  refine ⟨_, l2shr_fs C hp hc0 (by omega) (by omega) hr, ?_⟩
  iterate 2 (all_goals try cbv; all_goals repeat' (first | with_reducible exact True.intro | with_reducible refine And.intro ?_ ?_ | intro _))
  all_goals try exact oH
  refine ⟨_, l3make_fs C hr hu (by omega), ?_⟩
  iterate 2 (all_goals try cbv; all_goals repeat' (first | with_reducible exact True.intro | with_reducible refine And.intro ?_ ?_ | intro _))
  all_goals try exact oH
  have e1 : A.add .i64 e c = f := by clear hr hu hk hc hlr; (subst hA; subst_vars; simp only [AR.std, natCast_eq, sH, reduceCtorEq] at *; try simp (disch := omega) only [AR.std, natCast_eq, sH, reduceCtorEq] at *)
  simp only [e1]

end Tryd
end Go.Proofs

