/- Contracts: exact numbers, differences and odd forms. -/
import Derived.Test.YtcbagjglchpagaaDoorHN11
namespace Go.Proofs
open Go Go.Pe Go.Dg
namespace Tryd
set_option linter.unusedSimpArgs false
set_option linter.unusedVariables false
variable {P : Program} {gl : List (Nat × Obj)}

end Tryd
end Go.Proofs

namespace Go.Proofs
open Go Go.Pe Go.Dg
namespace Tryd
set_option linter.unusedSimpArgs false
set_option linter.unusedVariables false
variable {P : Program} {gl : List (Nat × Obj)}

set_option maxHeartbeats 1000000 in
set_option maxRecDepth 100000 in
theorem odd_fs (C : Cx P gl) {z e f : Int} {p r : List PV} {s u : Bool} {d : Dyadic} (hp : p = intsL (dg z.natAbs)) (hs : s = decide (z < 0)) (hd : d = mk z e)
    (hr : r = intsL (dg (cZ d).natAbs)) (hu : u = decide (cZ d < 0)) (hf : f = cE d) (h0 : e.natAbs ≤ 1000000000) (hl : (dg z.natAbs).length ≤ 10000000) :
    FS P gl 84 [.agg [B s, .lst p, I e]] (· = .agg [B u, .lst r, I f]) := by
  have hz : z = 0 → r = [] ∧ u = false ∧ f = 0 := by
    intro h
    rw [h] at hd
    rw [hr, hu, hf, hd, mk_zero, cZ_zero, cE_zero]
    exact ⟨by rw [show (0 : Int).natAbs = 0 from rfl, dg_zero]; rfl, rfl, rfl⟩
  have hz2 : (dg z.natAbs).length = 0 ↔ z = 0 := by rw [dg_len0]; omega
  have hnz : z ≠ 0 → ∃ (k m : Nat) (c : Int), c = k ∧ 0 ≤ c ∧ c ≤ 160000000 ∧ z.natAbs = 2 ^ k * (2 * m + 1) ∧ r = intsL (dg (z.natAbs / 2 ^ c.toNat)) ∧ u = s ∧ f = e + c := by
    intro h
    obtain ⟨k, m, hk⟩ := two_odd (x := z.natAbs) (by omega)
    obtain ⟨l1, l2, l3⟩ := make_law (e := e) hk
    have hdv : z.natAbs / 2 ^ k = 2 * m + 1 := by rw [hk, Nat.mul_div_cancel_left _ (Nat.two_pow_pos k)]
    have hkb : k < 16 * (dg z.natAbs).length := by
      have h1 := dg_lt_pow z.natAbs
      rw [show (65536 : Nat) = 2 ^ 16 from rfl, ← Nat.pow_mul] at h1
      have h3 : 2 ^ k ≤ z.natAbs := by rw [hk]; exact Nat.le_mul_of_pos_right _ (by omega)
      exact (Nat.pow_lt_pow_iff_right (by decide : 1 < 2)).1 (Nat.lt_of_le_of_lt h3 h1)
    refine ⟨k, m, k, rfl, by omega, by omega, hk, ?_, ?_, ?_⟩
    · rw [Int.toNat_natCast, hdv, hr, hd, l1]
    · rw [hu, hd, l3, hs]
    · rw [hf, hd, l2]
  have hva := valid_dg z.natAbs
  have hvv := val_dg z.natAbs
  clear hr hu hf hd
  obtain ⟨rfl, hG⟩ := C
  refine FS_ofT (args := fun A => [.agg [B s, .lst p, I e]]) (R := fun A rr => rr = .agg [B u, .lst r, I f]) Tryd.hT Tryd.mix Tryd.func84 rfl rfl (Nat.le_of_ble_eq_true rfl) ?_
  generalize hP : Tryd.prog = P
  intro A hA
  have C : Tryd.Cx P gl := ⟨hP.symm, hG⟩
  have hI : intsL = A.ints := by subst hA; rfl
  iterate 2 (all_goals try cbv; all_goals repeat' (first | with_reducible exact True.intro | with_reducible refine And.intro ?_ ?_ | intro _))
  all_goals try exact oH
  iterate 2 (all_goals try cbv; all_goals repeat' (first | with_reducible exact True.intro | with_reducible refine And.intro ?_ ?_ | intro _))
  all_goals try exact oH
  · rename_i g
    obtain ⟨rfl, rfl, rfl⟩ := hz (hz2.1 (len_t hA hp g))
    rfl
  rename_i g
  obtain ⟨k, m, c, hc, hc0, hc1, hk, hr, hu, hf⟩ := hnz (fun h => len_f hA hp g (hz2.2 h))
  clear hnz hz hz2
  refine callS hA rfl (trailOf_fs C hp hk hc (by omega)) ?_; rintro _ rfl
  iterate 2 (all_goals try cbv; all_goals repeat' (first | with_reducible exact True.intro | with_reducible refine And.intro ?_ ?_ | intro _))
  all_goals try exact oH
  refine ⟨_, down_fs C hp hva hvv rfl hr hc0 (by omega) (by omega), ?_⟩
  iterate 2 (all_goals try cbv; all_goals repeat' (first | with_reducible exact True.intro | with_reducible refine And.intro ?_ ?_ | intro _))
  all_goals try exact oH
  have e1 : A.add .i64 e c = f := by subst hA; rw [hf]; exact wrapi (by omega) (by omega)
  simp only [e1, hu]

end Tryd
end Go.Proofs

