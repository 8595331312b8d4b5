/- The least and the greatest of some numbers: the first place of each. -/
import Derived.Test.YtcbagjglchpagaaGreatDoorGPeTj
import Derived.Test.YtcbagjglchpagaaGreatDoorGEvD
set_option linter.unusedSimpArgs false
set_option linter.unusedVariables false
namespace Go.Pe
open Go Go.Dg

/-- the first place of the least of d 0 .. d k -/
noncomputable def amin (d : Nat → Dyadic) : Nat → Nat
  | 0 => 0
  | k + 1 => if cmpD (d (k + 1)) (d (amin d k)) < 0 then k + 1 else amin d k

/-- the first place of the greatest of d 0 .. d k -/
noncomputable def amax (d : Nat → Dyadic) : Nat → Nat
  | 0 => 0
  | k + 1 => if 0 < cmpD (d (k + 1)) (d (amax d k)) then k + 1 else amax d k

theorem amin_le (d : Nat → Dyadic) : ∀ k, amin d k ≤ k
  | 0 => Nat.le_refl _
  | k + 1 => by have := amin_le d k; unfold amin; split <;> omega

theorem amax_le (d : Nat → Dyadic) : ∀ k, amax d k ≤ k
  | 0 => Nat.le_refl _
  | k + 1 => by have := amax_le d k; unfold amax; split <;> omega

theorem amin_ne {d : Nat → Dyadic} {k : Nat} (h : cmpD (d (amin d k)) (d (k + 1)) ≤ 0) : amin d (k + 1) = amin d k := by
  rw [amin, if_neg]
  have := cmpD_swap (d (k + 1)) (d (amin d k))
  omega

theorem amin_eq {d : Nat → Dyadic} {k : Nat} (h : ¬cmpD (d (amin d k)) (d (k + 1)) ≤ 0) : amin d (k + 1) = k + 1 := by
  rw [amin, if_pos]
  have := cmpD_swap (d (k + 1)) (d (amin d k))
  omega

theorem amax_ne {d : Nat → Dyadic} {k : Nat} (h : 0 ≤ cmpD (d (amax d k)) (d (k + 1))) : amax d (k + 1) = amax d k := by
  rw [amax, if_neg]
  have := cmpD_swap (d (amax d k)) (d (k + 1))
  omega

theorem amax_eq {d : Nat → Dyadic} {k : Nat} (h : ¬0 ≤ cmpD (d (amax d k)) (d (k + 1))) : amax d (k + 1) = k + 1 := by
  rw [amax, if_pos]
  have := cmpD_swap (d (amax d k)) (d (k + 1))
  omega

/-- the ends of the first, and of the second, of two intervals, in the order of a product or quotient of them -/
def endA (a1 a2 : Dyadic) (k : Nat) : Dyadic := if k < 2 then a1 else a2
def endB (b1 b2 : Dyadic) (k : Nat) : Dyadic := if k % 2 = 0 then b1 else b2

/-- the quotients of the ends -/
def divE (a1 a2 b1 b2 : Dyadic) (low m : Int) (k : Nat) : Dyadic := divD (endA a1 a2 k) (endB b1 b2 k) low m

/-- the ends of a quotient -/
noncomputable def divLo (a1 a2 b1 b2 : Dyadic) (low : Int) : Dyadic := divE a1 a2 b1 b2 low 3 (amin (divE a1 a2 b1 b2 low 3) 3)
noncomputable def divHi (a1 a2 b1 b2 : Dyadic) (low : Int) : Dyadic := divE a1 a2 b1 b2 low 2 (amax (divE a1 a2 b1 b2 low 2) 3)

theorem endA_cases (a1 a2 : Dyadic) (k : Nat) : endA a1 a2 k = a1 ∨ endA a1 a2 k = a2 := by unfold endA; split <;> simp
theorem endB_cases (b1 b2 : Dyadic) (k : Nat) : endB b1 b2 k = b1 ∨ endB b1 b2 k = b2 := by unfold endB; split <;> simp

theorem canL_A (a1 a2 : Dyadic) : canL (endA a1 a2) 4 = [canY a1, canY a1, canY a2, canY a2] := rfl
theorem canL_B (b1 b2 : Dyadic) : canL (endB b1 b2) 4 = [canY b1, canY b2, canY b1, canY b2] := rfl

theorem divD_can {a b : Dyadic} {low m : Int} (fa : fits a) (fb : fits b) (hb : low.natAbs ≤ 300) : (dg (cZ (divD a b low m)).natAbs).length ≤ 600 ∧ (cE (divD a b low m)).natAbs ≤ 20000 := by
  obtain ⟨a1, a2, a3⟩ := fa
  obtain ⟨b1, b2, b3⟩ := fb
  have h1 := zover_len (cZ a) (cZ b) (cE a - cE b - low) m
  have h2 := cZ_len (zover (cZ a) (cZ b) (cE a - cE b - low) m) low
  unfold divD
  refine ⟨by omega, ?_⟩
  by_cases hz : zover (cZ a) (cZ b) (cE a - cE b - low) m = 0
  · rw [hz, mk_zero, cE_zero]; decide
  · have := cE_bound (e := low) hz
    omega

theorem divE_can {a1 a2 b1 b2 : Dyadic} {low m : Int} (fa1 : fits a1) (fa2 : fits a2) (fb1 : fits b1) (fb2 : fits b2) (hb : low.natAbs ≤ 300) (k : Nat) :
    (dg (cZ (divE a1 a2 b1 b2 low m k)).natAbs).length ≤ 600 ∧ (cE (divE a1 a2 b1 b2 low m k)).natAbs ≤ 20000 := by
  unfold divE
  rcases endA_cases a1 a2 k with h | h <;> rcases endB_cases b1 b2 k with g | g <;> rw [h, g] <;> exact divD_can (by assumption) (by assumption) hb

theorem le0_iff (d : Dyadic) : d ≤ 0 ↔ cZ d ≤ 0 := by
  have h := mk_lt 0 (cZ d) (cE d)
  rw [mk_canon, mk_zero] at h
  rw [← Std.not_lt, h]
  omega

theorem ge0_iff (d : Dyadic) : 0 ≤ d ↔ 0 ≤ cZ d := by
  have h := mk_lt (cZ d) 0 (cE d)
  rw [mk_canon, mk_zero] at h
  rw [← Std.not_lt, h]
  omega

end Go.Pe
