/- Lists of intervals out of functions of their places; sums, halves, widenings. -/
import Derived.Test.YtcbagjglchpagaaGreatDoorHPeTj
import Derived.Test.YtcbagjglchpagaaGreatDoorHEvD
set_option linter.unusedSimpArgs false
set_option linter.unusedVariables false
namespace Go.Pe
open Go Go.Dg

/-- the first place of the least of d 0 .. d k -/
noncomputable def amin (d : Nat → Dyadic) : Nat → Nat
  | 0 => 0
  | k + 1 => if cmpD (d (k + 1)) (d (amin d k)) < 0 then k + 1 else amin d k

/-- the first place of the greatest of d 0 .. d k -/
noncomputable def amax (d : Nat → Dyadic) : Nat → Nat
  | 0 => 0
  | k + 1 => if 0 < cmpD (d (k + 1)) (d (amax d k)) then k + 1 else amax d k

/-- the ends of the first, and of the second, of two intervals, in the order of a product or quotient of them -/
def endA (a1 a2 : Dyadic) (k : Nat) : Dyadic := if k < 2 then a1 else a2
def endB (b1 b2 : Dyadic) (k : Nat) : Dyadic := if k % 2 = 0 then b1 else b2

/-- the quotients of the ends -/
def divE (a1 a2 b1 b2 : Dyadic) (low m : Int) (k : Nat) : Dyadic := divD (endA a1 a2 k) (endB b1 b2 k) low m

/-- the ends of a quotient -/
noncomputable def divLo (a1 a2 b1 b2 : Dyadic) (low : Int) : Dyadic := divE a1 a2 b1 b2 low 3 (amin (divE a1 a2 b1 b2 low 3) 3)
noncomputable def divHi (a1 a2 b1 b2 : Dyadic) (low : Int) : Dyadic := divE a1 a2 b1 b2 low 2 (amax (divE a1 a2 b1 b2 low 2) 3)

theorem endA_cases (a1 a2 : Dyadic) (k : Nat) : endA a1 a2 k = a1 ∨ endA a1 a2 k = a2 := by unfold endA; split <;> simp
theorem endB_cases (b1 b2 : Dyadic) (k : Nat) : endB b1 b2 k = b1 ∨ endB b1 b2 k = b2 := by unfold endB; split <;> simp

theorem canL_A (a1 a2 : Dyadic) : canL (endA a1 a2) 4 = [canY a1, canY a1, canY a2, canY a2] := rfl
theorem canL_B (b1 b2 : Dyadic) : canL (endB b1 b2) 4 = [canY b1, canY b2, canY b1, canY b2] := rfl

theorem ge0_iff (d : Dyadic) : 0 ≤ d ↔ 0 ≤ cZ d := by
  have h := mk_lt (cZ d) 0 (cE d)
  rw [mk_canon, mk_zero] at h
  rw [← Std.not_lt, h]
  omega

end Go.Pe

set_option linter.unusedSimpArgs false
set_option linter.unusedVariables false
namespace Go.Pe
open Go Go.Dg

end Go.Pe

set_option linter.unusedSimpArgs false
set_option linter.unusedVariables false
namespace Go.Pe
open Go Go.Dg

theorem pickV6 {n : Nat} {Q : Nat → Cell6 → Prop} (h : ∀ k, k < n → ∃ v, Q k v) : ∃ Y : Nat → Cell6, ∀ k, k < n → Q k (Y k) := by
  classical
  refine ⟨fun k => if hc : k < n then Classical.choose (h k hc) else noV, fun k hk => ?_⟩
  simp only [dif_pos hk]
  exact Classical.choose_spec (h k hk)

def listV (Y : Nat → Cell6) (n : Nat) : List Cell6 := (List.range n).map Y
theorem listV_len (Y : Nat → Cell6) (n : Nat) : (listV Y n).length = n := by simp [listV]
theorem listV_succ (Y : Nat → Cell6) (n : Nat) : listV Y (n + 1) = listV Y n ++ [Y n] := by simp [listV, List.range_succ]
theorem listV_get {Y : Nat → Cell6} {n k : Nat} (h : k < n) : (listV Y n).getD k noV = Y k := by simp [listV, List.getD, h]
theorem listV_XV {Y : Nat → Cell6} {d1 d2 : Nat → Dyadic} {L E n : Nat} (h : ∀ k, k < n → X (d1 k) L E (Y k).1 ∧ X (d2 k) L E (Y k).2) : XV d1 d2 L E (listV Y n) := by
  intro k hk
  rw [listV_len] at hk
  rw [listV_get hk]
  exact h k hk

def listY (Y : Nat → Cell3) (n : Nat) : List Cell3 := (List.range n).map Y
theorem listY_len (Y : Nat → Cell3) (n : Nat) : (listY Y n).length = n := by simp [listY]
theorem listY_succ (Y : Nat → Cell3) (n : Nat) : listY Y (n + 1) = listY Y n ++ [Y n] := by simp [listY, List.range_succ]
theorem listY_get {Y : Nat → Cell3} {n k : Nat} (h : k < n) : (listY Y n).getD k noY = Y k := by simp [listY, List.getD, h]
theorem listY_XL {Y : Nat → Cell3} {d : Nat → Dyadic} {L E n : Nat} (h : ∀ k, k < n → X (d k) L E (Y k)) : XL d L E (listY Y n) := by
  intro k hk
  rw [listY_len] at hk
  rw [listY_get hk]
  exact h k hk

theorem add_le {a b c d : Dyadic} (h1 : a ≤ b) (h2 : c ≤ d) : a + c ≤ b + d := by grind

theorem sub_add_le {a b c : Dyadic} (h1 : a ≤ b) (h2 : 0 ≤ c) : a - c ≤ b + c := by grind

end Go.Pe

