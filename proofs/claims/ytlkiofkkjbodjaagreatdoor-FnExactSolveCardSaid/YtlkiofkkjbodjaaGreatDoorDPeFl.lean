/- Floats: forms, lists of floats, the float of a number rounded; quotients and roots of numbers in any form. -/
import Derived.Test.YtlkiofkkjbodjaaGreatDoorDPeTi
import Derived.Test.YtlkiofkkjbodjaaGreatDoorDEvD
import Derived.Test.YtlkiofkkjbodjaaGreatDoorDPeTb
set_option linter.unusedSimpArgs false
set_option linter.unusedVariables false
namespace Go.Pe
open Go Go.Dg

def dvA (vs : List Cell6) (k : Nat) : Dyadic := dval (vs.getD k noV).1.1 (vs.getD k noV).1.2.1 (vs.getD k noV).1.2.2
def dvB (vs : List Cell6) (k : Nat) : Dyadic := dval (vs.getD k noV).2.1 (vs.getD k noV).2.2.1 (vs.getD k noV).2.2.2

def XV (d1 d2 : Nat → Dyadic) (L E : Nat) (vs : List Cell6) : Prop := ∀ k, k < vs.length → X (d1 k) L E (vs.getD k noV).1 ∧ X (d2 k) L E (vs.getD k noV).2

noncomputable def canV (d1 d2 : Nat → Dyadic) (n : Nat) : List Cell6 := (List.range n).map fun k => (canY (d1 k), canY (d2 k))

theorem canV_len (d1 d2 : Nat → Dyadic) (n : Nat) : (canV d1 d2 n).length = n := by simp [canV]
theorem canV_succ (d1 d2 : Nat → Dyadic) (n : Nat) : canV d1 d2 (n + 1) = canV d1 d2 n ++ [(canY (d1 n), canY (d2 n))] := by simp [canV, List.range_succ]
theorem canV_get {d1 d2 : Nat → Dyadic} {n k : Nat} (h : k < n) : (canV d1 d2 n).getD k noV = (canY (d1 k), canY (d2 k)) := by simp [canV, List.getD, h]

end Go.Pe

set_option linter.unusedSimpArgs false
set_option linter.unusedVariables false
namespace Go.Pe
open Go Go.Dg

noncomputable def amin (d : Nat → Dyadic) : Nat → Nat
 | 0 => 0
 | k + 1 => if cmpD (d (k + 1)) (d (amin d k)) < 0 then k + 1 else amin d k

noncomputable def amax (d : Nat → Dyadic) : Nat → Nat
 | 0 => 0
 | k + 1 => if 0 < cmpD (d (k + 1)) (d (amax d k)) then k + 1 else amax d k

theorem amin_le (d : Nat → Dyadic) : ∀ k, amin d k ≤ k
 | 0 => Nat.le_refl _
 | k + 1 => by have := amin_le d k; unfold amin; split <;> omega

theorem amax_le (d : Nat → Dyadic) : ∀ k, amax d k ≤ k
 | 0 => Nat.le_refl _
 | k + 1 => by have := amax_le d k; unfold amax; split <;> omega

theorem amin_ne {d : Nat → Dyadic} {k : Nat} (h : cmpD (d (amin d k)) (d (k + 1)) ≤ 0) : amin d (k + 1) = amin d k := by
 rw [amin, if_neg]
 have := cmpD_swap (d (k + 1)) (d (amin d k))
 omega

theorem amin_eq {d : Nat → Dyadic} {k : Nat} (h : ¬cmpD (d (amin d k)) (d (k + 1)) ≤ 0) : amin d (k + 1) = k + 1 := by
 rw [amin, if_pos]
 have := cmpD_swap (d (k + 1)) (d (amin d k))
 omega

theorem amax_ne {d : Nat → Dyadic} {k : Nat} (h : 0 ≤ cmpD (d (amax d k)) (d (k + 1))) : amax d (k + 1) = amax d k := by
 rw [amax, if_neg]
 have := cmpD_swap (d (amax d k)) (d (k + 1))
 omega

theorem amax_eq {d : Nat → Dyadic} {k : Nat} (h : ¬0 ≤ cmpD (d (amax d k)) (d (k + 1))) : amax d (k + 1) = k + 1 := by
 rw [amax, if_pos]
 have := cmpD_swap (d (amax d k)) (d (k + 1))
 omega

theorem amin_min {d : Nat → Dyadic} : ∀ {k j : Nat}, j ≤ k → d (amin d k) ≤ d j
 | 0, j, h => by
  obtain rfl : j = 0 := by omega
  exact Dyadic.le_refl _
 | k + 1, j, h => by
  by_cases hc : cmpD (d (amin d k)) (d (k + 1)) ≤ 0
  ·rw [amin_ne hc]
   by_cases hj : j = k + 1
   ·rw [hj]; exact cmpD_le.1 hc
   ·exact amin_min (by omega)
  ·rw [amin_eq hc]
   by_cases hj : j = k + 1
   ·rw [hj]; exact Dyadic.le_refl _
   ·have h1 := amin_min (d := d) (k := k) (j := j) (by omega)
    have h2 : cmpD (d (k + 1)) (d (amin d k)) ≤ 0 := by
     have := cmpD_swap (d (k + 1)) (d (amin d k))
     omega
    exact Dyadic.le_trans (cmpD_le.1 h2) h1

theorem amax_max {d : Nat → Dyadic} : ∀ {k j : Nat}, j ≤ k → d j ≤ d (amax d k)
 | 0, j, h => by
  obtain rfl : j = 0 := by omega
  exact Dyadic.le_refl _
 | k + 1, j, h => by
  by_cases hc : 0 ≤ cmpD (d (amax d k)) (d (k + 1))
  ·rw [amax_ne hc]
   by_cases hj : j = k + 1
   ·rw [hj]
    have h2 : cmpD (d (k + 1)) (d (amax d k)) ≤ 0 := by
     have := cmpD_swap (d (amax d k)) (d (k + 1))
     omega
    exact cmpD_le.1 h2
   ·exact amax_max (by omega)
  ·rw [amax_eq hc]
   by_cases hj : j = k + 1
   ·rw [hj]; exact Dyadic.le_refl _
   ·have h1 := amax_max (d := d) (k := k) (j := j) (by omega)
    exact Dyadic.le_trans h1 (cmpD_le.1 (by omega))

def endA (a1 a2 : Dyadic) (k : Nat) : Dyadic := if k < 2 then a1 else a2
def endB (b1 b2 : Dyadic) (k : Nat) : Dyadic := if k % 2 = 0 then b1 else b2

def divE (a1 a2 b1 b2 : Dyadic) (low m : Int) (k : Nat) : Dyadic := divD (endA a1 a2 k) (endB b1 b2 k) low m

noncomputable def divLo (a1 a2 b1 b2 : Dyadic) (low : Int) : Dyadic := divE a1 a2 b1 b2 low 3 (amin (divE a1 a2 b1 b2 low 3) 3)
noncomputable def divHi (a1 a2 b1 b2 : Dyadic) (low : Int) : Dyadic := divE a1 a2 b1 b2 low 2 (amax (divE a1 a2 b1 b2 low 2) 3)

theorem endA_cases (a1 a2 : Dyadic) (k : Nat) : endA a1 a2 k = a1 ∨ endA a1 a2 k = a2 := by unfold endA; split <;> simp
theorem endB_cases (b1 b2 : Dyadic) (k : Nat) : endB b1 b2 k = b1 ∨ endB b1 b2 k = b2 := by unfold endB; split <;> simp

theorem canL_A (a1 a2 : Dyadic) : canL (endA a1 a2) 4 = [canY a1, canY a1, canY a2, canY a2] := rfl
theorem canL_B (b1 b2 : Dyadic) : canL (endB b1 b2) 4 = [canY b1, canY b2, canY b1, canY b2] := rfl

end Go.Pe

set_option linter.unusedSimpArgs false
set_option linter.unusedVariables false
namespace Go.Pe
open Go Go.Dg

end Go.Pe

set_option linter.unusedSimpArgs false
set_option linter.unusedVariables false
namespace Go.Pe
open Go Go.Dg

def listV (Y : Nat → Cell6) (n : Nat) : List Cell6 := (List.range n).map Y
theorem listV_len (Y : Nat → Cell6) (n : Nat) : (listV Y n).length = n := by simp [listV]
theorem listV_succ (Y : Nat → Cell6) (n : Nat) : listV Y (n + 1) = listV Y n ++ [Y n] := by simp [listV, List.range_succ]
theorem listV_get {Y : Nat → Cell6} {n k : Nat} (h : k < n) : (listV Y n).getD k noV = Y k := by simp [listV, List.getD, h]
theorem listV_XV {Y : Nat → Cell6} {d1 d2 : Nat → Dyadic} {L E n : Nat} (h : ∀ k, k < n → X (d1 k) L E (Y k).1 ∧ X (d2 k) L E (Y k).2) : XV d1 d2 L E (listV Y n) := by
 intro k hk
 rw [listV_len] at hk
 rw [listV_get hk]
 exact h k hk

def listY (Y : Nat → Cell3) (n : Nat) : List Cell3 := (List.range n).map Y
theorem listY_len (Y : Nat → Cell3) (n : Nat) : (listY Y n).length = n := by simp [listY]
theorem listY_succ (Y : Nat → Cell3) (n : Nat) : listY Y (n + 1) = listY Y n ++ [Y n] := by simp [listY, List.range_succ]
theorem listY_get {Y : Nat → Cell3} {n k : Nat} (h : k < n) : (listY Y n).getD k noY = Y k := by simp [listY, List.getD, h]
theorem listY_XL {Y : Nat → Cell3} {d : Nat → Dyadic} {L E n : Nat} (h : ∀ k, k < n → X (d k) L E (Y k)) : XL d L E (listY Y n) := by
 intro k hk
 rw [listY_len] at hk
 rw [listY_get hk]
 exact h k hk

end Go.Pe

set_option linter.unusedSimpArgs false
set_option linter.unusedVariables false
namespace Go.Dg
open Go Go.Pe

theorem mod_cross {x y x' y' : Nat} (hy : 0 < y) (hy' : 0 < y') (h : x * y' = x' * y) : x % y = 0 ↔ x' % y' = 0 := by
 constructor
 ·intro h0
  obtain ⟨c, hc⟩ := Nat.dvd_of_mod_eq_zero h0
  have h1 : y * (c * y') = y * x' := by rw [← Nat.mul_assoc, ← hc, h, Nat.mul_comm]
  have h2 := Nat.eq_of_mul_eq_mul_left hy h1
  rw [← h2]; exact Nat.mul_mod_left _ _
 ·intro h0
  obtain ⟨c, hc⟩ := Nat.dvd_of_mod_eq_zero h0
  have h1 : y' * (c * y) = y' * x := by rw [← Nat.mul_assoc, ← hc, ← h, Nat.mul_comm]
  have h2 := Nat.eq_of_mul_eq_mul_left hy' h1
  rw [← h2]; exact Nat.mul_mod_left _ _

end Go.Dg

set_option linter.unusedSimpArgs false
set_option linter.unusedVariables false
namespace Go.Pe
open Go Go.Dg

abbrev CellF := Int × Bool × Int × Int
def noF : CellF := (0, false, 0, 0)
def cellF (y : CellF) : PV := .agg [.val (.int .i64 y.1), .val (.bool y.2.1), .val (.int .i64 y.2.2.1), .val (.int .i64 y.2.2.2)]
def cellsF (ys : List CellF) : List PV := ys.map cellF
theorem cellsF_len (ys : List CellF) : (cellsF ys).length = ys.length := by simp [cellsF]
theorem cellsF_get {ys : List CellF} {k : Nat} (h : k < ys.length) : (cellsF ys).getD k (.val (.bool false)) = cellF (ys.getD k noF) := by
 simp [cellsF, List.getD, h]

def flOk (k : Int) (s : Bool) (m e : Int) : Prop :=
 (k = 1 ∧ -1074 ≤ e ∧ e ≤ 971 ∧ 1 ≤ m ∧ m ≤ 9007199254740991 ∧ (4503599627370496 ≤ m ∨ e = -1074)) ∨ ((k = 0 ∨ k = 2) ∧ m = 0 ∧ e = 0) ∨ (k = 3 ∧ m = 0 ∧ e = 0 ∧ s = false)

def okF (y : CellF) : Prop := flOk y.1 y.2.1 y.2.2.1 y.2.2.2
def allF (ys : List CellF) : Prop := ∀ y ∈ ys, okF y

theorem zover_form {z1 e1 z2 e2 L m : Int} (h1 : z1 ≠ 0) (h2 : z2 ≠ 0) : zover z1 z2 (e1 - e2 - L) m = zover (cZ (mk z1 e1)) (cZ (mk z2 e2)) (cE (mk z1 e1) - cE (mk z2 e2) - L) m ∧
  (z1.natAbs * 2 ^ (e1 - e2 - L).toNat % (z2.natAbs * 2 ^ (-(e1 - e2 - L)).toNat) = 0 ↔ (cZ (mk z1 e1)).natAbs * 2 ^ (cE (mk z1 e1) - cE (mk z2 e2) - L).toNat % ((cZ (mk z2 e2)).natAbs * 2 ^ (-(cE (mk z1 e1) - cE (mk z2 e2) - L)).toNat) = 0) := by
 obtain ⟨t1, n1, ht1⟩ := odd_ex z1.natAbs (by omega)
 obtain ⟨t2, n2, ht2⟩ := odd_ex z2.natAbs (by omega)
 obtain ⟨a1, a2, a3⟩ := make_law (e := e1) ht1
 obtain ⟨b1, b2, b3⟩ := make_law (e := e2) ht2
 rw [a2, b2]
 unfold zover
 rw [a3, b3, a1, b1, ht1, ht2]
 obtain ⟨k, hk⟩ : ∃ k, k = e1 - e2 - L := ⟨_, rfl⟩
 obtain ⟨k', hk'⟩ : ∃ k', k' = e1 + t1 - (e2 + t2) - L := ⟨_, rfl⟩
 rw [← hk, ← hk']
 have hp : 2 ^ t1 * 2 ^ k.toNat * 2 ^ (-k').toNat = 2 ^ k'.toNat * (2 ^ t2 * 2 ^ (-k).toNat) := by
  rw [← Nat.pow_add, ← Nat.pow_add, ← Nat.pow_add, ← Nat.pow_add]; congr 1; omega
 have hc : 2 ^ t1 * (2 * n1 + 1) * 2 ^ k.toNat * ((2 * n2 + 1) * 2 ^ (-k').toNat) = (2 * n1 + 1) * 2 ^ k'.toNat * (2 ^ t2 * (2 * n2 + 1) * 2 ^ (-k).toNat) := by
  calc 2 ^ t1 * (2 * n1 + 1) * 2 ^ k.toNat * ((2 * n2 + 1) * 2 ^ (-k').toNat) = (2 * n1 + 1) * (2 * n2 + 1) * (2 ^ t1 * 2 ^ k.toNat * 2 ^ (-k').toNat) := by grind
   _ = (2 * n1 + 1) * (2 * n2 + 1) * (2 ^ k'.toNat * (2 ^ t2 * 2 ^ (-k).toNat)) := by rw [hp]
   _ = (2 * n1 + 1) * 2 ^ k'.toNat * (2 ^ t2 * (2 * n2 + 1) * 2 ^ (-k).toNat) := by grind
 have p1 : 0 < 2 ^ t2 * (2 * n2 + 1) * 2 ^ (-k).toNat := Nat.mul_pos (Nat.mul_pos (Nat.two_pow_pos _) (by omega)) (Nat.two_pow_pos _)
 have p2 : 0 < (2 * n2 + 1) * 2 ^ (-k').toNat := Nat.mul_pos (by omega) (Nat.two_pow_pos _)
 have hr : ∀ s, rq s (2 ^ t1 * (2 * n1 + 1) * 2 ^ k.toNat) (2 ^ t2 * (2 * n2 + 1) * 2 ^ (-k).toNat) m = rq s ((2 * n1 + 1) * 2 ^ k'.toNat) ((2 * n2 + 1) * 2 ^ (-k').toNat) m := fun s => rq_cross p1 p2 hc
 exact ⟨by rw [hr, hr], mod_cross p1 p2 hc⟩

end Go.Pe

