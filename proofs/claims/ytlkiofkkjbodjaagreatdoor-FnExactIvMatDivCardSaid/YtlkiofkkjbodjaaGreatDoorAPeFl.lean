/- Floats: forms, lists of floats, the float of a number rounded; quotients and roots of numbers in any form. -/
import Derived.Test.YtlkiofkkjbodjaaGreatDoorAEvD
set_option linter.unusedSimpArgs false
set_option linter.unusedVariables false
namespace Go.Pe
open Go Go.Dg

def isRt (a r : Nat) : Prop := r * r ≤ a ∧ a < (r + 1) * (r + 1)

theorem isRt_unique {a r s : Nat} (h : isRt a r) (g : isRt a s) : r = s := by
 rcases Nat.lt_trichotomy r s with h1 | h1 | h1
 ·have := Nat.mul_le_mul (show r + 1 ≤ s from h1) (show r + 1 ≤ s from h1)
  have h2 := h.2
  have g1 := g.1
  omega
 ·exact h1
 ·have := Nat.mul_le_mul (show s + 1 ≤ r from h1) (show s + 1 ≤ r from h1)
  have h2 := g.2
  have g1 := h.1
  omega

end Go.Pe

set_option linter.unusedSimpArgs false
set_option linter.unusedVariables false
namespace Go.Pe
open Go Go.Dg

theorem rt_ex (a : Nat) : ∃ r, isRt a r := by
 have key : ∀ n r : Nat, r * r ≤ a → a < (r + n + 1) * (r + n + 1) → ∃ r, isRt a r := by
  intro n
  induction n with
  | zero => intro r h1 h2; exact ⟨r, h1, h2⟩
  | succ n ih =>
   intro r h1 h2
   by_cases h : a < (r + 1) * (r + 1)
   ·exact ⟨r, h1, h⟩
   ·exact ih (r + 1) (by omega) (by rw [show r + 1 + n + 1 = r + (n + 1) + 1 by omega]; exact h2)
 refine key a 0 (Nat.zero_le _) ?_
 have : a + 1 ≤ (0 + a + 1) * (0 + a + 1) := by rw [Nat.zero_add]; exact Nat.le_mul_of_pos_right _ (by omega)
 omega

noncomputable def rtN (a : Nat) : Nat := Classical.choose (rt_ex a)
theorem rtN_spec (a : Nat) : isRt a (rtN a) := Classical.choose_spec (rt_ex a)
theorem rtN_zero : rtN 0 = 0 := isRt_unique (rtN_spec 0) ⟨Nat.le_refl _, by decide⟩
theorem rtN_le (a : Nat) : rtN a ≤ a := by
 have h := (rtN_spec a).1
 rcases Nat.eq_zero_or_pos (rtN a) with h0 | h0
 ·omega
 ·exact Nat.le_trans (Nat.le_mul_of_pos_right _ h0) h

end Go.Pe

set_option linter.unusedSimpArgs false
set_option linter.unusedVariables false
namespace Go.Dg
open Go Go.Pe

theorem mod_cross {x y x' y' : Nat} (hy : 0 < y) (hy' : 0 < y') (h : x * y' = x' * y) : x % y = 0 ↔ x' % y' = 0 := by
 constructor
 ·intro h0
  obtain ⟨c, hc⟩ := Nat.dvd_of_mod_eq_zero h0
  have h1 : y * (c * y') = y * x' := by rw [← Nat.mul_assoc, ← hc, h, Nat.mul_comm]
  have h2 := Nat.eq_of_mul_eq_mul_left hy h1
  rw [← h2]; exact Nat.mul_mod_left _ _
 ·intro h0
  obtain ⟨c, hc⟩ := Nat.dvd_of_mod_eq_zero h0
  have h1 : y' * (c * y) = y' * x := by rw [← Nat.mul_assoc, ← hc, ← h, Nat.mul_comm]
  have h2 := Nat.eq_of_mul_eq_mul_left hy' h1
  rw [← h2]; exact Nat.mul_mod_left _ _

end Go.Dg

set_option linter.unusedSimpArgs false
set_option linter.unusedVariables false
namespace Go.Pe
open Go Go.Dg

abbrev CellF := Int × Bool × Int × Int
def noF : CellF := (0, false, 0, 0)
def cellF (y : CellF) : PV := .agg [.val (.int .i64 y.1), .val (.bool y.2.1), .val (.int .i64 y.2.2.1), .val (.int .i64 y.2.2.2)]
def cellsF (ys : List CellF) : List PV := ys.map cellF
theorem cellsF_len (ys : List CellF) : (cellsF ys).length = ys.length := by simp [cellsF]
theorem cellsF_get {ys : List CellF} {k : Nat} (h : k < ys.length) : (cellsF ys).getD k (.val (.bool false)) = cellF (ys.getD k noF) := by
 simp [cellsF, List.getD, h]

def flOk (k : Int) (s : Bool) (m e : Int) : Prop :=
 (k = 1 ∧ -1074 ≤ e ∧ e ≤ 971 ∧ 1 ≤ m ∧ m ≤ 9007199254740991 ∧ (4503599627370496 ≤ m ∨ e = -1074)) ∨ ((k = 0 ∨ k = 2) ∧ m = 0 ∧ e = 0) ∨ (k = 3 ∧ m = 0 ∧ e = 0 ∧ s = false)

def okF (y : CellF) : Prop := flOk y.1 y.2.1 y.2.2.1 y.2.2.2
def allF (ys : List CellF) : Prop := ∀ y ∈ ys, okF y

theorem zover_form {z1 e1 z2 e2 L m : Int} (h1 : z1 ≠ 0) (h2 : z2 ≠ 0) : zover z1 z2 (e1 - e2 - L) m = zover (cZ (mk z1 e1)) (cZ (mk z2 e2)) (cE (mk z1 e1) - cE (mk z2 e2) - L) m ∧
  (z1.natAbs * 2 ^ (e1 - e2 - L).toNat % (z2.natAbs * 2 ^ (-(e1 - e2 - L)).toNat) = 0 ↔ (cZ (mk z1 e1)).natAbs * 2 ^ (cE (mk z1 e1) - cE (mk z2 e2) - L).toNat % ((cZ (mk z2 e2)).natAbs * 2 ^ (-(cE (mk z1 e1) - cE (mk z2 e2) - L)).toNat) = 0) := by
 obtain ⟨t1, n1, ht1⟩ := odd_ex z1.natAbs (by omega)
 obtain ⟨t2, n2, ht2⟩ := odd_ex z2.natAbs (by omega)
 obtain ⟨a1, a2, a3⟩ := make_law (e := e1) ht1
 obtain ⟨b1, b2, b3⟩ := make_law (e := e2) ht2
 rw [a2, b2]
 unfold zover
 rw [a3, b3, a1, b1, ht1, ht2]
 obtain ⟨k, hk⟩ : ∃ k, k = e1 - e2 - L := ⟨_, rfl⟩
 obtain ⟨k', hk'⟩ : ∃ k', k' = e1 + t1 - (e2 + t2) - L := ⟨_, rfl⟩
 rw [← hk, ← hk']
 have hp : 2 ^ t1 * 2 ^ k.toNat * 2 ^ (-k').toNat = 2 ^ k'.toNat * (2 ^ t2 * 2 ^ (-k).toNat) := by
  rw [← Nat.pow_add, ← Nat.pow_add, ← Nat.pow_add, ← Nat.pow_add]; congr 1; omega
 have hc : 2 ^ t1 * (2 * n1 + 1) * 2 ^ k.toNat * ((2 * n2 + 1) * 2 ^ (-k').toNat) = (2 * n1 + 1) * 2 ^ k'.toNat * (2 ^ t2 * (2 * n2 + 1) * 2 ^ (-k).toNat) := by
  calc 2 ^ t1 * (2 * n1 + 1) * 2 ^ k.toNat * ((2 * n2 + 1) * 2 ^ (-k').toNat) = (2 * n1 + 1) * (2 * n2 + 1) * (2 ^ t1 * 2 ^ k.toNat * 2 ^ (-k').toNat) := by grind
   _ = (2 * n1 + 1) * (2 * n2 + 1) * (2 ^ k'.toNat * (2 ^ t2 * 2 ^ (-k).toNat)) := by rw [hp]
   _ = (2 * n1 + 1) * 2 ^ k'.toNat * (2 ^ t2 * (2 * n2 + 1) * 2 ^ (-k).toNat) := by grind
 have p1 : 0 < 2 ^ t2 * (2 * n2 + 1) * 2 ^ (-k).toNat := Nat.mul_pos (Nat.mul_pos (Nat.two_pow_pos _) (by omega)) (Nat.two_pow_pos _)
 have p2 : 0 < (2 * n2 + 1) * 2 ^ (-k').toNat := Nat.mul_pos (by omega) (Nat.two_pow_pos _)
 have hr : ∀ s, rq s (2 ^ t1 * (2 * n1 + 1) * 2 ^ k.toNat) (2 ^ t2 * (2 * n2 + 1) * 2 ^ (-k).toNat) m = rq s ((2 * n1 + 1) * 2 ^ k'.toNat) ((2 * n2 + 1) * 2 ^ (-k').toNat) m := fun s => rq_cross p1 p2 hc
 exact ⟨by rw [hr, hr], mod_cross p1 p2 hc⟩

end Go.Pe

