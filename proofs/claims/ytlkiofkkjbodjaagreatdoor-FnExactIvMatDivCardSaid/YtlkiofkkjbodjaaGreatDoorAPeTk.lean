/- The least and the greatest of some numbers: the first place of each. -/
import Derived.Test.YtlkiofkkjbodjaaGreatDoorAPeTi
import Derived.Test.YtlkiofkkjbodjaaGreatDoorAEvD
set_option linter.unusedSimpArgs false
set_option linter.unusedVariables false
namespace Go.Pe
open Go Go.Dg

def okV (y : Cell6) : Prop := ivOk y.1.1 y.1.2.1 y.1.2.2 y.2.1 y.2.2.1 y.2.2.2

theorem cells6_get {ys : List Cell6} {k : Nat} (h : k < ys.length) : (cells6 ys).getD k (.val (.bool false)) = cell6 (ys.getD k noV) := by
 simp [cells6, List.getD, h]

def allV (ys : List Cell6) : Prop := ∀ y ∈ ys, okV y

def voksI (ys : List Cell6) (i : Int) : Prop := 0 ≤ i ∧ i ≤ ys.length ∧ allV (ys.take i.toNat)

theorem voksI_zero (ys : List Cell6) : voksI ys 0 := ⟨Int.le_refl _, by omega, by intro y hy; simp at hy⟩

theorem voksI_next {ys : List Cell6} {i : Int} (h : voksI ys i) (hi : i < ys.length) (h0 : okV (ys.getD i.toNat noV)) : voksI ys (i + 1) := by
 obtain ⟨a, b, c⟩ := h
 refine ⟨by omega, by omega, ?_⟩
 rw [show (i + 1).toNat = i.toNat + 1 by omega, List.take_add_one]
 rw [List.getD, List.getElem?_eq_getElem (by omega)] at h0
 rw [List.getElem?_eq_getElem (by omega)]
 intro y hy
 rcases List.mem_append.1 hy with hy | hy
 ·exact c y hy
 ·simp at hy; rw [hy]; exact h0

theorem voksI_exit {ys : List Cell6} {i : Int} (h : voksI ys i) (hi : ys.length ≤ i) : allV ys := by
 obtain ⟨a, b, c⟩ := h
 rwa [List.take_of_length_le (by omega)] at c

theorem allV_not {ys : List Cell6} {k : Nat} (hk : k < ys.length) (h : ¬okV (ys.getD k noV)) : ¬allV ys := by
 intro ha
 apply h
 rw [List.getD, List.getElem?_eq_getElem hk]
 exact ha _ (List.getElem_mem hk)

def dvA (vs : List Cell6) (k : Nat) : Dyadic := dval (vs.getD k noV).1.1 (vs.getD k noV).1.2.1 (vs.getD k noV).1.2.2
def dvB (vs : List Cell6) (k : Nat) : Dyadic := dval (vs.getD k noV).2.1 (vs.getD k noV).2.2.1 (vs.getD k noV).2.2.2

def XV (d1 d2 : Nat → Dyadic) (L E : Nat) (vs : List Cell6) : Prop := ∀ k, k < vs.length → X (d1 k) L E (vs.getD k noV).1 ∧ X (d2 k) L E (vs.getD k noV).2

theorem XV.mono {d1 d2 : Nat → Dyadic} {L E L' E' : Nat} {vs : List Cell6} (h : XV d1 d2 L E vs) (hL : L ≤ L') (hE : E ≤ E') : XV d1 d2 L' E' vs :=
 fun k hk => ⟨(h k hk).1.mono hL hE, (h k hk).2.mono hL hE⟩

theorem allV_get {vs : List Cell6} (h : allV vs) {k : Nat} (hk : k < vs.length) : okV (vs.getD k noV) := h _ (getV_mem hk)

theorem allV_XV {vs : List Cell6} (h : allV vs) : XV (dvA vs) (dvB vs) 100 3000 vs := fun k hk =>
 ⟨X_ok (y := (vs.getD k noV).1) (allV_get h hk).1, X_ok (y := (vs.getD k noV).2) (allV_get h hk).2.1⟩

theorem allV_le {vs : List Cell6} (h : allV vs) {k : Nat} (hk : k < vs.length) : dvA vs k ≤ dvB vs k := (allV_get h hk).2.2

theorem allV_fits {vs : List Cell6} (h : allV vs) {k : Nat} (hk : k < vs.length) : fits (dvA vs k) ∧ fits (dvB vs k) :=
 ⟨(dyOk_val (allV_get h hk).1).2, (dyOk_val (allV_get h hk).2.1).2⟩

theorem allV_can {vs : List Cell6} (h : allV vs) {k : Nat} (hk : k < vs.length) : vs.getD k noV = (canY (dvA vs k), canY (dvB vs k)) := by
 obtain ⟨⟨a1, a2, a3⟩, _⟩ := dyOk_val (allV_get h hk).1
 obtain ⟨⟨b1, b2, b3⟩, _⟩ := dyOk_val (allV_get h hk).2.1
 have h1 : (vs.getD k noV).1 = canY (dvA vs k) := Prod.ext a1 (Prod.ext a2 a3)
 have h2 : (vs.getD k noV).2 = canY (dvB vs k) := Prod.ext b1 (Prod.ext b2 b3)
 exact Prod.ext h1 h2

noncomputable def canV (d1 d2 : Nat → Dyadic) (n : Nat) : List Cell6 := (List.range n).map fun k => (canY (d1 k), canY (d2 k))

theorem canV_len (d1 d2 : Nat → Dyadic) (n : Nat) : (canV d1 d2 n).length = n := by simp [canV]
theorem canV_succ (d1 d2 : Nat → Dyadic) (n : Nat) : canV d1 d2 (n + 1) = canV d1 d2 n ++ [(canY (d1 n), canY (d2 n))] := by simp [canV, List.range_succ]
theorem canV_get {d1 d2 : Nat → Dyadic} {n k : Nat} (h : k < n) : (canV d1 d2 n).getD k noV = (canY (d1 k), canY (d2 k)) := by simp [canV, List.getD, h]

theorem okV_can {a b : Dyadic} : okV (canY a, canY b) ↔ fits a ∧ fits b ∧ a ≤ b := by
 have h : ∀ d : Dyadic, dval (canY d).1 (canY d).2.1 (canY d).2.2 = d := fun d => (cellsD_val (canY_cells d)).symm
 unfold okV ivOk
 simp only
 rw [dyOk_cells (canY_cells a), dyOk_cells (canY_cells b), h, h]

theorem canV_ok {d1 d2 : Nat → Dyadic} {n : Nat} : allV (canV d1 d2 n) ↔ ∀ k, k < n → fits (d1 k) ∧ fits (d2 k) ∧ d1 k ≤ d2 k := by
 constructor
 ·intro h k hk
  have := h _ (getV_mem (k := k) (by rw [canV_len]; exact hk))
  rw [canV_get hk] at this
  exact okV_can.1 this
 ·intro h y hy
  obtain ⟨k, hk, rfl⟩ := List.mem_map.1 hy
  exact okV_can.2 (h k (List.mem_range.1 hk))

def CW6 (L : Nat) (vs : List Cell6) : Prop := ∀ k, k < vs.length → ∃ a b : Dyadic, vs.getD k noV = (canY a, canY b) ∧ (dg (cZ a).natAbs).length ≤ L ∧ (dg (cZ b).natAbs).length ≤ L

theorem canV_W {d1 d2 : Nat → Dyadic} {L n : Nat} (h : ∀ k, k < n → (dg (cZ (d1 k)).natAbs).length ≤ L ∧ (dg (cZ (d2 k)).natAbs).length ≤ L) : CW6 L (canV d1 d2 n) := by
 intro k hk
 rw [canV_len] at hk
 exact ⟨_, _, canV_get hk, h k hk⟩

end Go.Pe

set_option linter.unusedSimpArgs false
set_option linter.unusedVariables false
namespace Go.Pe
open Go Go.Dg

noncomputable def amin (d : Nat → Dyadic) : Nat → Nat
 | 0 => 0
 | k + 1 => if cmpD (d (k + 1)) (d (amin d k)) < 0 then k + 1 else amin d k

noncomputable def amax (d : Nat → Dyadic) : Nat → Nat
 | 0 => 0
 | k + 1 => if 0 < cmpD (d (k + 1)) (d (amax d k)) then k + 1 else amax d k

theorem amin_le (d : Nat → Dyadic) : ∀ k, amin d k ≤ k
 | 0 => Nat.le_refl _
 | k + 1 => by have := amin_le d k; unfold amin; split <;> omega

theorem amax_le (d : Nat → Dyadic) : ∀ k, amax d k ≤ k
 | 0 => Nat.le_refl _
 | k + 1 => by have := amax_le d k; unfold amax; split <;> omega

theorem amin_ne {d : Nat → Dyadic} {k : Nat} (h : cmpD (d (amin d k)) (d (k + 1)) ≤ 0) : amin d (k + 1) = amin d k := by
 rw [amin, if_neg]
 have := cmpD_swap (d (k + 1)) (d (amin d k))
 omega

theorem amin_eq {d : Nat → Dyadic} {k : Nat} (h : ¬cmpD (d (amin d k)) (d (k + 1)) ≤ 0) : amin d (k + 1) = k + 1 := by
 rw [amin, if_pos]
 have := cmpD_swap (d (k + 1)) (d (amin d k))
 omega

theorem amax_ne {d : Nat → Dyadic} {k : Nat} (h : 0 ≤ cmpD (d (amax d k)) (d (k + 1))) : amax d (k + 1) = amax d k := by
 rw [amax, if_neg]
 have := cmpD_swap (d (amax d k)) (d (k + 1))
 omega

theorem amax_eq {d : Nat → Dyadic} {k : Nat} (h : ¬0 ≤ cmpD (d (amax d k)) (d (k + 1))) : amax d (k + 1) = k + 1 := by
 rw [amax, if_pos]
 have := cmpD_swap (d (amax d k)) (d (k + 1))
 omega

theorem amin_min {d : Nat → Dyadic} : ∀ {k j : Nat}, j ≤ k → d (amin d k) ≤ d j
 | 0, j, h => by
  obtain rfl : j = 0 := by omega
  exact Dyadic.le_refl _
 | k + 1, j, h => by
  by_cases hc : cmpD (d (amin d k)) (d (k + 1)) ≤ 0
  ·rw [amin_ne hc]
   by_cases hj : j = k + 1
   ·rw [hj]; exact cmpD_le.1 hc
   ·exact amin_min (by omega)
  ·rw [amin_eq hc]
   by_cases hj : j = k + 1
   ·rw [hj]; exact Dyadic.le_refl _
   ·have h1 := amin_min (d := d) (k := k) (j := j) (by omega)
    have h2 : cmpD (d (k + 1)) (d (amin d k)) ≤ 0 := by
     have := cmpD_swap (d (k + 1)) (d (amin d k))
     omega
    exact Dyadic.le_trans (cmpD_le.1 h2) h1

theorem amax_max {d : Nat → Dyadic} : ∀ {k j : Nat}, j ≤ k → d j ≤ d (amax d k)
 | 0, j, h => by
  obtain rfl : j = 0 := by omega
  exact Dyadic.le_refl _
 | k + 1, j, h => by
  by_cases hc : 0 ≤ cmpD (d (amax d k)) (d (k + 1))
  ·rw [amax_ne hc]
   by_cases hj : j = k + 1
   ·rw [hj]
    have h2 : cmpD (d (k + 1)) (d (amax d k)) ≤ 0 := by
     have := cmpD_swap (d (amax d k)) (d (k + 1))
     omega
    exact cmpD_le.1 h2
   ·exact amax_max (by omega)
  ·rw [amax_eq hc]
   by_cases hj : j = k + 1
   ·rw [hj]; exact Dyadic.le_refl _
   ·have h1 := amax_max (d := d) (k := k) (j := j) (by omega)
    exact Dyadic.le_trans h1 (cmpD_le.1 (by omega))

def endA (a1 a2 : Dyadic) (k : Nat) : Dyadic := if k < 2 then a1 else a2
def endB (b1 b2 : Dyadic) (k : Nat) : Dyadic := if k % 2 = 0 then b1 else b2

def divE (a1 a2 b1 b2 : Dyadic) (low m : Int) (k : Nat) : Dyadic := divD (endA a1 a2 k) (endB b1 b2 k) low m

noncomputable def divLo (a1 a2 b1 b2 : Dyadic) (low : Int) : Dyadic := divE a1 a2 b1 b2 low 3 (amin (divE a1 a2 b1 b2 low 3) 3)
noncomputable def divHi (a1 a2 b1 b2 : Dyadic) (low : Int) : Dyadic := divE a1 a2 b1 b2 low 2 (amax (divE a1 a2 b1 b2 low 2) 3)

theorem endA_cases (a1 a2 : Dyadic) (k : Nat) : endA a1 a2 k = a1 ∨ endA a1 a2 k = a2 := by unfold endA; split <;> simp
theorem endB_cases (b1 b2 : Dyadic) (k : Nat) : endB b1 b2 k = b1 ∨ endB b1 b2 k = b2 := by unfold endB; split <;> simp

theorem canL_A (a1 a2 : Dyadic) : canL (endA a1 a2) 4 = [canY a1, canY a1, canY a2, canY a2] := rfl
theorem canL_B (b1 b2 : Dyadic) : canL (endB b1 b2) 4 = [canY b1, canY b2, canY b1, canY b2] := rfl

theorem divD_can {a b : Dyadic} {low m : Int} (fa : fits a) (fb : fits b) (hb : low.natAbs ≤ 300) : (dg (cZ (divD a b low m)).natAbs).length ≤ 600 ∧ (cE (divD a b low m)).natAbs ≤ 20000 := by
 obtain ⟨a1, a2, a3⟩ := fa
 obtain ⟨b1, b2, b3⟩ := fb
 have h1 := zover_len (cZ a) (cZ b) (cE a - cE b - low) m
 have h2 := cZ_len (zover (cZ a) (cZ b) (cE a - cE b - low) m) low
 unfold divD
 refine ⟨by omega, ?_⟩
 by_cases hz : zover (cZ a) (cZ b) (cE a - cE b - low) m = 0
 ·rw [hz, mk_zero, cE_zero]; decide
 ·have := cE_bound (e := low) hz
  omega

end Go.Pe

