/- Quotients within wider bounds; solutions and inverses by the adjugate. -/
import Derived.Test.YtlkiofkkjbodjaaGreatDoorDPeFl
import Derived.Test.YtlkiofkkjbodjaaGreatDoorDEvD
import Derived.Test.YtlkiofkkjbodjaaGreatDoorDPeTb
set_option linter.unusedSimpArgs false
set_option linter.unusedVariables false
namespace Go.Pe
open Go Go.Dg

def mulE (a1 a2 b1 b2 : Dyadic) (k : Nat) : Dyadic := endA a1 a2 k * endB b1 b2 k
noncomputable def mulLo (a1 a2 b1 b2 : Dyadic) : Dyadic := mulE a1 a2 b1 b2 (amin (mulE a1 a2 b1 b2) 3)
noncomputable def mulHi (a1 a2 b1 b2 : Dyadic) : Dyadic := mulE a1 a2 b1 b2 (amax (mulE a1 a2 b1 b2) 3)

theorem mulLo_le (a1 a2 b1 b2 : Dyadic) : mulLo a1 a2 b1 b2 ≤ mulHi a1 a2 b1 b2 :=
 Dyadic.le_trans (amin_min (d := mulE a1 a2 b1 b2) (k := 3) (j := 0) (by omega)) (amax_max (d := mulE a1 a2 b1 b2) (k := 3) (j := 0) (by omega))

theorem psum_le {f g : Nat → Dyadic} : ∀ {n : Nat}, (∀ k, k < n → f k ≤ g k) → psum f n ≤ psum g n
 | 0, _ => Dyadic.le_refl _
 | n + 1, h => by
  have h1 := psum_le (n := n) (fun k hk => h k (by omega))
  have h2 := h n (by omega)
  show psum f n + f n ≤ psum g n + g n
  grind

noncomputable def ivLo (m : Nat) (dA dB dC dD : Nat → Dyadic) (i j a : Nat) : Dyadic := mulLo (dA (i * m + a)) (dB (i * m + a)) (dC (a * m + j)) (dD (a * m + j))
noncomputable def ivHi (m : Nat) (dA dB dC dD : Nat → Dyadic) (i j a : Nat) : Dyadic := mulHi (dA (i * m + a)) (dB (i * m + a)) (dC (a * m + j)) (dD (a * m + j))
noncomputable def timesLo (n : Int) (dA dB dC dD : Nat → Dyadic) (k : Nat) : Dyadic := psum (ivLo n.toNat dA dB dC dD (k / n.toNat) (k % n.toNat)) n.toNat
noncomputable def timesHi (n : Int) (dA dB dC dD : Nat → Dyadic) (k : Nat) : Dyadic := psum (ivHi n.toNat dA dB dC dD (k / n.toNat) (k % n.toNat)) n.toNat
noncomputable def ivmLo (n : Int) (vs ws : List Cell6) : Nat → Dyadic := timesLo n (dvA vs) (dvB vs) (dvA ws) (dvB ws)
noncomputable def ivmHi (n : Int) (vs ws : List Cell6) : Nat → Dyadic := timesHi n (dvA vs) (dvB vs) (dvA ws) (dvB ws)

theorem times_le (n : Int) (dA dB dC dD : Nat → Dyadic) (k : Nat) : timesLo n dA dB dC dD k ≤ timesHi n dA dB dC dD k := psum_le (fun _ _ => mulLo_le _ _ _ _)
theorem ivm_le0 (n : Int) (vs ws : List Cell6) (k : Nat) : ivmLo n vs ws k ≤ ivmHi n vs ws k := times_le _ _ _ _ _ _

noncomputable def partV (d1 d2 : Nat → Dyadic) (N m : Nat) : List Cell6 := canV d1 d2 m ++ List.replicate (N - m) noV

theorem partV_len {d1 d2 : Nat → Dyadic} {N m : Nat} (h : m ≤ N) : (partV d1 d2 N m).length = N := by
 rw [partV, List.length_append, canV_len, List.length_replicate]; omega
theorem partV_zero (d1 d2 : Nat → Dyadic) (N : Nat) : partV d1 d2 N 0 = List.replicate N noV := by simp [partV, canV]
theorem partV_all (d1 d2 : Nat → Dyadic) (N : Nat) : partV d1 d2 N N = canV d1 d2 N := by simp [partV]
theorem partV_set {d1 d2 : Nat → Dyadic} {N m : Nat} (h : m < N) : (partV d1 d2 N m).set m (canY (d1 m), canY (d2 m)) = partV d1 d2 N (m + 1) := by
 unfold partV
 rw [canV_succ, List.append_assoc, List.set_append_right _ _ (by rw [canV_len]; exact Nat.le_refl _), canV_len, Nat.sub_self, show N - m = (N - (m + 1)) + 1 by omega, List.replicate_succ]
 rfl

end Go.Pe

set_option linter.unusedSimpArgs false
set_option linter.unusedVariables false
namespace Go.Pe
open Go Go.Dg

theorem zoverN {b k m : Int} : zover 0 b k m = 0 := by
 have h : ∀ s y, rq s 0 y m = 0 := fun s y => by rw [rq_exact (Nat.zero_mod _), Nat.zero_div]
 unfold zover
 rw [show Int.natAbs 0 = 0 from rfl, Nat.zero_mul, h, h]
 split <;> rfl

theorem quot_boundsB {d1 d2 : Dyadic} {low : Int} (h1 : (dg (cZ d1).natAbs).length ≤ 5000 ∧ (cE d1).natAbs ≤ 50000) (h2 : (dg (cZ d2).natAbs).length ≤ 5000 ∧ (cE d2).natAbs ≤ 50000) (h3 : low.natAbs ≤ 1000) :
  (dg (cZ (quotD d1 d2 low)).natAbs).length ≤ 20000 ∧ (cE (quotD d1 d2 low)).natAbs ≤ 400000 := by
 unfold quotD
 by_cases h : d1 = 0
 ·rw [if_pos h, cZ_zero, cE_zero, show Int.natAbs 0 = 0 from rfl, dg_zero]; decide
 ·rw [if_neg h]
  have hl := zquo_len (cZ d1) (cZ d2) (cE d1 - cE d2 - low)
  have hc := cZ_len (zquo (cZ d1) (cZ d2) (cE d1 - cE d2 - low)) (low - 3)
  refine ⟨by omega, ?_⟩
  by_cases hz : zquo (cZ d1) (cZ d2) (cE d1 - cE d2 - low) = 0
  ·rw [hz, mk_zero, cE_zero]; decide
  ·have := cE_bound (e := low - 3) hz
   omega

theorem div_bounds {d1 d2 : Dyadic} {low m : Int} (h1 : (dg (cZ d1).natAbs).length ≤ 5000 ∧ (cE d1).natAbs ≤ 50000) (h2 : (dg (cZ d2).natAbs).length ≤ 5000 ∧ (cE d2).natAbs ≤ 50000) (h3 : low.natAbs ≤ 1000) :
  (dg (cZ (divD d1 d2 low m)).natAbs).length ≤ 20000 ∧ (cE (divD d1 d2 low m)).natAbs ≤ 400000 := by
 unfold divD
 have hl := zover_len (cZ d1) (cZ d2) (cE d1 - cE d2 - low) m
 have hc := cZ_len (zover (cZ d1) (cZ d2) (cE d1 - cE d2 - low) m) low
 refine ⟨by omega, ?_⟩
 by_cases hz : zover (cZ d1) (cZ d2) (cE d1 - cE d2 - low) m = 0
 ·rw [hz, mk_zero, cE_zero]; decide
 ·have := cE_bound (e := low) hz
  omega

theorem Mg_b {a b : Nat} {d : Dyadic} (h : Mg a b d) (ha : a ≤ 30000) (hb : b ≤ 45000) : (dg (cZ d).natAbs).length ≤ 5000 ∧ (cE d).natAbs ≤ 50000 := by
 have h1 := Mg_len h
 have h2 := Mg_cE h
 have h3 := Mg_cE2 h
 omega

def solS (w : Nat) (d b : Nat → Dyadic) (i : Nat) : Dyadic := psum (fun j => adjD w d (i * w + j) * b j) w
noncomputable def solLo (w : Nat) (d b : Nat → Dyadic) (low : Int) (i : Nat) : Dyadic := divD (solS w d b i) (detD w d) low 3
noncomputable def solHi (w : Nat) (d b : Nat → Dyadic) (low : Int) (i : Nat) : Dyadic := divD (solS w d b i) (detD w d) low 2
noncomputable def invD (w : Nat) (d : Nat → Dyadic) (low : Int) (k : Nat) : Dyadic := divD (adjD w d k) (detD w d) low 0

theorem Mg_solStep {w i : Nat} {d b : Nat → Dyadic} (hw4 : w ≤ 4) (hi : i < w) (hd : ∀ k, k < w * w → Mg 3000 4600 (d k)) (hb : ∀ k, k < w → Mg 3000 4600 (b k)) {j : Nat} (hj : j < w) : Mg 12000 18413 (adjD w d (i * w + j) * b j) :=
 (Mg.adj hw4 (place_lt hi hj) hd).mul (hb j hj)

theorem Mg_solP {w i : Nat} {d b : Nat → Dyadic} (hw4 : w ≤ 4) (hi : i < w) (hd : ∀ k, k < w * w → Mg 3000 4600 (d k)) (hb : ∀ k, k < w → Mg 3000 4600 (b k)) {k : Nat} (hk : k ≤ w) : Mg 12000 18420 (psum (fun j => adjD w d (i * w + j) * b j) k) :=
 (Mg.psum (n := w) (fun j hj => Mg_solStep hw4 hi hd hb hj) k hk).mono (Nat.le_refl _) (by omega)

theorem Mg_detB {w : Nat} {d : Nat → Dyadic} (hw4 : w ≤ 4) (hd : ∀ k, k < w * w → Mg 3000 4600 (d k)) : Mg 12000 18417 (detD w d) := by
 refine (Mg.det hw4 hd).mono ?_ ?_ <;> rcases (by omega : w = 0 ∨ w = 1 ∨ w = 2 ∨ w = 3 ∨ w = 4) with rfl | rfl | rfl | rfl | rfl <;> omega

end Go.Pe

