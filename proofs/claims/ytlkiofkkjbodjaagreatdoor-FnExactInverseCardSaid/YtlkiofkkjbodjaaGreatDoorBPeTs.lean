/- How far a rounded inverse is off. -/
import Derived.Test.YtlkiofkkjbodjaaGreatDoorBPeTk
import Derived.Test.YtlkiofkkjbodjaaGreatDoorBEvD
set_option linter.unusedSimpArgs false
set_option linter.unusedVariables false
namespace Go.Pe
open Go Go.Dg

end Go.Pe

set_option linter.unusedSimpArgs false
set_option linter.unusedVariables false
namespace Go.Pe
open Go Go.Dg

def wI (Y : Nat → eR) (n : Nat) : List eR := (List.range n).map Y
theorem aNE (Y : Nat → eR) (n : Nat) : (wI Y n).length = n := by simp [wI]
theorem aV6 (Y : Nat → eR) (n : Nat) : wI Y (n + 1) = wI Y n ++ [Y n] := by simp [wI, List.range_succ]
theorem aNF {Y : Nat → eR} {n k : Nat} (h : k < n) : (wI Y n).getD k noV = Y k := by simp [wI, List.getD, h]
theorem aYJ {Y : Nat → eR} {d1 d2 : Nat → Dyadic} {L E n : Nat} (h : ∀ k, k < n → X (d1 k) L E (Y k).1 ∧ X (d2 k) L E (Y k).2) : XV d1 d2 L E (wI Y n) := by
 intro k hk
 rw [aNE] at hk
 rw [aNF hk]
 exact h k hk

def wJ (Y : Nat → aC) (n : Nat) : List aC := (List.range n).map Y
theorem aNG (Y : Nat → aC) (n : Nat) : (wJ Y n).length = n := by simp [wJ]
theorem aV7 (Y : Nat → aC) (n : Nat) : wJ Y (n + 1) = wJ Y n ++ [Y n] := by simp [wJ, List.range_succ]
theorem aNH {Y : Nat → aC} {n k : Nat} (h : k < n) : (wJ Y n).getD k noY = Y k := by simp [wJ, List.getD, h]
theorem aYK {Y : Nat → aC} {d : Nat → Dyadic} {L E n : Nat} (h : ∀ k, k < n → X (d k) L E (Y k)) : XL d L E (wJ Y n) := by
 intro k hk
 rw [aNG] at hk
 rw [aNH hk]
 exact h k hk

end Go.Pe

set_option linter.unusedSimpArgs false
set_option linter.unusedVariables false
namespace Go.Dg
open Go Go.Pe

theorem aNA {x y x' y' : Nat} (hy : 0 < y) (hy' : 0 < y') (h : x * y' = x' * y) : x % y = 0 ↔ x' % y' = 0 := by
 constructor
 ·intro h0
  obtain ⟨c, hc⟩ := Nat.dvd_of_mod_eq_zero h0
  have h1 : y * (c * y') = y * x' := by rw [← Nat.mul_assoc, ← hc, h, Nat.mul_comm]
  have h2 := Nat.eq_of_mul_eq_mul_left hy h1
  rw [← h2]; exact Nat.mul_mod_left _ _
 ·intro h0
  obtain ⟨c, hc⟩ := Nat.dvd_of_mod_eq_zero h0
  have h1 : y' * (c * y) = y' * x := by rw [← Nat.mul_assoc, ← hc, ← h, Nat.mul_comm]
  have h2 := Nat.eq_of_mul_eq_mul_left hy' h1
  rw [← h2]; exact Nat.mul_mod_left _ _

end Go.Dg

set_option linter.unusedSimpArgs false
set_option linter.unusedVariables false
namespace Go.Pe
open Go Go.Dg

abbrev aAD := Int × Bool × Int × Int
def noF : aAD := (0, false, 0, 0)
def aUD (y : aAD) : PV := .agg [.val (.int .i64 y.1), .val (.bool y.2.1), .val (.int .i64 y.2.2.1), .val (.int .i64 y.2.2.2)]
def aDZ (ys : List aAD) : List PV := ys.map aUD
theorem aV1 (ys : List aAD) : (aDZ ys).length = ys.length := by simp [aDZ]
theorem aV2 {ys : List aAD} {k : Nat} (h : k < ys.length) : (aDZ ys).getD k (.val (.bool false)) = aUD (ys.getD k noF) := by
 simp [aDZ, List.getD, h]

def aZY (k : Int) (s : Bool) (m e : Int) : Prop :=
 (k = 1 ∧ -1074 ≤ e ∧ e ≤ 971 ∧ 1 ≤ m ∧ m ≤ 9007199254740991 ∧ (4503599627370496 ≤ m ∨ e = -1074)) ∨ ((k = 0 ∨ k = 2) ∧ m = 0 ∧ e = 0) ∨ (k = 3 ∧ m = 0 ∧ e = 0 ∧ s = false)

def okF (y : aAD) : Prop := aZY y.1 y.2.1 y.2.2.1 y.2.2.2
def bA9 (ys : List aAD) : Prop := ∀ y ∈ ys, okF y

theorem aJD {z1 e1 z2 e2 L m : Int} (h1 : z1 ≠ 0) (h2 : z2 ≠ 0) : eW z1 z2 (e1 - e2 - L) m = eW (cZ (mk z1 e1)) (cZ (mk z2 e2)) (cE (mk z1 e1) - cE (mk z2 e2) - L) m ∧
  (z1.natAbs * 2 ^ (e1 - e2 - L).toNat % (z2.natAbs * 2 ^ (-(e1 - e2 - L)).toNat) = 0 ↔ (cZ (mk z1 e1)).natAbs * 2 ^ (cE (mk z1 e1) - cE (mk z2 e2) - L).toNat % ((cZ (mk z2 e2)).natAbs * 2 ^ (-(cE (mk z1 e1) - cE (mk z2 e2) - L)).toNat) = 0) := by
 obtain ⟨t1, n1, ht1⟩ := uZ z1.natAbs (by omega)
 obtain ⟨t2, n2, ht2⟩ := uZ z2.natAbs (by omega)
 obtain ⟨a1, a2, a3⟩ := kQ (e := e1) ht1
 obtain ⟨b1, b2, b3⟩ := kQ (e := e2) ht2
 rw [a2, b2]
 unfold eW
 rw [a3, b3, a1, b1, ht1, ht2]
 obtain ⟨k, hk⟩ : ∃ k, k = e1 - e2 - L := ⟨_, rfl⟩
 obtain ⟨k', hk'⟩ : ∃ k', k' = e1 + t1 - (e2 + t2) - L := ⟨_, rfl⟩
 rw [← hk, ← hk']
 have hp : 2 ^ t1 * 2 ^ k.toNat * 2 ^ (-k').toNat = 2 ^ k'.toNat * (2 ^ t2 * 2 ^ (-k).toNat) := by
  rw [← Nat.pow_add, ← Nat.pow_add, ← Nat.pow_add, ← Nat.pow_add]; congr 1; omega
 have hc : 2 ^ t1 * (2 * n1 + 1) * 2 ^ k.toNat * ((2 * n2 + 1) * 2 ^ (-k').toNat) = (2 * n1 + 1) * 2 ^ k'.toNat * (2 ^ t2 * (2 * n2 + 1) * 2 ^ (-k).toNat) := by
  calc 2 ^ t1 * (2 * n1 + 1) * 2 ^ k.toNat * ((2 * n2 + 1) * 2 ^ (-k').toNat) = (2 * n1 + 1) * (2 * n2 + 1) * (2 ^ t1 * 2 ^ k.toNat * 2 ^ (-k').toNat) := by grind
   _ = (2 * n1 + 1) * (2 * n2 + 1) * (2 ^ k'.toNat * (2 ^ t2 * 2 ^ (-k).toNat)) := by rw [hp]
   _ = (2 * n1 + 1) * 2 ^ k'.toNat * (2 ^ t2 * (2 * n2 + 1) * 2 ^ (-k).toNat) := by grind
 have p1 : 0 < 2 ^ t2 * (2 * n2 + 1) * 2 ^ (-k).toNat := Nat.mul_pos (Nat.mul_pos (Nat.two_pow_pos _) (by omega)) (Nat.two_pow_pos _)
 have p2 : 0 < (2 * n2 + 1) * 2 ^ (-k').toNat := Nat.mul_pos (by omega) (Nat.two_pow_pos _)
 have hr : ∀ s, rq s (2 ^ t1 * (2 * n1 + 1) * 2 ^ k.toNat) (2 ^ t2 * (2 * n2 + 1) * 2 ^ (-k).toNat) m = rq s ((2 * n1 + 1) * 2 ^ k'.toNat) ((2 * n2 + 1) * 2 ^ (-k').toNat) m := fun s => aFR p1 p2 hc
 exact ⟨by rw [hr, hr], aNA p1 p2 hc⟩

end Go.Pe

set_option linter.unusedSimpArgs false
set_option linter.unusedVariables false
namespace Go.Pe
open Go Go.Dg

def aNI (a1 a2 b1 b2 : Dyadic) (k : Nat) : Dyadic := aNC a1 a2 k * aND b1 b2 k
noncomputable def aUF (a1 a2 b1 b2 : Dyadic) : Dyadic := aNI a1 a2 b1 b2 (pU (aNI a1 a2 b1 b2) 3)
noncomputable def aUG (a1 a2 b1 b2 : Dyadic) : Dyadic := aNI a1 a2 b1 b2 (pV (aNI a1 a2 b1 b2) 3)

theorem aRP (a1 a2 b1 b2 : Dyadic) : aUF a1 a2 b1 b2 ≤ aUG a1 a2 b1 b2 :=
 Dyadic.le_trans (aAF (d := aNI a1 a2 b1 b2) (k := 3) (j := 0) (by omega)) (aAG (d := aNI a1 a2 b1 b2) (k := 3) (j := 0) (by omega))

theorem aKO {f g : Nat → Dyadic} : ∀ {n : Nat}, (∀ k, k < n → f k ≤ g k) → bF f n ≤ bF g n
 | 0, _ => Dyadic.le_refl _
 | n + 1, h => by
  have h1 := aKO (n := n) (fun k hk => h k (by omega))
  have h2 := h n (by omega)
  show bF f n + f n ≤ bF g n + g n
  grind

noncomputable def aZ2 (m : Nat) (dA dB dC dD : Nat → Dyadic) (i j a : Nat) : Dyadic := aUF (dA (i * m + a)) (dB (i * m + a)) (dC (a * m + j)) (dD (a * m + j))
noncomputable def aZ3 (m : Nat) (dA dB dC dD : Nat → Dyadic) (i j a : Nat) : Dyadic := aUG (dA (i * m + a)) (dB (i * m + a)) (dC (a * m + j)) (dD (a * m + j))
noncomputable def aKP (n : Int) (dA dB dC dD : Nat → Dyadic) (k : Nat) : Dyadic := bF (aZ2 n.toNat dA dB dC dD (k / n.toNat) (k % n.toNat)) n.toNat
noncomputable def aKQ (n : Int) (dA dB dC dD : Nat → Dyadic) (k : Nat) : Dyadic := bF (aZ3 n.toNat dA dB dC dD (k / n.toNat) (k % n.toNat)) n.toNat
noncomputable def aYL (n : Int) (vs ws : List eR) : Nat → Dyadic := aKP n (dvA vs) (dvB vs) (dvA ws) (dvB ws)
noncomputable def aYM (n : Int) (vs ws : List eR) : Nat → Dyadic := aKQ n (dvA vs) (dvB vs) (dvA ws) (dvB ws)

theorem aRQ (n : Int) (dA dB dC dD : Nat → Dyadic) (k : Nat) : aKP n dA dB dC dD k ≤ aKQ n dA dB dC dD k := aKO (fun _ _ => aRP _ _ _ _)
theorem aYT (n : Int) (vs ws : List eR) (k : Nat) : aYL n vs ws k ≤ aYM n vs ws k := aRQ _ _ _ _ _ _

noncomputable def tS (d1 d2 : Nat → Dyadic) (N m : Nat) : List eR := aA9 d1 d2 m ++ List.replicate (N - m) noV

theorem aWI {d1 d2 : Nat → Dyadic} {N m : Nat} (h : m ≤ N) : (tS d1 d2 N m).length = N := by
 rw [tS, List.length_append, aAE, List.length_replicate]; omega
theorem aV8 (d1 d2 : Nat → Dyadic) (N : Nat) : tS d1 d2 N 0 = List.replicate N noV := by simp [tS, aA9]
theorem aWJ (d1 d2 : Nat → Dyadic) (N : Nat) : tS d1 d2 N N = aA9 d1 d2 N := by simp [tS]
theorem aWK {d1 d2 : Nat → Dyadic} {N m : Nat} (h : m < N) : (tS d1 d2 N m).set m (aG (d1 m), aG (d2 m)) = tS d1 d2 N (m + 1) := by
 unfold tS
 rw [aNB, List.append_assoc, List.set_append_right _ _ (by rw [aAE]; exact Nat.le_refl _), aAE, Nat.sub_self, show N - m = (N - (m + 1)) + 1 by omega, List.replicate_succ]
 rfl

end Go.Pe

set_option linter.unusedSimpArgs false
set_option linter.unusedVariables false
namespace Go.Pe
open Go Go.Dg

theorem aRL {b k m : Int} : eW 0 b k m = 0 := by
 have h : ∀ s y, rq s 0 y m = 0 := fun s y => by rw [lZ (Nat.zero_mod _), Nat.zero_div]
 unfold eW
 rw [show Int.natAbs 0 = 0 from rfl, Nat.zero_mul, h, h]
 split <;> rfl

theorem aDW {d1 d2 : Dyadic} {low : Int} (h1 : (dg (cZ d1).natAbs).length ≤ 5000 ∧ (cE d1).natAbs ≤ 50000) (h2 : (dg (cZ d2).natAbs).length ≤ 5000 ∧ (cE d2).natAbs ≤ 50000) (h3 : low.natAbs ≤ 1000) :
  (dg (cZ (tE d1 d2 low)).natAbs).length ≤ 20000 ∧ (cE (tE d1 d2 low)).natAbs ≤ 400000 := by
 unfold tE
 by_cases h : d1 = 0
 ·rw [if_pos h, dT, nJ, show Int.natAbs 0 = 0 from rfl, aO]; decide
 ·rw [if_neg h]
  have hl := aPP (cZ d1) (cZ d2) (cE d1 - cE d2 - low)
  have hc := aVA (aFS (cZ d1) (cZ d2) (cE d1 - cE d2 - low)) (low - 3)
  refine ⟨by omega, ?_⟩
  by_cases hz : aFS (cZ d1) (cZ d2) (cE d1 - cE d2 - low) = 0
  ·rw [hz, mk_zero, nJ]; decide
  ·have := aFT (e := low - 3) hz
   omega

theorem aYC {a b : Nat} {d : Dyadic} (h : Mg a b d) (ha : a ≤ 30000) (hb : b ≤ 45000) : (dg (cZ d).natAbs).length ≤ 5000 ∧ (cE d).natAbs ≤ 50000 := by
 have h1 := eJ h
 have h2 := iC h
 have h3 := eO h
 omega

def aYN (w : Nat) (d b : Nat → Dyadic) (i : Nat) : Dyadic := bF (fun j => qR w d (i * w + j) * b j) w
noncomputable def bAQ (w : Nat) (d b : Nat → Dyadic) (low : Int) (i : Nat) : Dyadic := uY (aYN w d b i) (cF w d) low 3
noncomputable def bAR (w : Nat) (d b : Nat → Dyadic) (low : Int) (i : Nat) : Dyadic := uY (aYN w d b i) (cF w d) low 2
noncomputable def dH (w : Nat) (d : Nat → Dyadic) (low : Int) (k : Nat) : Dyadic := uY (qR w d k) (cF w d) low 0

theorem aDX {w : Nat} {d : Nat → Dyadic} (hw4 : w ≤ 4) (hd : ∀ k, k < w * w → Mg 3000 4600 (d k)) : Mg 12000 18417 (cF w d) := by
 refine (Mg.det hw4 hd).mono ?_ ?_ <;> rcases (by omega : w = 0 ∨ w = 1 ∨ w = 2 ∨ w = 3 ∨ w = 4) with rfl | rfl | rfl | rfl | rfl <;> omega

end Go.Pe

set_option linter.unusedSimpArgs false
set_option linter.unusedVariables false
namespace Go.Pe
open Go Go.Dg

noncomputable def dM (n : Int) (d : Nat → Dyadic) (low : Int) : Dyadic := jH n.toNat (fun k => nQ n d (dH n.toNat d low) k - idD n.toNat k)

theorem aYO {z low : Int} {L : Nat} (h : (dg z.natAbs).length ≤ L) (pF : low.natAbs ≤ 200) : Mg 200 (16 * L + 200) (mk z low) := by
 obtain ⟨k, hk⟩ : ∃ k : Nat, k = (low + 200).toNat := ⟨_, rfl⟩
 have e : low - k = -((200 : Nat) : Int) := by omega
 refine ⟨z * 2 ^ k, by rw [aII z low k, e], ?_⟩
 have h1 : z.natAbs < 65536 ^ L := Nat.lt_of_lt_of_le (dZ _) (Nat.pow_le_pow_right (by decide) h)
 have h2 : (65536 : Nat) ^ L = 2 ^ (16 * L) := by rw [show (65536 : Nat) = 2 ^ 16 from rfl, ← Nat.pow_mul]
 rw [Int.natAbs_mul, Int.natAbs_pow, show Int.natAbs 2 = 2 from rfl]
 rw [h2] at h1
 have h3 : 0 < 2 ^ k := Nat.two_pow_pos k
 have h4 : z.natAbs * 2 ^ k < 2 ^ (16 * L) * 2 ^ k := Nat.mul_lt_mul_of_pos_right h1 h3
 rw [← Nat.pow_add] at h4
 exact Nat.lt_of_lt_of_le h4 (Nat.pow_le_pow_right (by decide) (by omega))

theorem aV9 {a b : Dyadic} {low m : Int} (ba : (dg (cZ a).natAbs).length ≤ 1500 ∧ (cE a).natAbs ≤ 14000) (bb : (cE b).natAbs ≤ 19000) (pF : low.natAbs ≤ 200) : Mg 200 64200 (uY a b low m) := by
 have h := aB7 (cZ a) (cZ b) (cE a - cE b - low) m
 unfold uY
 exact aYO (L := 4000) (by omega) pF

theorem aJE {w k : Nat} {d : Nat → Dyadic} {low : Int} (hw4 : w ≤ 4) (hk : k < w * w) (hd : ∀ k, k < w * w → Mg 3000 4600 (d k)) (pF : low.natAbs ≤ 200) : Mg 200 64200 (dH w d low k) := by
 have ba := Mg.adj hw4 hk hd
 have b1 := eJ ba
 have b2 := iC ba
 have b3 := eO ba
 have bdet := aDX hw4 hd
 have c1 := iC bdet
 have c2 := eO bdet
 exact aV9 (by omega) (by omega) pF

end Go.Pe

