/- A struct of four fields. -/
import Derived.Test.YtcbagjglchpagaaDoorFEvD
set_option linter.unusedSimpArgs false
set_option linter.unusedVariables false
namespace Go.Pe
open Go Go.Dg

/-- r is the root of a, rounded down -/
def isRt (a r : Nat) : Prop := r * r ≤ a ∧ a < (r + 1) * (r + 1)

theorem isRt_unique {a r s : Nat} (h : isRt a r) (g : isRt a s) : r = s := by
  rcases Nat.lt_trichotomy r s with h1 | h1 | h1
  · have := Nat.mul_le_mul (show r + 1 ≤ s from h1) (show r + 1 ≤ s from h1)
    have h2 := h.2
    have g1 := g.1
    omega
  · exact h1
  · have := Nat.mul_le_mul (show s + 1 ≤ r from h1) (show s + 1 ≤ r from h1)
    have h2 := g.2
    have g1 := h.1
    omega

/-- where Newton's step does not lead down, the root is reached -/
theorem newton_stop {a x : Nat} (h : a < (x + 1) * (x + 1)) (hy : x ≤ (x + a / x) / 2) : isRt a x := by
  have h1 : x ≤ a / x := by omega
  have h2 : x * x ≤ a := by
    have := Nat.mul_le_mul_right x h1
    exact Nat.le_trans this (Nat.div_mul_le_self a x)
  exact ⟨h2, h⟩

theorem sq_le (a b : Nat) : 4 * (a * b) ≤ (a + b) * (a + b) := by
  rcases Nat.le_total a b with h | h
  · obtain ⟨k, rfl⟩ := Nat.exists_eq_add_of_le h
    have : (a + (a + k)) * (a + (a + k)) = 4 * (a * (a + k)) + k * k := by grind
    omega
  · obtain ⟨k, rfl⟩ := Nat.exists_eq_add_of_le h
    have : (b + k + b) * (b + k + b) = 4 * ((b + k) * b) + k * k := by grind
    omega

/-- a step does not lead below the root -/
theorem newton_step {a x : Nat} (hx : 0 < x) : a < ((x + a / x) / 2 + 1) * ((x + a / x) / 2 + 1) := by
  obtain ⟨q, hq⟩ : ∃ q, q = a / x := ⟨_, rfl⟩
  obtain ⟨y, hy⟩ : ∃ y, y = (x + q) / 2 := ⟨_, rfl⟩
  rw [← hq, ← hy]
  have h1 : a < (q + 1) * x := by
    have h1 := Nat.mod_lt a hx
    have h2 := Nat.div_add_mod a x
    rw [hq, Nat.add_mul, Nat.one_mul, Nat.mul_comm]
    omega
  have h2 : x + (q + 1) ≤ 2 * (y + 1) := by omega
  have h3 := sq_le x (q + 1)
  have h4 := Nat.mul_le_mul h2 h2
  have h5 : 2 * (y + 1) * (2 * (y + 1)) = 4 * ((y + 1) * (y + 1)) := by grind
  have h6 : x * (q + 1) = (q + 1) * x := Nat.mul_comm _ _
  omega

theorem newton_pos {a x : Nat} (ha : 0 < a) (hx : 0 < x) : 0 < (x + a / x) / 2 := by
  rcases Nat.eq_zero_or_pos ((x + a / x) / 2) with h0 | h0
  · exfalso
    have := newton_step (a := a) hx
    rw [h0] at this
    omega
  · exact h0

/-- the root of n / 2^s rounded; r is it rounded down -/
def rrt (n s r : Nat) (m : Int) : Nat := if r * r * 2 ^ s = n then r else if rup false (decide (r % 2 = 1)) (cmpN (n * 4) ((2 * r + 1) * (2 * r + 1) * 2 ^ s)) m = true then r + 1 else r

end Go.Pe

set_option linter.unusedSimpArgs false
set_option linter.unusedVariables false
namespace Go.Pe
open Go Go.Dg

theorem newton_start (a : Nat) : a < (2 ^ ((bl a + 1) / 2) + 1) * (2 ^ ((bl a + 1) / 2) + 1) := by
  have h1 : a < 2 ^ bl a := (bl_le (bl a) a).1 (Nat.le_refl _)
  have h2 : 2 ^ bl a ≤ 2 ^ ((bl a + 1) / 2) * 2 ^ ((bl a + 1) / 2) := by
    rw [← Nat.pow_add]
    exact Nat.pow_le_pow_right (by decide) (by omega)
  have h3 : 2 ^ ((bl a + 1) / 2) * 2 ^ ((bl a + 1) / 2) ≤ (2 ^ ((bl a + 1) / 2) + 1) * (2 ^ ((bl a + 1) / 2) + 1) := Nat.mul_le_mul (Nat.le_succ _) (Nat.le_succ _)
  omega

theorem rt_ex (a : Nat) : ∃ r, isRt a r := by
  have key : ∀ n r : Nat, r * r ≤ a → a < (r + n + 1) * (r + n + 1) → ∃ r, isRt a r := by
    intro n
    induction n with
    | zero => intro r h1 h2; exact ⟨r, h1, h2⟩
    | succ n ih =>
      intro r h1 h2
      by_cases h : a < (r + 1) * (r + 1)
      · exact ⟨r, h1, h⟩
      · exact ih (r + 1) (by omega) (by rw [show r + 1 + n + 1 = r + (n + 1) + 1 by omega]; exact h2)
  refine key a 0 (Nat.zero_le _) ?_
  have : a + 1 ≤ (0 + a + 1) * (0 + a + 1) := by rw [Nat.zero_add]; exact Nat.le_mul_of_pos_right _ (by omega)
  omega

/-- the root rounded down -/
noncomputable def rtN (a : Nat) : Nat := Classical.choose (rt_ex a)
theorem rtN_spec (a : Nat) : isRt a (rtN a) := Classical.choose_spec (rt_ex a)
theorem rtN_zero : rtN 0 = 0 := isRt_unique (rtN_spec 0) ⟨Nat.le_refl _, by decide⟩
theorem rtN_le (a : Nat) : rtN a ≤ a := by
  have h := (rtN_spec a).1
  rcases Nat.eq_zero_or_pos (rtN a) with h0 | h0
  · omega
  · exact Nat.le_trans (Nat.le_mul_of_pos_right _ h0) h

/-- the root of a number, rounded to a multiple of 2^low -/
noncomputable def rootD (d : Dyadic) (low m : Int) : Dyadic :=
  mk ((rrt ((cZ d).natAbs * 2 ^ (cE d - 2 * low).toNat) (-(cE d - 2 * low)).toNat (rtN ((cZ d).natAbs * 2 ^ (cE d - 2 * low).toNat / 2 ^ (-(cE d - 2 * low)).toNat)) m : Nat) : Int) low

/-- what is looked at of a root: its bits down to low - 2 -/
noncomputable def sqN (d : Dyadic) (low : Int) : Nat := (cZ d).natAbs * 2 ^ (cE d - 2 * (low - 2)).toNat / 2 ^ (-(cE d - 2 * (low - 2))).toNat

/-- and whether there are others -/
noncomputable def sqS (d : Dyadic) (low : Int) : Nat := open Classical in if cE d - 2 * (low - 2) < 0 ∨ rtN (sqN d low) * rtN (sqN d low) ≠ sqN d low then 1 else 0

/-- the root with bits down to low - 2, and one more that tells whether there are others -/
noncomputable def sqrtD (d : Dyadic) (low : Int) : Dyadic := open Classical in if d = 0 then 0 else mk ((2 * rtN (sqN d low) + sqS d low : Nat) : Int) (low - 3)

/-- bounds of a root rounded -/
theorem rrt_le (n s r : Nat) (m : Int) : rrt n s r m ≤ r + 1 := by
  unfold rrt
  split
  · omega
  · split <;> omega

end Go.Pe

set_option linter.unusedSimpArgs false
set_option linter.unusedVariables false
namespace Go.Dg
open Go Go.Pe

theorem bl_iff {x t : Nat} : bl x = t + 1 ↔ 2 ^ t ≤ x ∧ x < 2 ^ (t + 1) := by
  have h1 := bl_le (t + 1) x
  have h2 := bl_le t x
  omega

theorem bl_shl {x k : Nat} (hx : x ≠ 0) : bl (x * 2 ^ k) = bl x + k := by
  obtain ⟨t, ht⟩ : ∃ t, bl x = t + 1 := by
    refine ⟨bl x - 1, ?_⟩
    have := bl_le 0 x
    rw [Nat.pow_zero] at this
    omega
  obtain ⟨h1, h2⟩ := bl_iff.1 ht
  rw [ht, show t + 1 + k = (t + k) + 1 by omega, bl_iff, show t + k + 1 = (t + 1) + k by omega, Nat.pow_add, Nat.pow_add]
  exact ⟨Nat.mul_le_mul_right _ h1, Nat.mul_lt_mul_of_pos_right h2 (Nat.two_pow_pos k)⟩

/-- the power of two just above a number's size; 0 of 0 -/
noncomputable def topD (d : Dyadic) : Int := open Classical in if d = 0 then 0 else (bl (cZ d).natAbs : Nat) + cE d

theorem topD_zero : topD 0 = 0 := by unfold topD; rw [if_pos rfl]

theorem topD_ne {d : Dyadic} (h : d ≠ 0) : topD d = (bl (cZ d).natAbs : Nat) + cE d := by unfold topD; rw [if_neg h]

theorem mk_ne {z e : Int} (hz : z ≠ 0) : mk z e ≠ 0 := fun h => hz (by rw [← mk_zero e, mk_inj] at h; exact h)

theorem topD_mk {z e : Int} (hz : z ≠ 0) : topD (mk z e) = (bl z.natAbs : Nat) + e := by
  obtain ⟨t, n, ht⟩ := odd_ex z.natAbs (by omega)
  obtain ⟨h1, h2, _⟩ := make_law (e := e) ht
  rw [topD_ne (mk_ne hz), h1, h2, ht, Nat.mul_comm (2 ^ t) (2 * n + 1), bl_shl (by omega)]
  omega

/-- a quotient with a bit that tells of the rest, rounded coarser -/
theorem rq_stickyK (s : Bool) (x y K : Nat) (m : Int) (hy : 0 < y) (hK : 0 < K) :
    rq s (2 * (x / y) + (if x % y = 0 then 0 else 1)) (4 * K) m = rq s x (y * (2 * K)) m ∧ ((2 * (x / y) + (if x % y = 0 then 0 else 1)) % (4 * K) = 0 ↔ x % (y * (2 * K)) = 0) := by
  obtain ⟨Q, hQ⟩ : ∃ q, q = x / y := ⟨_, rfl⟩
  obtain ⟨r, hr⟩ : ∃ r, r = x % y := ⟨_, rfl⟩
  have hx : x = y * Q + r := by rw [hQ, hr]; exact (Nat.div_add_mod x y).symm
  have hry : r < y := by rw [hr]; exact Nat.mod_lt _ hy
  obtain ⟨g, hg⟩ : ∃ g, g = Q / (2 * K) := ⟨_, rfl⟩
  obtain ⟨c, hc⟩ : ∃ c, c = Q % (2 * K) := ⟨_, rfl⟩
  have hQc : Q = 2 * K * g + c := by rw [hg, hc]; exact (Nat.div_add_mod _ _).symm
  have hcK : c < 2 * K := by rw [hc]; exact Nat.mod_lt _ (by omega)
  rw [← hQ, ← hr]
  obtain ⟨z, hz⟩ : ∃ z, z = (if r = 0 then 0 else 1) := ⟨_, rfl⟩
  rw [← hz]
  have hz1 : z ≤ 1 := by rw [hz]; split <;> omega
  have hz0 : z = 0 ↔ r = 0 := by rw [hz]; split <;> omega
  have e1 : 2 * Q + z = (2 * c + z) + 4 * K * g := by rw [hQc]; grind
  have e2 : x = (y * c + r) + y * (2 * K) * g := by rw [hx, hQc]; grind
  have b1 : 2 * c + z < 4 * K := by omega
  have b2 : y * c + r < y * (2 * K) := by
    have := Nat.mul_le_mul_left y (show c + 1 ≤ 2 * K from hcK)
    rw [Nat.mul_add, Nat.mul_one] at this
    omega
  have yK : 0 < y * (2 * K) := Nat.mul_pos hy (by omega)
  have f1 : (2 * Q + z) / (4 * K) = g := by rw [e1, Nat.add_mul_div_left _ _ (by omega), Nat.div_eq_of_lt b1, Nat.zero_add]
  have f2 : (2 * Q + z) % (4 * K) = 2 * c + z := by rw [e1, Nat.add_mul_mod_self_left, Nat.mod_eq_of_lt b1]
  have f3 : x / (y * (2 * K)) = g := by rw [e2, Nat.add_mul_div_left _ _ yK, Nat.div_eq_of_lt b2, Nat.zero_add]
  have f4 : x % (y * (2 * K)) = y * c + r := by rw [e2, Nat.add_mul_mod_self_left, Nat.mod_eq_of_lt b2]
  have g0 : 2 * c + z = 0 ↔ y * c + r = 0 := by
    constructor
    · intro h
      have h1 : c = 0 := by omega
      have h2 : r = 0 := hz0.1 (by omega)
      rw [h1, h2]; rfl
    · intro h
      have h1 : r = 0 := by omega
      have h2 : y * c = 0 := by omega
      have h3 : c = 0 := by rcases Nat.mul_eq_zero.1 h2 with h | h <;> omega
      have := hz0.2 h1
      omega
  have g1 : cmpN ((2 * c + z) * 2) (4 * K) = cmpN ((y * c + r) * 2) (y * (2 * K)) := by
    have eK : y * (2 * K) = 2 * (y * K) := by grind
    rw [eK]
    rcases Nat.lt_trichotomy c K with h | h | h
    · have := Nat.mul_le_mul_left y (show c + 1 ≤ K from h)
      rw [Nat.mul_add, Nat.mul_one] at this
      rw [cmpN_lt (by omega), cmpN_lt (by omega)]
    · rcases Nat.eq_zero_or_pos r with h0 | h0
      · have := hz0.2 h0
        rw [h, cmpN_eq (by omega), cmpN_eq (by omega)]
      · have : z ≠ 0 := fun h => by have := hz0.1 h; omega
        rw [h, cmpN_gt (by omega), cmpN_gt (by omega)]
    · have := Nat.mul_le_mul_left y (show K + 1 ≤ c from h)
      rw [Nat.mul_add, Nat.mul_one] at this
      rw [cmpN_gt (by omega), cmpN_gt (by omega)]
  refine ⟨?_, by rw [f2, f4]; exact g0⟩
  unfold rq
  rw [f1, f2, f3, f4, g1]
  by_cases h : y * c + r = 0
  · rw [if_pos h, if_pos (g0.2 h)]
  · rw [if_neg h, if_neg (fun g => h (g0.1 g))]

theorem mod_cross {x y x' y' : Nat} (hy : 0 < y) (hy' : 0 < y') (h : x * y' = x' * y) : x % y = 0 ↔ x' % y' = 0 := by
  constructor
  · intro h0
    obtain ⟨c, hc⟩ := Nat.dvd_of_mod_eq_zero h0
    have h1 : y * (c * y') = y * x' := by rw [← Nat.mul_assoc, ← hc, h, Nat.mul_comm]
    have h2 := Nat.eq_of_mul_eq_mul_left hy h1
    rw [← h2]; exact Nat.mul_mod_left _ _
  · intro h0
    obtain ⟨c, hc⟩ := Nat.dvd_of_mod_eq_zero h0
    have h1 : y' * (c * y) = y' * x := by rw [← Nat.mul_assoc, ← hc, ← h, Nat.mul_comm]
    have h2 := Nat.eq_of_mul_eq_mul_left hy' h1
    rw [← h2]; exact Nat.mul_mod_left _ _

/-- the quotient with more bits, in words of whole numbers -/
theorem quotD_eq {a b : Dyadic} {low u : Int} (h1 : a ≠ 0) (hu : u = cE a - cE b - low + 2) : ∃ n d W : Nat, n = (cZ a).natAbs * 2 ^ u.toNat ∧ d = (cZ b).natAbs * 2 ^ (-u).toNat ∧ W = 2 * (n / d) + (if n % d = 0 then 0 else 1) ∧
    quotD a b low = mk (if (decide (cZ a < 0) != decide (cZ b < 0)) = true then -(W : Int) else (W : Int)) (low - 3) := by
  refine ⟨_, _, _, rfl, rfl, rfl, ?_⟩
  unfold quotD zquo
  rw [if_neg h1, ← hu]

theorem sgn_abs (b : Bool) (W : Nat) : (if b = true then -(W : Int) else (W : Int)).natAbs = W := by split <;> omega

theorem sgn_neg (c : Bool) (W : Nat) (h : 0 < W) : (if c = true then -(W : Int) else (W : Int)) < 0 ↔ c = true := by
  cases c
  · rw [if_neg (by decide)]
    exact ⟨fun h => by omega, fun h => absurd h (by decide)⟩
  · rw [if_pos rfl]
    exact ⟨fun _ => rfl, fun _ => by omega⟩

theorem sticky_pos {n d : Nat} (hn : 0 < n) : 0 < 2 * (n / d) + (if n % d = 0 then 0 else 1) := by
  by_cases h : n % d = 0
  · have h1 := Nat.div_add_mod n d
    have : n / d ≠ 0 := by intro h'; rw [h', h] at h1; omega
    omega
  · rw [if_neg h]; omega

theorem quotD_ne {a b : Dyadic} {low : Int} (h1 : a ≠ 0) : quotD a b low ≠ 0 := by
  obtain ⟨n, d, W, hn, hd, hW, hq⟩ := quotD_eq (a := a) (b := b) (low := low) h1 rfl
  have ha : (cZ a).natAbs ≠ 0 := by intro h; exact h1 (cZ_eq_zero.1 (Int.natAbs_eq_zero.1 h))
  have hn0 : 0 < n := by rw [hn]; exact Nat.mul_pos (by omega) (Nat.two_pow_pos _)
  have := sticky_pos (d := d) hn0
  rw [hq]
  refine mk_ne ?_
  split <;> omega

/-- is a number on a scale a multiple of a coarser step -/
theorem cE_dvd {z e : Int} {j : Nat} (hz : z ≠ 0) : e + j ≤ cE (mk z e) ↔ z.natAbs % 2 ^ j = 0 := by
  obtain ⟨t, n, ht⟩ := odd_ex z.natAbs (by omega)
  obtain ⟨_, h2, _⟩ := make_law (e := e) ht
  rw [pow2_dvd ht, h2]
  omega

theorem div_law2 {a b : Dyadic} {low L : Int} (m : Int) (hL : low ≤ L) (h1 : a ≠ 0) (h2 : b ≠ 0) : roundD (quotD a b low) L m = divD a b L m ∧
    (L ≤ cE (quotD a b low) ↔ (cZ a).natAbs * 2 ^ (cE a - cE b - L).toNat % ((cZ b).natAbs * 2 ^ (-(cE a - cE b - L)).toNat) = 0) := by
  obtain ⟨n, d, W, hn, hd, hW, hq⟩ := quotD_eq (a := a) (b := b) (low := low) h1 rfl
  obtain ⟨A, hA⟩ : ∃ x, x = (cZ a).natAbs := ⟨_, rfl⟩
  obtain ⟨B, hB⟩ : ∃ x, x = (cZ b).natAbs := ⟨_, rfl⟩
  have ha : A ≠ 0 := by rw [hA]; intro h; exact h1 (cZ_eq_zero.1 (Int.natAbs_eq_zero.1 h))
  have hb : B ≠ 0 := by rw [hB]; intro h; exact h2 (cZ_eq_zero.1 (Int.natAbs_eq_zero.1 h))
  rw [← hA] at hn
  rw [← hB] at hd
  rw [← hA, ← hB]
  have hn0 : 0 < n := by rw [hn]; exact Nat.mul_pos (by omega) (Nat.two_pow_pos _)
  have hd0 : 0 < d := by rw [hd]; exact Nat.mul_pos (by omega) (Nat.two_pow_pos _)
  have hW0 : 0 < W := by rw [hW]; exact sticky_pos hn0
  obtain ⟨k, hk⟩ : ∃ k, k = cE a - cE b - L := ⟨_, rfl⟩
  obtain ⟨j, hj⟩ : ∃ j : Nat, L = low + j := ⟨(L - low).toNat, by omega⟩
  rw [← hk]
  obtain ⟨x, hx⟩ : ∃ x, x = A * 2 ^ k.toNat := ⟨_, rfl⟩
  obtain ⟨y, hy⟩ : ∃ y, y = B * 2 ^ (-k).toNat := ⟨_, rfl⟩
  have hy0 : 0 < y := by rw [hy]; exact Nat.mul_pos (by omega) (Nat.two_pow_pos _)
  have hu : cE a - cE b - low + 2 = k + j + 2 := by omega
  rw [hu] at hn hd
  have hcross : n * y = x * (d * (2 * 2 ^ (j + 1))) := by
    rw [hn, hd, hx, hy]
    have hp : 2 ^ (k + j + 2).toNat * 2 ^ (-k).toNat = 2 ^ k.toNat * (2 ^ (-(k + j + 2)).toNat * 2 ^ (j + 2)) := by
      rw [← Nat.pow_add, ← Nat.pow_add, ← Nat.pow_add]; congr 1; omega
    have hp2 : 2 * 2 ^ (j + 1) = 2 ^ (j + 2) := by rw [show j + 2 = (j + 1) + 1 by omega, Nat.pow_succ 2 (j + 1), Nat.mul_comm]
    rw [hp2]
    calc A * 2 ^ (k + j + 2).toNat * (B * 2 ^ (-k).toNat) = A * B * (2 ^ (k + j + 2).toNat * 2 ^ (-k).toNat) := by grind
      _ = A * B * (2 ^ k.toNat * (2 ^ (-(k + j + 2)).toNat * 2 ^ (j + 2))) := by rw [hp]
      _ = A * 2 ^ k.toNat * (B * 2 ^ (-(k + j + 2)).toNat * 2 ^ (j + 2)) := by grind
  have h8 : 4 * 2 ^ (j + 1) = 2 ^ (j + 3) := by rw [show j + 3 = (j + 1) + 2 by omega, Nat.pow_add 2 (j + 1) 2, Nat.mul_comm]
  have hst : ∀ s, rq s W (2 ^ (j + 3)) m = rq s x y m ∧ (W % 2 ^ (j + 3) = 0 ↔ x % y = 0) := by
    intro s
    obtain ⟨e1, e2⟩ := rq_stickyK s n d (2 ^ (j + 1)) m hd0 (Nat.two_pow_pos _)
    rw [← hW, h8] at e1 e2
    have hpos : 0 < d * (2 * 2 ^ (j + 1)) := Nat.mul_pos hd0 (Nat.mul_pos (by decide) (Nat.two_pow_pos _))
    exact ⟨by rw [e1]; exact rq_cross hpos hy0 hcross, by rw [e2]; exact mod_cross hpos hy0 hcross⟩
  have hs0 : (if (decide (cZ a < 0) != decide (cZ b < 0)) = true then -(W : Int) else (W : Int)) ≠ 0 := by split <;> omega
  rw [hq]
  refine ⟨?_, ?_⟩
  · rw [roundD_mk hs0 (by omega), divD, ← hk]
    congr 1
    rw [zover_one, sgn_abs, show (low - 3 - L).toNat = 0 by omega, show (-(low - 3 - L)).toNat = j + 3 by omega, Nat.pow_zero, Nat.mul_one]
    unfold zover
    rw [← hA, ← hB, ← hx, ← hy, (hst true).1, (hst false).1]
    have hneg : (if (decide (cZ a < 0) != decide (cZ b < 0)) = true then -(W : Int) else (W : Int)) < 0 ↔ (decide (cZ a < 0) != decide (cZ b < 0)) = true := sgn_neg _ W hW0
    by_cases hc : (decide (cZ a < 0) != decide (cZ b < 0)) = true
    · rw [if_pos (hneg.2 hc), if_pos hc]
    · rw [if_neg (fun h => hc (hneg.1 h)), if_neg hc]
  · rw [show L = (low - 3) + ((j + 3 : Nat) : Int) by omega, cE_dvd hs0, sgn_abs, (hst true).2, hx, hy]

/-- the top of a quotient -/
theorem div_top {a b : Dyadic} {t0 low T : Int} (h1 : a ≠ 0) (h2 : b ≠ 0) (ht : t0 = topD a - topD b) (hlow : low = t0 - 56)
    (hT : T = if mk (((cZ b).natAbs : Nat) : Int) (cE b + t0) ≤ mk (((cZ a).natAbs : Nat) : Int) (cE a) then t0 + 1 else t0) : topD (quotD a b low) = T := by
  obtain ⟨u, hu⟩ : ∃ u, u = cE a - cE b - low + 2 := ⟨_, rfl⟩
  obtain ⟨n, d, W, hn, hd, hW, hq⟩ := quotD_eq (a := a) (b := b) (low := low) h1 hu
  obtain ⟨A, hA⟩ : ∃ x, x = (cZ a).natAbs := ⟨_, rfl⟩
  obtain ⟨B, hB⟩ : ∃ x, x = (cZ b).natAbs := ⟨_, rfl⟩
  have ha : A ≠ 0 := by rw [hA]; intro h; exact h1 (cZ_eq_zero.1 (Int.natAbs_eq_zero.1 h))
  have hb : B ≠ 0 := by rw [hB]; intro h; exact h2 (cZ_eq_zero.1 (Int.natAbs_eq_zero.1 h))
  rw [topD_ne h1, topD_ne h2, ← hA, ← hB] at ht
  rw [← hA] at hn
  rw [← hB] at hd
  rw [← hA, ← hB] at hT
  have hn0 : 0 < n := by rw [hn]; exact Nat.mul_pos (by omega) (Nat.two_pow_pos _)
  have hd0 : 0 < d := by rw [hd]; exact Nat.mul_pos (by omega) (Nat.two_pow_pos _)
  have hW0 : 0 < W := by rw [hW]; exact sticky_pos hn0
  -- sizes of the two
  obtain ⟨ta, hta⟩ : ∃ t, bl A = t + 1 := ⟨bl A - 1, by have := bl_le 0 A; rw [Nat.pow_zero] at this; omega⟩
  obtain ⟨tb, htb⟩ : ∃ t, bl B = t + 1 := ⟨bl B - 1, by have := bl_le 0 B; rw [Nat.pow_zero] at this; omega⟩
  obtain ⟨a1, a2⟩ := bl_iff.1 hta
  obtain ⟨b1, b2⟩ := bl_iff.1 htb
  rw [hta, htb] at ht
  have hu2 : u = (tb : Int) - ta + 58 := by omega
  have hp : ∀ j : Nat, (j : Int) ≤ 60 → 0 < 2 ^ j := fun j _ => Nat.two_pow_pos j
  have lo : d * 2 ^ 57 ≤ n := by
    rw [hn, hd]
    have e : 2 ^ (tb + 1) * 2 ^ (-u).toNat * 2 ^ 57 = 2 ^ ta * 2 ^ u.toNat := by
      rw [← Nat.pow_add, ← Nat.pow_add, ← Nat.pow_add]; congr 1; omega
    calc B * 2 ^ (-u).toNat * 2 ^ 57 ≤ 2 ^ (tb + 1) * 2 ^ (-u).toNat * 2 ^ 57 := Nat.mul_le_mul_right _ (Nat.mul_le_mul_right _ (Nat.le_of_lt b2))
      _ = 2 ^ ta * 2 ^ u.toNat := e
      _ ≤ A * 2 ^ u.toNat := Nat.mul_le_mul_right _ a1
  have hi : n < d * 2 ^ 59 := by
    rw [hn, hd]
    have e : 2 ^ (ta + 1) * 2 ^ u.toNat = 2 ^ tb * 2 ^ (-u).toNat * 2 ^ 59 := by
      rw [← Nat.pow_add, ← Nat.pow_add, ← Nat.pow_add]; congr 1; omega
    calc A * 2 ^ u.toNat < 2 ^ (ta + 1) * 2 ^ u.toNat := Nat.mul_lt_mul_of_pos_right a2 (Nat.two_pow_pos _)
      _ = 2 ^ tb * 2 ^ (-u).toNat * 2 ^ 59 := e
      _ ≤ B * 2 ^ (-u).toNat * 2 ^ 59 := Nat.mul_le_mul_right _ (Nat.mul_le_mul_right _ b1)
  have mid : mk (B : Int) (cE b + t0) ≤ mk (A : Int) (cE a) ↔ d * 2 ^ 58 ≤ n := by
    have e1 : mk (A : Int) (cE a) = mk (n : Int) (cE a - u.toNat) := by
      rw [hn, Int.natCast_mul, Int.natCast_pow]; exact (mk_shift _ _ _).symm
    have e2 : mk (B : Int) (cE b + t0) = mk ((d * 2 ^ 58 : Nat) : Int) (cE a - u.toNat) := by
      rw [hd, Nat.mul_assoc, ← Nat.pow_add, Int.natCast_mul, Int.natCast_pow]
      have := mk_shift (B : Int) (cE b + t0) ((-u).toNat + 58)
      rw [show cE b + t0 - (((-u).toNat + 58 : Nat) : Int) = cE a - u.toNat by omega] at this
      exact this.symm
    rw [e1, e2, ← Std.not_lt, mk_lt]
    omega
  have key : ∀ t : Nat, d * 2 ^ t ≤ n → n < d * 2 ^ (t + 1) → bl W = t + 2 := by
    intro t g1 g2
    have q1 : 2 ^ t ≤ n / d := (Nat.le_div_iff_mul_le hd0).2 (by rw [Nat.mul_comm]; exact g1)
    have q2 : n / d < 2 ^ (t + 1) := (Nat.div_lt_iff_lt_mul hd0).2 (by rw [Nat.mul_comm]; exact g2)
    rw [bl_iff, Nat.pow_succ 2 t, Nat.pow_succ 2 (t + 1), hW]
    rw [Nat.pow_succ] at q2
    split <;> omega
  have hs0 : (if (decide (cZ a < 0) != decide (cZ b < 0)) = true then -(W : Int) else (W : Int)) ≠ 0 := by split <;> omega
  rw [hq, topD_mk hs0, sgn_abs, hT]
  by_cases hc : d * 2 ^ 58 ≤ n
  · rw [if_pos (mid.2 hc), key 58 hc hi]; omega
  · rw [if_neg (fun h => hc (mid.1 h)), key 57 lo (Nat.lt_of_not_le hc)]; omega

/-- two roots: one with more bits, rounded -/
theorem rt_stickyK {n s r Q st J : Nat} {m : Int} (hJ : 0 < J) (h1 : Q * Q * 2 ^ s ≤ 2 * J * (2 * J) * n) (h2 : 2 * J * (2 * J) * n < (Q + 1) * (Q + 1) * 2 ^ s) (hst : st = if Q * Q * 2 ^ s = 2 * J * (2 * J) * n then 0 else 1)
    (g1 : r * r * 2 ^ s ≤ n) (g2 : n < (r + 1) * (r + 1) * 2 ^ s) : rq false (2 * Q + st) (4 * J) m = rrt n s r m ∧ ((2 * Q + st) % (4 * J) = 0 ↔ r * r * 2 ^ s = n) := by
  obtain ⟨w, hw⟩ : ∃ w, w = 2 ^ s := ⟨_, rfl⟩
  have hw0 : 0 < w := by rw [hw]; exact Nat.two_pow_pos _
  rw [← hw] at h1 h2 hst g1 g2 ⊢
  unfold rrt
  rw [← hw]
  have mono : ∀ {x y : Nat}, x ≤ y → x * x * w ≤ y * y * w := fun h => Nat.mul_le_mul_right w (Nat.mul_le_mul h h)
  have smono : ∀ {x y : Nat}, x < y → x * x * w < y * y * w := fun h => Nat.mul_lt_mul_of_pos_right (Nat.mul_lt_mul'' h h) hw0
  have lt_of : ∀ {x y : Nat}, x * x * w < y * y * w → x < y := by
    intro x y h
    apply Nat.lt_of_not_le
    intro h'
    have := mono h'
    omega
  have eK : ∀ x : Nat, (2 * J * x) * (2 * J * x) * w = 2 * J * (2 * J) * (x * x * w) := fun x => by grind
  have hJJ : 0 < 2 * J * (2 * J) := Nat.mul_pos (by omega) (by omega)
  have hr1 : 2 * J * r ≤ Q := by
    have : (2 * J * r) * (2 * J * r) * w < (Q + 1) * (Q + 1) * w := by
      rw [eK]; exact Nat.lt_of_le_of_lt (Nat.mul_le_mul_left _ g1) h2
    have := lt_of this
    omega
  have hr2 : Q < 2 * J * (r + 1) := by
    have : Q * Q * w < (2 * J * (r + 1)) * (2 * J * (r + 1)) * w := by
      rw [eK]; exact Nat.lt_of_le_of_lt h1 (Nat.mul_lt_mul_of_pos_left g2 hJJ)
    exact lt_of this
  obtain ⟨c, hc⟩ : ∃ c, Q = 2 * J * r + c := ⟨Q - 2 * J * r, by omega⟩
  have hcK : c < 2 * J := by rw [Nat.mul_add, Nat.mul_one] at hr2; omega
  have hs2 : st ≤ 1 := by rw [hst]; split <;> omega
  have e0 : 2 * Q + st = (2 * c + st) + 4 * J * r := by rw [hc]; grind
  have hx1 : (2 * Q + st) / (4 * J) = r := by rw [e0, Nat.add_mul_div_left _ _ (by omega), Nat.div_eq_of_lt (by omega), Nat.zero_add]
  have hx2 : (2 * Q + st) % (4 * J) = 2 * c + st := by rw [e0, Nat.add_mul_mod_self_left, Nat.mod_eq_of_lt (by omega)]
  have e4 : (2 * J * r + J) * (2 * J * r + J) * w = J * J * ((2 * r + 1) * (2 * r + 1) * w) := by grind
  have e5 : 2 * J * (2 * J) * n = J * J * (n * 4) := by grind
  have hJ2 : 0 < J * J := Nat.mul_pos hJ hJ
  have hiff : 2 * c + st = 0 ↔ r * r * w = n := by
    constructor
    · intro h0
      have hc0 : c = 0 := by omega
      have hst0 : st = 0 := by omega
      have : Q * Q * w = 2 * J * (2 * J) * n := by
        apply Classical.byContradiction
        intro hn
        rw [if_neg hn] at hst
        omega
      rw [hc, hc0, Nat.add_zero, eK] at this
      exact Nat.eq_of_mul_eq_mul_left hJJ this
    · intro hex
      have hQ : Q = 2 * J * r := by
        have : Q * Q * w < (2 * J * r + 1) * (2 * J * r + 1) * w := by
          have h3 := eK r
          rw [hex] at h3
          have h4 := smono (show 2 * J * r < 2 * J * r + 1 by omega)
          omega
        have := lt_of this
        omega
      have hst0 : st = 0 := by rw [hst, if_pos]; rw [hQ, eK, hex]
      omega
  refine ⟨?_, by rw [hx2]; exact hiff⟩
  by_cases hex : r * r * w = n
  · rw [if_pos hex, rq_exact (by rw [hx2]; exact hiff.2 hex), hx1]
  · rw [if_neg hex]
    have hne : (2 * Q + st) % (4 * J) ≠ 0 := by rw [hx2]; exact fun h => hex (hiff.1 h)
    have hcmp : cmpN ((2 * Q + st) % (4 * J) * 2) (4 * J) = cmpN (n * 4) ((2 * r + 1) * (2 * r + 1) * w) := by
      rw [hx2]
      rcases Nat.lt_trichotomy c J with h | h | h
      · have h3 := mono (show Q + 1 ≤ 2 * J * r + J by omega)
        rw [e4] at h3
        rw [e5] at h2
        have := Nat.lt_of_mul_lt_mul_left (Nat.lt_of_lt_of_le h2 h3)
        rw [cmpN_lt (by omega), cmpN_lt this]
      · have hQ : Q = 2 * J * r + J := by omega
        by_cases hq : Q * Q * w = 2 * J * (2 * J) * n
        · rw [if_pos hq] at hst
          rw [hQ, e4, e5] at hq
          have := Nat.eq_of_mul_eq_mul_left hJ2 hq
          rw [cmpN_eq (by omega), cmpN_eq this.symm]
        · rw [if_neg hq] at hst
          have h3 : J * J * ((2 * r + 1) * (2 * r + 1) * w) < J * J * (n * 4) := by rw [← e4, ← e5, ← hQ]; omega
          have := Nat.lt_of_mul_lt_mul_left h3
          rw [cmpN_gt (by omega), cmpN_gt this]
      · have h3 : (2 * J * r + J) * (2 * J * r + J) * w < Q * Q * w := smono (by omega)
        rw [e4] at h3
        rw [e5] at h1
        have := Nat.lt_of_mul_lt_mul_left (Nat.lt_of_lt_of_le h3 h1)
        rw [cmpN_gt (by omega), cmpN_gt this]
    cases hup : rup false (decide (r % 2 = 1)) (cmpN (n * 4) ((2 * r + 1) * (2 * r + 1) * w)) m with
    | true => rw [if_pos rfl, rq_up hne (by rw [hx1, hcmp]; exact hup), hx1]
    | false => rw [if_neg (by decide), rq_down hne (by rw [hx1, hcmp]; exact hup), hx1]

/-- a root with so many bits that nothing is shifted out -/
theorem sqrt_law2 {d : Dyadic} {low L : Int} (m : Int) (hL : low ≤ L) (h0 : d ≠ 0) (hd : 0 ≤ cZ d) (hk : 0 ≤ cE d - 2 * (low - 2)) :
    roundD (sqrtD d low) L m = rootD d L m ∧ sqrtD d low ≠ 0 ∧ (L ≤ cE (sqrtD d low) ↔
      rtN ((cZ d).natAbs * 2 ^ (cE d - 2 * L).toNat / 2 ^ (-(cE d - 2 * L)).toNat) * rtN ((cZ d).natAbs * 2 ^ (cE d - 2 * L).toNat / 2 ^ (-(cE d - 2 * L)).toNat) * 2 ^ (-(cE d - 2 * L)).toNat = (cZ d).natAbs * 2 ^ (cE d - 2 * L).toNat) := by
  obtain ⟨a, ha⟩ : ∃ a, a = (cZ d).natAbs := ⟨_, rfl⟩
  have ha0 : 0 < a := by have := cZ_odd h0; omega
  obtain ⟨j, hj⟩ : ∃ j : Nat, L = low + j := ⟨(L - low).toNat, by omega⟩
  obtain ⟨E, hE⟩ : ∃ E, E = cE d - 2 * L := ⟨_, rfl⟩
  obtain ⟨k, hk'⟩ : ∃ k, k = cE d - 2 * (low - 2) := ⟨_, rfl⟩
  rw [← hk'] at hk
  obtain ⟨N, hN⟩ : ∃ N, N = a * 2 ^ k.toNat := ⟨_, rfl⟩
  have hsq : sqN d low = N := by rw [sqN, ← hk', ← ha, show (-k).toNat = 0 by omega, Nat.pow_zero, Nat.div_one, hN]
  obtain ⟨Q, hQ⟩ : ∃ Q, Q = rtN N := ⟨_, rfl⟩
  have hQs := rtN_spec N
  rw [← hQ] at hQs
  obtain ⟨q1, q2⟩ := hQs
  obtain ⟨st, hst⟩ : ∃ st, st = sqS d low := ⟨_, rfl⟩
  have hst2 : st = if Q * Q = N then 0 else 1 := by
    rw [hst, sqS, ← hk', hsq, ← hQ]
    by_cases h : Q * Q = N
    · rw [if_pos h, if_neg (by rintro (g | g); omega; exact g h)]
    · rw [if_neg h, if_pos (.inr h)]
  obtain ⟨n, hn⟩ : ∃ n, n = a * 2 ^ E.toNat := ⟨_, rfl⟩
  obtain ⟨s, hs⟩ : ∃ s, s = (-E).toNat := ⟨_, rfl⟩
  obtain ⟨r, hr⟩ : ∃ r, r = rtN (n / 2 ^ s) := ⟨_, rfl⟩
  have hrs := rtN_spec (n / 2 ^ s)
  rw [← hr] at hrs
  have hw0 : 0 < 2 ^ s := Nat.two_pow_pos _
  have g1 : r * r * 2 ^ s ≤ n := (Nat.le_div_iff_mul_le hw0).1 hrs.1
  have g2 : n < (r + 1) * (r + 1) * 2 ^ s := (Nat.div_lt_iff_lt_mul hw0).1 hrs.2
  have hK : 2 * 2 ^ (j + 1) = 2 ^ (j + 2) := by rw [show j + 2 = (j + 1) + 1 by omega, Nat.pow_succ 2 (j + 1), Nat.mul_comm]
  have e2 : N * 2 ^ s = 2 * 2 ^ (j + 1) * (2 * 2 ^ (j + 1)) * n := by
    rw [hK, hN, hn, Nat.mul_assoc, ← Nat.pow_add, ← Nat.pow_add, show k.toNat + s = E.toNat + (j + 2 + (j + 2)) by omega, Nat.pow_add]
    grind
  have hN1 : 0 < N := by rw [hN]; exact Nat.mul_pos ha0 (Nat.two_pow_pos _)
  have hQ1 : 0 < Q := by
    rcases Nat.eq_zero_or_pos Q with h | h
    · rw [h] at q2; omega
    · exact h
  obtain ⟨k1, k2⟩ := rt_stickyK (n := n) (s := s) (r := r) (Q := Q) (st := st) (J := 2 ^ (j + 1)) (m := m) (Nat.two_pow_pos _) (by rw [← e2]; exact Nat.mul_le_mul_right _ q1) (by rw [← e2]; exact Nat.mul_lt_mul_of_pos_right q2 hw0)
    (by
      rw [hst2, ← e2]
      by_cases hc : Q * Q = N
      · rw [if_pos hc, if_pos (by rw [hc])]
      · rw [if_neg hc, if_neg (fun h => hc (Nat.eq_of_mul_eq_mul_right hw0 h))]) g1 g2
  have h8 : 4 * 2 ^ (j + 1) = 2 ^ (j + 3) := by rw [show j + 3 = (j + 1) + 2 by omega, Nat.pow_add 2 (j + 1) 2, Nat.mul_comm]
  rw [h8] at k1 k2
  have hsd : sqrtD d low = mk ((2 * Q + st : Nat) : Int) (low - 3) := by unfold sqrtD; rw [if_neg h0, hsq, ← hQ, ← hst]
  have hz : ((2 * Q + st : Nat) : Int) ≠ 0 := by omega
  rw [hsd, ← ha, ← hE, ← hn, ← hs, ← hr]
  refine ⟨?_, mk_ne hz, ?_⟩
  · rw [roundD_mk hz (by omega), rootD, ← ha, ← hE, ← hn, ← hs, ← hr]
    congr 1
    rw [zover_one, if_neg (by omega), show (low - 3 - L).toNat = 0 by omega, show (-(low - 3 - L)).toNat = j + 3 by omega, Nat.pow_zero, Nat.mul_one, Int.natAbs_natCast, k1]
  · rw [show L = (low - 3) + ((j + 3 : Nat) : Int) by omega, cE_dvd hz, Int.natAbs_natCast, k2]

/-- the top of a root -/
theorem sqrt_top {d : Dyadic} {low T : Int} (h0 : d ≠ 0) (hd : 0 ≤ cZ d) (hk : 0 ≤ cE d - 2 * (low - 2)) (hT : T = (topD d + 1) / 2) (hl : low ≤ T - 2) : topD (sqrtD d low) = T := by
  obtain ⟨a, ha⟩ : ∃ a, a = (cZ d).natAbs := ⟨_, rfl⟩
  have ha0 : 0 < a := by have := cZ_odd h0; omega
  rw [topD_ne h0, ← ha] at hT
  obtain ⟨k, hk'⟩ : ∃ k, k = cE d - 2 * (low - 2) := ⟨_, rfl⟩
  rw [← hk'] at hk
  obtain ⟨N, hN⟩ : ∃ N, N = a * 2 ^ k.toNat := ⟨_, rfl⟩
  have hsq : sqN d low = N := by rw [sqN, ← hk', ← ha, show (-k).toNat = 0 by omega, Nat.pow_zero, Nat.div_one, hN]
  obtain ⟨Q, hQ⟩ : ∃ Q, Q = rtN N := ⟨_, rfl⟩
  have hQs := rtN_spec N
  rw [← hQ] at hQs
  obtain ⟨q1, q2⟩ := hQs
  obtain ⟨st, hst⟩ : ∃ st, st = sqS d low := ⟨_, rfl⟩
  have hst1 : st ≤ 1 := by rw [hst]; unfold sqS; split <;> omega
  have hN1 : 0 < N := by rw [hN]; exact Nat.mul_pos ha0 (Nat.two_pow_pos _)
  obtain ⟨t, ht⟩ : ∃ t, bl a = t + 1 := ⟨bl a - 1, by have := bl_le 0 a; rw [Nat.pow_zero] at this; omega⟩
  have hbN : bl N = t + k.toNat + 1 := by rw [hN, bl_shl (by omega), ht]; omega
  obtain ⟨n1, n2⟩ := bl_iff.1 hbN
  rw [ht] at hT
  obtain ⟨q, hq⟩ : ∃ q : Nat, T - low + 1 = q := ⟨(T - low + 1).toNat, by omega⟩
  have lt_of : ∀ {x y : Nat}, x * x < y * y → x < y := by
    intro x y h
    apply Nat.lt_of_not_le
    intro h'
    have := Nat.mul_le_mul h' h'
    omega
  have b1 : 2 ^ q ≤ Q := by
    have h1 : 2 ^ q * 2 ^ q ≤ N := by
      rw [← Nat.pow_add]
      exact Nat.le_trans (Nat.pow_le_pow_right (by decide) (by omega)) n1
    have := lt_of (Nat.lt_of_le_of_lt h1 q2)
    omega
  have b2 : Q < 2 ^ (q + 1) := by
    refine lt_of (Nat.lt_of_le_of_lt q1 (Nat.lt_of_lt_of_le n2 ?_))
    rw [← Nat.pow_add]
    exact Nat.pow_le_pow_right (by decide) (by omega)
  have hsd : sqrtD d low = mk ((2 * Q + st : Nat) : Int) (low - 3) := by unfold sqrtD; rw [if_neg h0, hsq, ← hQ, ← hst]
  have hz : ((2 * Q + st : Nat) : Int) ≠ 0 := by have := Nat.two_pow_pos q; omega
  have hbl : bl (2 * Q + st) = q + 2 := by
    rw [bl_iff, Nat.pow_succ 2 q, Nat.pow_succ 2 (q + 1)]
    rw [Nat.pow_succ] at b2 ⊢
    omega
  rw [hsd, topD_mk hz, Int.natAbs_natCast, hbl]
  omega

/-- how great a rounded number is -/
theorem rq_small {s : Bool} {x y T : Nat} {m : Int} (hy : 0 < y) (h : x < y * 2 ^ T) : rq s x y m ≤ 2 ^ T := by
  have := rq_le s x y m
  have h1 : x / y < 2 ^ T := (Nat.div_lt_iff_lt_mul hy).2 (by rw [Nat.mul_comm]; exact h)
  omega

/-- an odd part of what is at most a power of two has no more bits -/
theorem odd_small {z e : Int} {n : Nat} (h : z.natAbs ≤ 2 ^ n) (hn : 0 < n) : bl (cZ (mk z e)).natAbs ≤ n ∧ (z ≠ 0 → e ≤ cE (mk z e)) := by
  by_cases hz : z = 0
  · rw [hz, mk_zero, cZ_zero]
    exact ⟨(bl_le _ _).2 (Nat.two_pow_pos _), fun h => absurd rfl h⟩
  · obtain ⟨t, k, ht⟩ := odd_ex z.natAbs (by omega)
    obtain ⟨h1, h2, _⟩ := make_law (e := e) ht
    refine ⟨?_, fun _ => by omega⟩
    rw [h1, bl_le]
    rcases Nat.eq_zero_or_pos t with h0 | h0
    · subst h0
      rw [Nat.pow_zero, Nat.one_mul] at ht
      obtain ⟨i, rfl⟩ : ∃ i, n = i + 1 := ⟨n - 1, by omega⟩
      rw [Nat.pow_succ] at h ⊢
      omega
    · obtain ⟨i, rfl⟩ : ∃ i, t = i + 1 := ⟨t - 1, by omega⟩
      have h3 : 2 * (2 * k + 1) ≤ z.natAbs := by
        rw [ht, Nat.pow_succ]
        have := Nat.two_pow_pos i
        exact Nat.mul_le_mul_right _ (by omega)
      omega

end Go.Dg

set_option linter.unusedSimpArgs false
set_option linter.unusedVariables false
namespace Go.Pe
open Go Go.Dg

abbrev CellF := Int × Bool × Int × Int
def noF : CellF := (0, false, 0, 0)
def cellF (y : CellF) : PV := .agg [.val (.int .i64 y.1), .val (.bool y.2.1), .val (.int .i64 y.2.2.1), .val (.int .i64 y.2.2.2)]
def cellsF (ys : List CellF) : List PV := ys.map cellF
theorem cellsF_len (ys : List CellF) : (cellsF ys).length = ys.length := by simp [cellsF]
theorem cellsF_get {ys : List CellF} {k : Nat} (h : k < ys.length) : (cellsF ys).getD k (.val (.bool false)) = cellF (ys.getD k noF) := by
  simp [cellsF, List.getD, h]

/-- a float in form -/
def flOk (k : Int) (s : Bool) (m e : Int) : Prop :=
  (k = 1 ∧ -1074 ≤ e ∧ e ≤ 971 ∧ 1 ≤ m ∧ m ≤ 9007199254740991 ∧ (4503599627370496 ≤ m ∨ e = -1074)) ∨ ((k = 0 ∨ k = 2) ∧ m = 0 ∧ e = 0) ∨ (k = 3 ∧ m = 0 ∧ e = 0 ∧ s = false)

def okF (y : CellF) : Prop := flOk y.1 y.2.1 y.2.2.1 y.2.2.2
def allF (ys : List CellF) : Prop := ∀ y ∈ ys, okF y

def foksI (ys : List CellF) (i : Int) : Prop := 0 ≤ i ∧ i ≤ ys.length ∧ allF (ys.take i.toNat)

theorem foksI_zero (ys : List CellF) : foksI ys 0 := ⟨Int.le_refl _, by omega, by intro y hy; simp at hy⟩

theorem foksI_next {ys : List CellF} {i : Int} (h : foksI ys i) (hi : i < ys.length) (h0 : okF (ys.getD i.toNat noF)) : foksI ys (i + 1) := by
  obtain ⟨a, b, c⟩ := h
  refine ⟨by omega, by omega, ?_⟩
  rw [show (i + 1).toNat = i.toNat + 1 by omega, List.take_add_one]
  rw [List.getD, List.getElem?_eq_getElem (by omega)] at h0
  rw [List.getElem?_eq_getElem (by omega)]
  intro y hy
  rcases List.mem_append.1 hy with hy | hy
  · exact c y hy
  · simp at hy; rw [hy]; exact h0

theorem foksI_exit {ys : List CellF} {i : Int} (h : foksI ys i) (hi : ys.length ≤ i) : allF ys := by
  obtain ⟨a, b, c⟩ := h
  rwa [List.take_of_length_le (by omega)] at c

theorem allF_not {ys : List CellF} {k : Nat} (hk : k < ys.length) (h : ¬okF (ys.getD k noF)) : ¬allF ys := by
  intro ha
  apply h
  rw [List.getD, List.getElem?_eq_getElem hk]
  exact ha _ (List.getElem_mem hk)

/-- the flags of a number that is told -/
def fl0 (same : Bool) (T : Int) : Int := if same = true then 0 else if T ≤ -1022 then 5 else 1

/-- the least power of two in a float of a number -/
noncomputable def fe (x : Dyadic) : Int := max (topD x - 53) (-1074)

/-- is what is too great told as the greatest number -/
def overB (neg : Bool) (mode : Int) : Bool := decide (mode = 1) || (decide (mode = 2) && neg) || (decide (mode = 3) && !neg)

/-- the float of a rounded number x, and its flags -/
def flR (neg same : Bool) (T mode : Int) (x : Dyadic) (k : Int) (s : Bool) (m e fl : Int) : Prop :=
  s = neg ∧ (x = 0 → k = 0 ∧ m = 0 ∧ e = 0 ∧ fl = fl0 same T) ∧
  (x ≠ 0 → 1024 < topD x → fl = 3 ∧ (overB neg mode = true → k = 1 ∧ m = 9007199254740991 ∧ e = 971) ∧ (overB neg mode = false → k = 2 ∧ m = 0 ∧ e = 0)) ∧
  (x ≠ 0 → topD x ≤ 1024 → k = 1 ∧ e = fe x ∧ m = (((cZ x).natAbs * 2 ^ (cE x - fe x).toNat : Nat) : Int) ∧ fl = fl0 same T)

theorem flR_ex (neg same : Bool) (T mode : Int) (x : Dyadic) : ∃ (k : Int) (s : Bool) (m e fl : Int), flR neg same T mode x k s m e fl := by
  by_cases h0 : x = 0
  · exact ⟨0, neg, 0, 0, fl0 same T, rfl, fun _ => ⟨rfl, rfl, rfl, rfl⟩, fun h => absurd h0 h, fun h => absurd h0 h⟩
  · by_cases h1 : 1024 < topD x
    · by_cases h2 : overB neg mode = true
      · exact ⟨1, neg, 9007199254740991, 971, 3, rfl, fun h => absurd h h0, fun _ _ => ⟨rfl, fun _ => ⟨rfl, rfl, rfl⟩, fun h => absurd h (by rw [h2]; decide)⟩, fun _ h => absurd h1 (by omega)⟩
      · exact ⟨2, neg, 0, 0, 3, rfl, fun h => absurd h h0, fun _ _ => ⟨rfl, fun h => absurd h h2, fun _ => ⟨rfl, rfl, rfl⟩⟩, fun _ h => absurd h1 (by omega)⟩
    · exact ⟨1, neg, _, fe x, fl0 same T, rfl, fun h => absurd h h0, fun _ h => absurd h h1, fun _ _ => ⟨rfl, rfl, rfl, rfl⟩⟩

/-- the bits of a float -/
theorem fe_bits {x : Dyadic} (h0 : x ≠ 0) (hb : bl (cZ x).natAbs ≤ 53) (hE : -1074 ≤ cE x) : 0 ≤ cE x - fe x ∧ (cZ x).natAbs * 2 ^ (cE x - fe x).toNat < 2 ^ 53 ∧ cE x - fe x ≤ 53 := by
  have ht := topD_ne h0
  have hpos : 0 < bl (cZ x).natAbs := by
    have h1 := cZ_odd h0
    have := (bl_le 0 (cZ x).natAbs)
    rw [Nat.pow_zero] at this
    omega
  have h1 : fe x = topD x - 53 ∨ fe x = -1074 := by unfold fe; omega
  have h2 : topD x - 53 ≤ fe x ∧ -1074 ≤ fe x := by unfold fe; omega
  refine ⟨by omega, ?_, by omega⟩
  have h3 : bl ((cZ x).natAbs * 2 ^ (cE x - fe x).toNat) ≤ 53 := by
    rw [bl_shl (by have := cZ_odd h0; omega)]
    omega
  exact (bl_le _ _).1 h3

/-- a quotient does not hang on the forms of its numbers -/
theorem zover_form {z1 e1 z2 e2 L m : Int} (h1 : z1 ≠ 0) (h2 : z2 ≠ 0) : zover z1 z2 (e1 - e2 - L) m = zover (cZ (mk z1 e1)) (cZ (mk z2 e2)) (cE (mk z1 e1) - cE (mk z2 e2) - L) m ∧
    (z1.natAbs * 2 ^ (e1 - e2 - L).toNat % (z2.natAbs * 2 ^ (-(e1 - e2 - L)).toNat) = 0 ↔ (cZ (mk z1 e1)).natAbs * 2 ^ (cE (mk z1 e1) - cE (mk z2 e2) - L).toNat % ((cZ (mk z2 e2)).natAbs * 2 ^ (-(cE (mk z1 e1) - cE (mk z2 e2) - L)).toNat) = 0) := by
  obtain ⟨t1, n1, ht1⟩ := odd_ex z1.natAbs (by omega)
  obtain ⟨t2, n2, ht2⟩ := odd_ex z2.natAbs (by omega)
  obtain ⟨a1, a2, a3⟩ := make_law (e := e1) ht1
  obtain ⟨b1, b2, b3⟩ := make_law (e := e2) ht2
  rw [a2, b2]
  unfold zover
  rw [a3, b3, a1, b1, ht1, ht2]
  obtain ⟨k, hk⟩ : ∃ k, k = e1 - e2 - L := ⟨_, rfl⟩
  obtain ⟨k', hk'⟩ : ∃ k', k' = e1 + t1 - (e2 + t2) - L := ⟨_, rfl⟩
  rw [← hk, ← hk']
  have hp : 2 ^ t1 * 2 ^ k.toNat * 2 ^ (-k').toNat = 2 ^ k'.toNat * (2 ^ t2 * 2 ^ (-k).toNat) := by
    rw [← Nat.pow_add, ← Nat.pow_add, ← Nat.pow_add, ← Nat.pow_add]; congr 1; omega
  have hc : 2 ^ t1 * (2 * n1 + 1) * 2 ^ k.toNat * ((2 * n2 + 1) * 2 ^ (-k').toNat) = (2 * n1 + 1) * 2 ^ k'.toNat * (2 ^ t2 * (2 * n2 + 1) * 2 ^ (-k).toNat) := by
    calc 2 ^ t1 * (2 * n1 + 1) * 2 ^ k.toNat * ((2 * n2 + 1) * 2 ^ (-k').toNat) = (2 * n1 + 1) * (2 * n2 + 1) * (2 ^ t1 * 2 ^ k.toNat * 2 ^ (-k').toNat) := by grind
      _ = (2 * n1 + 1) * (2 * n2 + 1) * (2 ^ k'.toNat * (2 ^ t2 * 2 ^ (-k).toNat)) := by rw [hp]
      _ = (2 * n1 + 1) * 2 ^ k'.toNat * (2 ^ t2 * (2 * n2 + 1) * 2 ^ (-k).toNat) := by grind
  have p1 : 0 < 2 ^ t2 * (2 * n2 + 1) * 2 ^ (-k).toNat := Nat.mul_pos (Nat.mul_pos (Nat.two_pow_pos _) (by omega)) (Nat.two_pow_pos _)
  have p2 : 0 < (2 * n2 + 1) * 2 ^ (-k').toNat := Nat.mul_pos (by omega) (Nat.two_pow_pos _)
  have hr : ∀ s, rq s (2 ^ t1 * (2 * n1 + 1) * 2 ^ k.toNat) (2 ^ t2 * (2 * n2 + 1) * 2 ^ (-k).toNat) m = rq s ((2 * n1 + 1) * 2 ^ k'.toNat) ((2 * n2 + 1) * 2 ^ (-k').toNat) m := fun s => rq_cross p1 p2 hc
  exact ⟨by rw [hr, hr], mod_cross p1 p2 hc⟩

/-- a root does not hang on the form of its number -/
theorem rt_form {n s n' s' : Nat} {m : Int} (h : n * 2 ^ s' = n' * 2 ^ s) : rtN (n / 2 ^ s) = rtN (n' / 2 ^ s') ∧ (∀ r, rrt n s r m = rrt n' s' r m) ∧ ∀ r, r * r * 2 ^ s = n ↔ r * r * 2 ^ s' = n' := by
  have p1 := Nat.two_pow_pos s
  have p2 := Nat.two_pow_pos s'
  have hd : n / 2 ^ s = n' / 2 ^ s' := by
    have e1 : n / 2 ^ s = n * 2 ^ s' / (2 ^ s * 2 ^ s') := (Nat.mul_div_mul_right n (2 ^ s) p2).symm
    have e2 : n' / 2 ^ s' = n' * 2 ^ s / (2 ^ s' * 2 ^ s) := (Nat.mul_div_mul_right n' (2 ^ s') p1).symm
    rw [e1, e2, h, Nat.mul_comm (2 ^ s) (2 ^ s')]
  have hx : ∀ r, r * r * 2 ^ s = n ↔ r * r * 2 ^ s' = n' := by
    intro r
    constructor
    · intro g
      have : 2 ^ s * (r * r * 2 ^ s') = 2 ^ s * n' := by
        calc 2 ^ s * (r * r * 2 ^ s') = r * r * 2 ^ s * 2 ^ s' := by grind
          _ = n' * 2 ^ s := by rw [g, h]
          _ = 2 ^ s * n' := Nat.mul_comm _ _
      exact Nat.eq_of_mul_eq_mul_left p1 this
    · intro g
      have : 2 ^ s' * (r * r * 2 ^ s) = 2 ^ s' * n := by
        calc 2 ^ s' * (r * r * 2 ^ s) = r * r * 2 ^ s' * 2 ^ s := by grind
          _ = n * 2 ^ s' := by rw [g, h]
          _ = 2 ^ s' * n := Nat.mul_comm _ _
      exact Nat.eq_of_mul_eq_mul_left p2 this
  refine ⟨by rw [hd], fun r => ?_, hx⟩
  have hc : cmpN (n * 4) ((2 * r + 1) * (2 * r + 1) * 2 ^ s) = cmpN (n' * 4) ((2 * r + 1) * (2 * r + 1) * 2 ^ s') := by
    rw [← cmpN_mul (2 ^ s') (n * 4) _ p2, ← cmpN_mul (2 ^ s) (n' * 4) _ p1]
    have e1 : n * 4 * 2 ^ s' = n' * 4 * 2 ^ s := by
      calc n * 4 * 2 ^ s' = 4 * (n * 2 ^ s') := by grind
        _ = n' * 4 * 2 ^ s := by rw [h]; grind
    have e2 : (2 * r + 1) * (2 * r + 1) * 2 ^ s * 2 ^ s' = (2 * r + 1) * (2 * r + 1) * 2 ^ s' * 2 ^ s := Nat.mul_right_comm _ _ _
    rw [e1, e2]
  unfold rrt
  rw [hc]
  by_cases g : r * r * 2 ^ s = n
  · rw [if_pos g, if_pos ((hx r).1 g)]
  · rw [if_neg g, if_neg (fun k => g ((hx r).2 k))]

end Go.Pe

set_option linter.unusedSimpArgs false
set_option linter.unusedVariables false
namespace Go.Pe
open Go Go.Dg

/-- what is rounded to the step of a float has no more bits than one -/
theorem round_bits {d : Dyadic} {L m : Int} (h0 : d ≠ 0) (hL : L = max (topD d - 53) (-1074)) :
    bl (cZ (roundD d L m)).natAbs ≤ 53 ∧ (roundD d L m ≠ 0 → -1074 ≤ cE (roundD d L m) ∧ (cE (roundD d L m) ≤ cE d ∨ cE (roundD d L m) ≤ L + 53) ∧ decide (cZ (roundD d L m) < 0) = decide (cZ d < 0)) := by
  have ht := topD_ne h0
  have hz : cZ d ≠ 0 := fun h => h0 (cZ_eq_zero.1 h)
  by_cases h : d = 0 ∨ L ≤ cE d
  · rw [roundD_same h]
    rcases h with h | h
    · exact absurd h h0
    · exact ⟨by omega, fun _ => ⟨by omega, .inl (Int.le_refl _), rfl⟩⟩
  · rw [roundD_else h]
    obtain ⟨w, hw⟩ : ∃ w, w = zover (cZ d) 1 (cE d - L) m := ⟨_, rfl⟩
    have hlt : cE d < L := by
      rcases Int.lt_or_le (cE d) L with g | g
      · exact g
      · exact absurd (.inr g) h
    have ha : w.natAbs = rq (decide (cZ d < 0)) ((cZ d).natAbs * 2 ^ (cE d - L).toNat) (2 ^ (-(cE d - L)).toNat) m := by
      rw [hw, zover_abs (s := decide (cZ d < 0)) (by rw [show decide ((1 : Int) < 0) = false from rfl, Bool.bne_false]), show Int.natAbs 1 = 1 from rfl, Nat.one_mul]
    have hb : w.natAbs ≤ 2 ^ 53 := by
      rw [ha]
      refine rq_small (Nat.two_pow_pos _) ?_
      rw [show (cE d - L).toNat = 0 by omega, Nat.pow_zero, Nat.mul_one, ← Nat.pow_add]
      exact Nat.lt_of_lt_of_le ((bl_le _ _).1 (Nat.le_refl (bl (cZ d).natAbs))) (Nat.pow_le_pow_right (by decide) (by omega))
    rw [← hw]
    obtain ⟨o1, o2⟩ := odd_small (z := w) (e := L) hb (by decide)
    refine ⟨o1, fun hx => ?_⟩
    have hw0 : w ≠ 0 := fun g => hx (by rw [g, mk_zero])
    obtain ⟨t, k, htk⟩ := odd_ex w.natAbs (by omega)
    obtain ⟨c1, c2, c3⟩ := make_law (e := L) htk
    have ht53 : t ≤ 53 := by
      refine (Nat.pow_le_pow_iff_right (by decide : 1 < 2)).1 (Nat.le_trans ?_ hb)
      rw [htk]
      exact Nat.le_mul_of_pos_right _ (by omega)
    refine ⟨by omega, .inr (by omega), ?_⟩
    rw [c3]
    have h3 := zover_neg (a := cZ d) (b := 1) (k := cE d - L) (m := m)
    rw [← hw] at h3
    rw [h3, show decide ((1 : Int) < 0) = false from rfl, Bool.bne_false, show decide (0 < w.natAbs) = true from decide_eq_true (by omega), Bool.and_true]

/-- the sign of a quotient -/
theorem quotD_sgn {a b : Dyadic} {low : Int} (h1 : a ≠ 0) : decide (cZ (quotD a b low) < 0) = (decide (cZ a < 0) != decide (cZ b < 0)) := by
  obtain ⟨n, d, W, hn, hd, hW, hq⟩ := quotD_eq (a := a) (b := b) (low := low) h1 rfl
  have ha : (cZ a).natAbs ≠ 0 := by intro h; exact h1 (cZ_eq_zero.1 (Int.natAbs_eq_zero.1 h))
  have hn0 : 0 < n := by rw [hn]; exact Nat.mul_pos (by omega) (Nat.two_pow_pos _)
  have hp := sticky_pos (d := d) hn0
  rw [← hW] at hp
  rw [hq]
  obtain ⟨w, hw⟩ : ∃ w : Int, w = if (decide (cZ a < 0) != decide (cZ b < 0)) = true then -(W : Int) else (W : Int) := ⟨_, rfl⟩
  rw [← hw]
  have hw0 : w ≠ 0 := by rw [hw]; split <;> omega
  obtain ⟨t, k, htk⟩ := odd_ex w.natAbs (by omega)
  obtain ⟨c1, c2, c3⟩ := make_law (e := low - 3) htk
  rw [c3, Bool.eq_iff_iff, decide_eq_true_iff, hw]
  exact sgn_neg _ W hp

end Go.Pe

set_option linter.unusedSimpArgs false
set_option linter.unusedVariables false
namespace Go.Pe
open Go Go.Dg

theorem cmpD_ge {a b : Dyadic} : 0 ≤ cmpD a b ↔ b ≤ a := by
  unfold cmpD
  split
  · rename_i h
    exact ⟨fun h' => absurd h' (by decide), fun _ => by exfalso; grind⟩
  · split
    · rename_i h1 h
      exact ⟨fun _ => by grind, fun _ => by decide⟩
    · rename_i h1 h2
      exact ⟨fun _ => by grind, fun _ => by decide⟩

theorem mk_abs_form {z e t0 : Int} (hz : z ≠ 0) : mk ((z.natAbs : Nat) : Int) (e + t0) = mk (((cZ (mk z e)).natAbs : Nat) : Int) (cE (mk z e) + t0) := by
  obtain ⟨t, k, htk⟩ := odd_ex z.natAbs (by omega)
  obtain ⟨c1, c2, c3⟩ := make_law (e := e) htk
  have h := mk_shift ((2 * k + 1 : Nat) : Int) (e + t + t0) t
  rw [c1, c2, htk, ← h, show e + t + t0 - t = e + t0 by omega, Int.natCast_mul, Int.natCast_pow, Int.mul_comm]
  rfl

end Go.Pe

set_option linter.unusedSimpArgs false
set_option linter.unusedVariables false
namespace Go.Pe
open Go Go.Dg

theorem root_form {z e L : Int} {n n' s s' : Nat} (hz : z ≠ 0) (hn : n = z.natAbs * 2 ^ (e - 2 * L).toNat) (hs : s = (-(e - 2 * L)).toNat)
    (hn' : n' = (cZ (mk z e)).natAbs * 2 ^ (cE (mk z e) - 2 * L).toNat) (hs' : s' = (-(cE (mk z e) - 2 * L)).toNat) : n * 2 ^ s' = n' * 2 ^ s := by
  obtain ⟨t, k, htk⟩ := odd_ex z.natAbs (by omega)
  obtain ⟨c1, c2, c3⟩ := make_law (e := e) htk
  rw [c1, c2] at hn'
  rw [c2] at hs'
  obtain ⟨x, hx⟩ : ∃ x, x = (e - 2 * L).toNat := ⟨_, rfl⟩
  obtain ⟨y, hy⟩ : ∃ y, y = (e + t - 2 * L).toNat := ⟨_, rfl⟩
  rw [hn, hn', htk, ← hx, ← hy]
  have hp : 2 ^ t * 2 ^ x * 2 ^ s' = 2 ^ y * 2 ^ s := by
    rw [← Nat.pow_add, ← Nat.pow_add, ← Nat.pow_add]; congr 1; omega
  calc 2 ^ t * (2 * k + 1) * 2 ^ x * 2 ^ s' = (2 * k + 1) * (2 ^ t * 2 ^ x * 2 ^ s') := by grind
    _ = (2 * k + 1) * (2 ^ y * 2 ^ s) := by rw [hp]
    _ = (2 * k + 1) * 2 ^ y * 2 ^ s := by grind

theorem tdiv_two (x : Int) : 2 * x.tdiv 2 ≤ x + 1 ∧ x - 1 ≤ 2 * x.tdiv 2 := by
  have h1 := Int.mul_tdiv_add_tmod x 2
  have h2 := Int.tmod_lt_of_pos x (show (0 : Int) < 2 by decide)
  have h3 := Int.lt_tmod_of_pos x (show (0 : Int) < 2 by decide)
  omega

end Go.Pe

set_option linter.unusedSimpArgs false
set_option linter.unusedVariables false
namespace Go.Pe
open Go

theorem typed_st4 {P : Program} {n : Nat} {t : TypeId} {c : List PV} {f g k l : Field} (hu : P.underlying t = some (.struct #[f, g, k, l])) (h : Typed P (n + 1) t c) :
    ∃ p q r s, Typed P n f.type p ∧ Typed P n g.type q ∧ Typed P n k.type r ∧ Typed P n l.type s ∧ c = p ++ q ++ r ++ s := by
  unfold Typed at h; rw [hu] at h
  obtain ⟨p, _, h1, ⟨q1, _, h2, ⟨r1, _, h3, ⟨s1, s2, h4, h5, rfl⟩, rfl⟩, rfl⟩, rfl⟩ := h
  have h5 : s2 = [] := h5
  exact ⟨p, q1, r1, s1, h1, h2, h3, h4, by rw [h5, List.append_nil, List.append_assoc, List.append_assoc]⟩

end Go.Pe

