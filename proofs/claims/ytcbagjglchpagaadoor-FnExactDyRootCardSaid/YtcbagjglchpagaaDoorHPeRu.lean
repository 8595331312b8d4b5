/- Plain laws: the root of a dyadic number rounded. -/
import Derived.Test.YtcbagjglchpagaaDoorHEvD
set_option linter.unusedSimpArgs false
set_option linter.unusedVariables false
namespace Go.Pe
open Go Go.Dg

/-- r is the root of a, rounded down -/
def isRt (a r : Nat) : Prop := r * r ≤ a ∧ a < (r + 1) * (r + 1)

theorem isRt_unique {a r s : Nat} (h : isRt a r) (g : isRt a s) : r = s := by
  rcases Nat.lt_trichotomy r s with h1 | h1 | h1
  · have := Nat.mul_le_mul (show r + 1 ≤ s from h1) (show r + 1 ≤ s from h1)
    have h2 := h.2
    have g1 := g.1
    omega
  · exact h1
  · have := Nat.mul_le_mul (show s + 1 ≤ r from h1) (show s + 1 ≤ r from h1)
    have h2 := g.2
    have g1 := h.1
    omega

/-- where Newton's step does not lead down, the root is reached -/
theorem newton_stop {a x : Nat} (h : a < (x + 1) * (x + 1)) (hy : x ≤ (x + a / x) / 2) : isRt a x := by
  have h1 : x ≤ a / x := by omega
  have h2 : x * x ≤ a := by
    have := Nat.mul_le_mul_right x h1
    exact Nat.le_trans this (Nat.div_mul_le_self a x)
  exact ⟨h2, h⟩

theorem sq_le (a b : Nat) : 4 * (a * b) ≤ (a + b) * (a + b) := by
  rcases Nat.le_total a b with h | h
  · obtain ⟨k, rfl⟩ := Nat.exists_eq_add_of_le h
    have : (a + (a + k)) * (a + (a + k)) = 4 * (a * (a + k)) + k * k := by grind
    omega
  · obtain ⟨k, rfl⟩ := Nat.exists_eq_add_of_le h
    have : (b + k + b) * (b + k + b) = 4 * ((b + k) * b) + k * k := by grind
    omega

/-- a step does not lead below the root -/
theorem newton_step {a x : Nat} (hx : 0 < x) : a < ((x + a / x) / 2 + 1) * ((x + a / x) / 2 + 1) := by
  obtain ⟨q, hq⟩ : ∃ q, q = a / x := ⟨_, rfl⟩
  obtain ⟨y, hy⟩ : ∃ y, y = (x + q) / 2 := ⟨_, rfl⟩
  rw [← hq, ← hy]
  have h1 : a < (q + 1) * x := by
    have h1 := Nat.mod_lt a hx
    have h2 := Nat.div_add_mod a x
    rw [hq, Nat.add_mul, Nat.one_mul, Nat.mul_comm]
    omega
  have h2 : x + (q + 1) ≤ 2 * (y + 1) := by omega
  have h3 := sq_le x (q + 1)
  have h4 := Nat.mul_le_mul h2 h2
  have h5 : 2 * (y + 1) * (2 * (y + 1)) = 4 * ((y + 1) * (y + 1)) := by grind
  have h6 : x * (q + 1) = (q + 1) * x := Nat.mul_comm _ _
  omega

theorem newton_pos {a x : Nat} (ha : 0 < a) (hx : 0 < x) : 0 < (x + a / x) / 2 := by
  rcases Nat.eq_zero_or_pos ((x + a / x) / 2) with h0 | h0
  · exfalso
    have := newton_step (a := a) hx
    rw [h0] at this
    omega
  · exact h0

/-- the root of n / 2^s rounded; r is it rounded down -/
def rrt (n s r : Nat) (m : Int) : Nat := if r * r * 2 ^ s = n then r else if rup false (decide (r % 2 = 1)) (cmpN (n * 4) ((2 * r + 1) * (2 * r + 1) * 2 ^ s)) m = true then r + 1 else r

/-- two bits more and a bit that tells whether there are others: rounded, it is the root rounded -/
theorem rt_sticky {n s r Q st : Nat} {m : Int} (h1 : Q * Q * 2 ^ s ≤ 16 * n) (h2 : 16 * n < (Q + 1) * (Q + 1) * 2 ^ s) (hst : st = if Q * Q * 2 ^ s = 16 * n then 0 else 1)
    (g1 : r * r * 2 ^ s ≤ n) (g2 : n < (r + 1) * (r + 1) * 2 ^ s) : rq false (2 * Q + st) 8 m = rrt n s r m := by
  obtain ⟨w, hw⟩ : ∃ w, w = 2 ^ s := ⟨_, rfl⟩
  have hw0 : 0 < w := by rw [hw]; exact Nat.two_pow_pos _
  rw [← hw] at h1 h2 hst g1 g2
  unfold rrt
  rw [← hw]
  -- squares times w are in order
  have mono : ∀ {x y : Nat}, x ≤ y → x * x * w ≤ y * y * w := fun h => Nat.mul_le_mul_right w (Nat.mul_le_mul h h)
  have lt_of : ∀ {x y : Nat}, x * x * w < y * y * w → x < y := by
    intro x y h
    apply Nat.lt_of_not_le
    intro h'
    have := mono h'
    omega
  have e16 : ∀ x : Nat, (4 * x) * (4 * x) * w = 16 * (x * x * w) := fun x => by grind
  have hr1 : 4 * r ≤ Q := by
    have : (4 * r) * (4 * r) * w < (Q + 1) * (Q + 1) * w := by rw [e16]; omega
    have := lt_of this
    omega
  have hr2 : Q < 4 * (r + 1) := by
    have : Q * Q * w < (4 * (r + 1)) * (4 * (r + 1)) * w := by rw [e16]; omega
    exact lt_of this
  obtain ⟨c, hc⟩ : ∃ c, Q = 4 * r + c := ⟨Q - 4 * r, by omega⟩
  have hc4 : c < 4 := by omega
  have hs2 : st ≤ 1 := by rw [hst]; split <;> omega
  have hx1 : (2 * Q + st) / 8 = r := by omega
  have hx2 : (2 * Q + st) % 8 = 2 * c + st := by omega
  have e4 : (4 * r + 2) * (4 * r + 2) * w = 4 * ((2 * r + 1) * (2 * r + 1) * w) := by grind
  by_cases hex : r * r * w = n
  · have hQ : Q = 4 * r := by
      have : Q * Q * w < (4 * r + 1) * (4 * r + 1) * w := by
        have h3 := e16 r
        have h4 : (4 * r) * (4 * r) * w < (4 * r + 1) * (4 * r + 1) * w := Nat.mul_lt_mul_of_pos_right (Nat.mul_lt_mul'' (by omega) (by omega)) hw0
        omega
      have := lt_of this
      omega
    have hst0 : st = 0 := by
      rw [hst, if_pos]
      rw [hQ, e16]; omega
    rw [if_pos hex, rq_exact (by omega), hx1]
  · rw [if_neg hex]
    have hne : (2 * Q + st) % 8 ≠ 0 := by
      rw [hx2]
      intro h0
      have hc0 : c = 0 := by omega
      have hst0 : st = 0 := by omega
      have : Q * Q * w = 16 * n := by
        apply Classical.byContradiction
        intro hn
        rw [if_neg hn] at hst
        omega
      rw [hc, hc0, Nat.add_zero, e16] at this
      exact hex (by omega)
    have hcmp : cmpN ((2 * Q + st) % 8 * 2) 8 = cmpN (n * 4) ((2 * r + 1) * (2 * r + 1) * w) := by
      rw [hx2]
      rcases (by omega : c ≤ 1 ∨ c = 2 ∨ c = 3) with h | h | h
      · have h3 := mono (show Q + 1 ≤ 4 * r + 2 by omega)
        rw [cmpN_lt (by omega), cmpN_lt (by omega)]
      · have hQ : Q = 4 * r + 2 := by omega
        by_cases hq : Q * Q * w = 16 * n
        · rw [if_pos hq] at hst
          rw [hQ, e4] at hq
          rw [cmpN_eq (by omega), cmpN_eq (by omega)]
        · rw [if_neg hq] at hst
          rw [hQ, e4] at hq h1
          rw [cmpN_gt (by omega), cmpN_gt (by omega)]
      · have h3 : (4 * r + 2) * (4 * r + 2) * w < Q * Q * w := Nat.mul_lt_mul_of_pos_right (Nat.mul_lt_mul'' (by omega) (by omega)) hw0
        rw [cmpN_gt (by omega), cmpN_gt (by omega)]
    cases hup : rup false (decide (r % 2 = 1)) (cmpN (n * 4) ((2 * r + 1) * (2 * r + 1) * w)) m with
    | true => rw [if_pos rfl, rq_up hne (by rw [hx1, hcmp]; exact hup), hx1]
    | false => rw [if_neg (by decide), rq_down hne (by rw [hx1, hcmp]; exact hup), hx1]

end Go.Pe

set_option linter.unusedSimpArgs false
set_option linter.unusedVariables false
namespace Go.Pe
open Go Go.Dg

theorem newton_start (a : Nat) : a < (2 ^ ((bl a + 1) / 2) + 1) * (2 ^ ((bl a + 1) / 2) + 1) := by
  have h1 : a < 2 ^ bl a := (bl_le (bl a) a).1 (Nat.le_refl _)
  have h2 : 2 ^ bl a ≤ 2 ^ ((bl a + 1) / 2) * 2 ^ ((bl a + 1) / 2) := by
    rw [← Nat.pow_add]
    exact Nat.pow_le_pow_right (by decide) (by omega)
  have h3 : 2 ^ ((bl a + 1) / 2) * 2 ^ ((bl a + 1) / 2) ≤ (2 ^ ((bl a + 1) / 2) + 1) * (2 ^ ((bl a + 1) / 2) + 1) := Nat.mul_le_mul (Nat.le_succ _) (Nat.le_succ _)
  omega

theorem rt_ex (a : Nat) : ∃ r, isRt a r := by
  have key : ∀ n r : Nat, r * r ≤ a → a < (r + n + 1) * (r + n + 1) → ∃ r, isRt a r := by
    intro n
    induction n with
    | zero => intro r h1 h2; exact ⟨r, h1, h2⟩
    | succ n ih =>
      intro r h1 h2
      by_cases h : a < (r + 1) * (r + 1)
      · exact ⟨r, h1, h⟩
      · exact ih (r + 1) (by omega) (by rw [show r + 1 + n + 1 = r + (n + 1) + 1 by omega]; exact h2)
  refine key a 0 (Nat.zero_le _) ?_
  have : a + 1 ≤ (0 + a + 1) * (0 + a + 1) := by rw [Nat.zero_add]; exact Nat.le_mul_of_pos_right _ (by omega)
  omega

/-- the root rounded down -/
noncomputable def rtN (a : Nat) : Nat := Classical.choose (rt_ex a)
theorem rtN_spec (a : Nat) : isRt a (rtN a) := Classical.choose_spec (rt_ex a)
theorem rtN_zero : rtN 0 = 0 := isRt_unique (rtN_spec 0) ⟨Nat.le_refl _, by decide⟩
theorem rtN_le (a : Nat) : rtN a ≤ a := by
  have h := (rtN_spec a).1
  rcases Nat.eq_zero_or_pos (rtN a) with h0 | h0
  · omega
  · exact Nat.le_trans (Nat.le_mul_of_pos_right _ h0) h

/-- the root of a number, rounded to a multiple of 2^low -/
noncomputable def rootD (d : Dyadic) (low m : Int) : Dyadic :=
  mk ((rrt ((cZ d).natAbs * 2 ^ (cE d - 2 * low).toNat) (-(cE d - 2 * low)).toNat (rtN ((cZ d).natAbs * 2 ^ (cE d - 2 * low).toNat / 2 ^ (-(cE d - 2 * low)).toNat)) m : Nat) : Int) low

/-- what is looked at of a root: its bits down to low - 2 -/
noncomputable def sqN (d : Dyadic) (low : Int) : Nat := (cZ d).natAbs * 2 ^ (cE d - 2 * (low - 2)).toNat / 2 ^ (-(cE d - 2 * (low - 2))).toNat

/-- and whether there are others -/
noncomputable def sqS (d : Dyadic) (low : Int) : Nat := open Classical in if cE d - 2 * (low - 2) < 0 ∨ rtN (sqN d low) * rtN (sqN d low) ≠ sqN d low then 1 else 0

/-- the root with bits down to low - 2, and one more that tells whether there are others -/
noncomputable def sqrtD (d : Dyadic) (low : Int) : Dyadic := open Classical in if d = 0 then 0 else mk ((2 * rtN (sqN d low) + sqS d low : Nat) : Int) (low - 3)

theorem root_law {d : Dyadic} (low m : Int) (hd : 0 ≤ cZ d) : roundD (sqrtD d low) low m = rootD d low m := by
  by_cases h0 : d = 0
  · unfold sqrtD
    rw [if_pos h0, roundD_same (.inl rfl), rootD, h0, cZ_zero, show Int.natAbs 0 = 0 from rfl, Nat.zero_mul, Nat.zero_div, rtN_zero]
    unfold rrt
    rw [if_pos (by simp)]
    exact (mk_zero low).symm
  · obtain ⟨a, ha⟩ : ∃ a, a = (cZ d).natAbs := ⟨_, rfl⟩
    have hodd : a % 2 = 1 := by have := cZ_odd h0; omega
    have ha0 : 0 < a := by omega
    obtain ⟨E, hE⟩ : ∃ E, E = cE d - 2 * low := ⟨_, rfl⟩
    have hk : cE d - 2 * (low - 2) = E + 4 := by omega
    obtain ⟨N, hN⟩ : ∃ N, N = a * 2 ^ (E + 4).toNat / 2 ^ (-(E + 4)).toNat := ⟨_, rfl⟩
    have hsq : sqN d low = N := by rw [sqN, hk, ← ha, hN]
    obtain ⟨Q, hQ⟩ : ∃ Q, Q = rtN N := ⟨_, rfl⟩
    have hQs := rtN_spec N
    rw [← hQ] at hQs
    obtain ⟨q1, q2⟩ := hQs
    obtain ⟨st, hst⟩ : ∃ st, st = sqS d low := ⟨_, rfl⟩
    have hst2 : st = if E + 4 < 0 ∨ Q * Q ≠ N then 1 else 0 := by
      rw [hst, sqS, hk, hsq, ← hQ]
    obtain ⟨n, hn⟩ : ∃ n, n = a * 2 ^ E.toNat := ⟨_, rfl⟩
    obtain ⟨s, hs⟩ : ∃ s, s = (-E).toNat := ⟨_, rfl⟩
    obtain ⟨r, hr⟩ : ∃ r, r = rtN (n / 2 ^ s) := ⟨_, rfl⟩
    have hrs := rtN_spec (n / 2 ^ s)
    rw [← hr] at hrs
    have hw0 : 0 < 2 ^ s := Nat.two_pow_pos _
    have g1 : r * r * 2 ^ s ≤ n := (Nat.le_div_iff_mul_le hw0).1 hrs.1
    have g2 : n < (r + 1) * (r + 1) * 2 ^ s := (Nat.div_lt_iff_lt_mul hw0).1 hrs.2
    -- the three cases
    have key : Q * Q * 2 ^ s ≤ 16 * n ∧ 16 * n < (Q + 1) * (Q + 1) * 2 ^ s ∧ (st = if Q * Q * 2 ^ s = 16 * n then 0 else 1) ∧ 2 * Q + st ≠ 0 := by
      rcases (by omega : 0 ≤ E + 4 ∨ E + 4 < 0) with hE4 | hE4
      · have e1 : (-(E + 4)).toNat = 0 := by omega
        have e2 : N * 2 ^ s = 16 * n := by
          rw [hN, e1, Nat.pow_zero, Nat.div_one, hn, Nat.mul_assoc, ← Nat.pow_add, show (E + 4).toNat + s = E.toNat + 4 by omega, Nat.pow_add]
          grind
        have hN1 : 0 < N := by
          have : 0 < n := by rw [hn]; exact Nat.mul_pos ha0 (Nat.two_pow_pos _)
          rcases Nat.eq_zero_or_pos N with h | h
          · rw [h, Nat.zero_mul] at e2; omega
          · exact h
        have hQ1 : 0 < Q := by
          rcases Nat.eq_zero_or_pos Q with h | h
          · rw [h] at q2; omega
          · exact h
        refine ⟨?_, ?_, ?_, by omega⟩
        · rw [← e2]; exact Nat.mul_le_mul_right _ q1
        · rw [← e2]; exact Nat.mul_lt_mul_of_pos_right q2 hw0
        · rw [hst2, ← e2]
          by_cases hc : Q * Q = N
          · rw [if_neg (by omega), if_pos (by rw [hc])]
          · rw [if_pos (.inr hc), if_neg (fun h => hc (Nat.eq_of_mul_eq_mul_right hw0 h))]
      · have e1 : (E + 4).toNat = 0 := by omega
        have e3 : E.toNat = 0 := by omega
        obtain ⟨j, hj⟩ : ∃ j, j = (-(E + 4)).toNat := ⟨_, rfl⟩
        have hsj : s = j + 4 := by omega
        have hj1 : 1 ≤ j := by omega
        have hna : n = a := by rw [hn, e3, Nat.pow_zero, Nat.mul_one]
        have hNa : N = a / 2 ^ j := by rw [hN, e1, Nat.pow_zero, Nat.mul_one, ← hj]
        have hj0 : 0 < 2 ^ j := Nat.two_pow_pos _
        have p1 : Q * Q * 2 ^ j ≤ a := (Nat.le_div_iff_mul_le hj0).1 (by rw [← hNa]; exact q1)
        have p2 : a < (Q + 1) * (Q + 1) * 2 ^ j := (Nat.div_lt_iff_lt_mul hj0).1 (by rw [← hNa]; exact q2)
        have e5 : ∀ x : Nat, x * 2 ^ s = 16 * (x * 2 ^ j) := by
          intro x
          rw [hsj, Nat.pow_add]; grind
        have hst1 : st = 1 := by rw [hst2, if_pos (.inl hE4)]
        refine ⟨by rw [e5, hna]; omega, by rw [e5, hna]; omega, ?_, by omega⟩
        rw [hst1, if_neg]
        rw [e5, hna]
        intro he
        have he2 : Q * Q * 2 ^ j = a := by omega
        obtain ⟨i, rfl⟩ : ∃ i, j = i + 1 := ⟨j - 1, by omega⟩
        have : a = 2 * (Q * Q * 2 ^ i) := by rw [← he2, Nat.pow_succ]; grind
        omega
    obtain ⟨k1, k2, k3, k4⟩ := key
    have hrt := rt_sticky (m := m) k1 k2 k3 g1 g2
    unfold sqrtD
    rw [if_neg h0, hsq, ← hQ, ← hst, roundD_mk (by omega) (by omega), rootD, ← ha, ← hE, ← hn, ← hs, ← hr]
    congr 1
    rw [zover_one, if_neg (by omega), show (low - 3 - low).toNat = 0 by omega, show (-(low - 3 - low)).toNat = 3 by omega, Nat.pow_zero, Nat.mul_one, Int.natAbs_natCast]
    rw [show (2 : Nat) ^ 3 = 8 from rfl, hrt]

/-- bounds of a root rounded -/
theorem rrt_le (n s r : Nat) (m : Int) : rrt n s r m ≤ r + 1 := by
  unfold rrt
  split
  · omega
  · split <;> omega

end Go.Pe

