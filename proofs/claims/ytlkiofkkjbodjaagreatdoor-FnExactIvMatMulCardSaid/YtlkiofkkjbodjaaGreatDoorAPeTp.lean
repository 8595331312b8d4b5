/- Products of intervals: the least and the greatest product of the ends; sums of such products. -/
import Derived.Test.YtlkiofkkjbodjaaGreatDoorAPeTm
import Derived.Test.YtlkiofkkjbodjaaGreatDoorAEvD
set_option linter.unusedSimpArgs false
set_option linter.unusedVariables false
namespace Go.Pe
open Go Go.Dg

def mulE (a1 a2 b1 b2 : Dyadic) (k : Nat) : Dyadic := endA a1 a2 k * endB b1 b2 k
noncomputable def mulLo (a1 a2 b1 b2 : Dyadic) : Dyadic := mulE a1 a2 b1 b2 (amin (mulE a1 a2 b1 b2) 3)
noncomputable def mulHi (a1 a2 b1 b2 : Dyadic) : Dyadic := mulE a1 a2 b1 b2 (amax (mulE a1 a2 b1 b2) 3)

theorem mulLo_le (a1 a2 b1 b2 : Dyadic) : mulLo a1 a2 b1 b2 ≤ mulHi a1 a2 b1 b2 :=
 Dyadic.le_trans (amin_min (d := mulE a1 a2 b1 b2) (k := 3) (j := 0) (by omega)) (amax_max (d := mulE a1 a2 b1 b2) (k := 3) (j := 0) (by omega))

theorem psum_le {f g : Nat → Dyadic} : ∀ {n : Nat}, (∀ k, k < n → f k ≤ g k) → psum f n ≤ psum g n
 | 0, _ => Dyadic.le_refl _
 | n + 1, h => by
  have h1 := psum_le (n := n) (fun k hk => h k (by omega))
  have h2 := h n (by omega)
  show psum f n + f n ≤ psum g n + g n
  grind

noncomputable def ivLo (m : Nat) (dA dB dC dD : Nat → Dyadic) (i j a : Nat) : Dyadic := mulLo (dA (i * m + a)) (dB (i * m + a)) (dC (a * m + j)) (dD (a * m + j))
noncomputable def ivHi (m : Nat) (dA dB dC dD : Nat → Dyadic) (i j a : Nat) : Dyadic := mulHi (dA (i * m + a)) (dB (i * m + a)) (dC (a * m + j)) (dD (a * m + j))
noncomputable def timesLo (n : Int) (dA dB dC dD : Nat → Dyadic) (k : Nat) : Dyadic := psum (ivLo n.toNat dA dB dC dD (k / n.toNat) (k % n.toNat)) n.toNat
noncomputable def timesHi (n : Int) (dA dB dC dD : Nat → Dyadic) (k : Nat) : Dyadic := psum (ivHi n.toNat dA dB dC dD (k / n.toNat) (k % n.toNat)) n.toNat
noncomputable def ivmLo (n : Int) (vs ws : List Cell6) : Nat → Dyadic := timesLo n (dvA vs) (dvB vs) (dvA ws) (dvB ws)
noncomputable def ivmHi (n : Int) (vs ws : List Cell6) : Nat → Dyadic := timesHi n (dvA vs) (dvB vs) (dvA ws) (dvB ws)

theorem times_le (n : Int) (dA dB dC dD : Nat → Dyadic) (k : Nat) : timesLo n dA dB dC dD k ≤ timesHi n dA dB dC dD k := psum_le (fun _ _ => mulLo_le _ _ _ _)
theorem ivm_le0 (n : Int) (vs ws : List Cell6) (k : Nat) : ivmLo n vs ws k ≤ ivmHi n vs ws k := times_le _ _ _ _ _ _

theorem place_div {m i j : Nat} (hj : j < m) : (i * m + j) / m = i ∧ (i * m + j) % m = j := by
 refine ⟨?_, ?_⟩
 ·rw [Nat.mul_comm, Nat.mul_add_div (by omega), Nat.div_eq_of_lt hj, Nat.add_zero]
 ·rw [Nat.mul_comm, Nat.mul_add_mod, Nat.mod_eq_of_lt hj]

theorem times_at {n : Int} {dA dB dC dD : Nat → Dyadic} {i j : Nat} (hj : j < n.toNat) : timesLo n dA dB dC dD (i * n.toNat + j) = psum (ivLo n.toNat dA dB dC dD i j) n.toNat ∧ timesHi n dA dB dC dD (i * n.toNat + j) = psum (ivHi n.toNat dA dB dC dD i j) n.toNat := by
 obtain ⟨h1, h2⟩ := place_div (i := i) hj
 unfold timesLo timesHi
 rw [h1, h2]
 exact ⟨rfl, rfl⟩

theorem X_fits {d : Dyadic} (h : fits d) : X d 100 3000 (canY d) := by
 obtain ⟨h1, h2, h3⟩ := h
 exact ⟨cZ d, rfl, rfl, (mk_canon d).symm, by omega, by show (cE d).natAbs ≤ 3000; omega⟩

theorem mulE_X {a1 a2 b1 b2 : Dyadic} {L E L2 E2 : Nat} {y1 y2 y3 y4 : Cell3} (fa1 : X a1 L E y1) (fa2 : X a2 L E y2) (fb1 : X b1 L2 E2 y3) (fb2 : X b2 L2 E2 y4) (k : Nat) : ∃ y, X (mulE a1 a2 b1 b2 k) (L + L2) (E + E2) y := by
 unfold mulE
 rcases endA_cases a1 a2 k with h | h <;> rw [h] <;> rcases endB_cases b1 b2 k with g | g <;> rw [g]
 ·exact X_times fa1 fb1
 ·exact X_times fa1 fb2
 ·exact X_times fa2 fb1
 ·exact X_times fa2 fb2

theorem mulE_can {a1 a2 b1 b2 : Dyadic} (fa1 : fits a1) (fa2 : fits a2) (fb1 : fits b1) (fb2 : fits b2) (k : Nat) :
  (dg (cZ (mulE a1 a2 b1 b2 k)).natAbs).length ≤ 200 ∧ (cE (mulE a1 a2 b1 b2 k)).natAbs ≤ 20000 := by
 obtain ⟨y, hy⟩ := mulE_X (X_fits fa1) (X_fits fa2) (X_fits fb1) (X_fits fb2) k
 have h1 := X_can hy
 have h2 := X_cE hy
 omega

theorem chainG {α : Type} {S : Nat → α → Prop} {Q : Nat → α → α → α → Prop} {y0 : α} (h0 : S 0 y0) : ∀ {n : Nat}, (∀ k y, k < n → S k y → ∃ t y', Q k y t y' ∧ S (k + 1) y') →
  ∃ c t : Nat → α, c 0 = y0 ∧ (∀ k, k < n → Q k (c k) (t k) (c (k + 1))) ∧ ∀ k, k ≤ n → S k (c k)
 | 0, _ => ⟨fun _ => y0, fun _ => y0, rfl, fun k hk => by omega, fun k hk => by
  obtain rfl : k = 0 := by omega
  exact h0⟩
 | n + 1, hs => by
  obtain ⟨c, t, h1, h2, h3⟩ := chainG (n := n) h0 (fun k y hk hx => hs k y (by omega) hx)
  obtain ⟨t', y', h4, h5⟩ := hs n (c n) (by omega) (h3 n (Nat.le_refl _))
  refine ⟨fun k => if k ≤ n then c k else y', fun k => if k < n then t k else t', by simp [h1], fun k hk => ?_, fun k hk => ?_⟩
  ·by_cases hkn : k < n
   ·simp only [show k ≤ n by omega, show k + 1 ≤ n by omega, hkn, if_true]
    exact h2 k hkn
   ·obtain rfl : k = n := by omega
    simp only [Nat.le_refl, if_true, Nat.lt_irrefl, if_false, show ¬ k + 1 ≤ k by omega]
    exact h4
  ·by_cases hkn : k ≤ n
   ·simp only [hkn, if_true]; exact h3 k hkn
   ·obtain rfl : k = n + 1 := by omega
    simp only [show ¬ n + 1 ≤ n by omega, if_false]
    exact h5

noncomputable def partV (d1 d2 : Nat → Dyadic) (N m : Nat) : List Cell6 := canV d1 d2 m ++ List.replicate (N - m) noV

theorem partV_len {d1 d2 : Nat → Dyadic} {N m : Nat} (h : m ≤ N) : (partV d1 d2 N m).length = N := by
 rw [partV, List.length_append, canV_len, List.length_replicate]; omega
theorem partV_zero (d1 d2 : Nat → Dyadic) (N : Nat) : partV d1 d2 N 0 = List.replicate N noV := by simp [partV, canV]
theorem partV_all (d1 d2 : Nat → Dyadic) (N : Nat) : partV d1 d2 N N = canV d1 d2 N := by simp [partV]
theorem partV_set {d1 d2 : Nat → Dyadic} {N m : Nat} (h : m < N) : (partV d1 d2 N m).set m (canY (d1 m), canY (d2 m)) = partV d1 d2 N (m + 1) := by
 unfold partV
 rw [canV_succ, List.append_assoc, List.set_append_right _ _ (by rw [canV_len]; exact Nat.le_refl _), canV_len, Nat.sub_self, show N - m = (N - (m + 1)) + 1 by omega, List.replicate_succ]
 rfl

theorem ivm_X {m : Nat} {vs ws : List Cell6} (hva : allV vs) (hwa : allV ws) (hvl : vs.length = m * m) (hwl : ws.length = m * m) {i j : Nat} (hi : i < m) (hj : j < m) (k : Nat) (hk : k < m) :
  (∃ y, X (ivLo m (dvA vs) (dvB vs) (dvA ws) (dvB ws) i j k) 200 6000 y) ∧ ∃ y, X (ivHi m (dvA vs) (dvB vs) (dvA ws) (dvB ws) i j k) 200 6000 y := by
 have h1 := allV_fits hva (k := i * m + k) (by rw [hvl]; exact place_lt hi hk)
 have h2 := allV_fits hwa (k := k * m + j) (by rw [hwl]; exact place_lt hk hj)
 exact ⟨mulE_X (X_fits h1.1) (X_fits h1.2) (X_fits h2.1) (X_fits h2.2) _, mulE_X (X_fits h1.1) (X_fits h1.2) (X_fits h2.1) (X_fits h2.2) _⟩

theorem ivm_psum {m : Nat} {vs ws : List Cell6} (hva : allV vs) (hwa : allV ws) (hvl : vs.length = m * m) (hwl : ws.length = m * m) (hm : m ≤ 4) {i j : Nat} (hi : i < m) (hj : j < m) (k : Nat) (hk : k ≤ m) :
  ((dg (cZ (psum (ivLo m (dvA vs) (dvB vs) (dvA ws) (dvB ws) i j) k)).natAbs).length ≤ 5000 ∧ (cE (psum (ivLo m (dvA vs) (dvB vs) (dvA ws) (dvB ws) i j) k)).natAbs ≤ 100000) ∧ (dg (cZ (psum (ivHi m (dvA vs) (dvB vs) (dvA ws) (dvB ws) i j) k)).natAbs).length ≤ 5000 ∧ (cE (psum (ivHi m (dvA vs) (dvB vs) (dvA ws) (dvB ws) i j) k)).natAbs ≤ 100000 := by
 obtain ⟨y1, x1⟩ := X_psum (n := m) (fun a ha => (ivm_X hva hwa hvl hwl hi hj a ha).1) k hk
 obtain ⟨y2, x2⟩ := X_psum (n := m) (fun a ha => (ivm_X hva hwa hvl hwl hi hj a ha).2) k hk
 have k4 : k * (6000 / 8 + 2) ≤ 4 * 752 := Nat.mul_le_mul (by omega) (by omega)
 have a1 := X_can x1
 have a2 := X_cE x1
 have a3 := X_can x2
 have a4 := X_cE x2
 omega

end Go.Pe
