/- Numbers as lists of digits: order, shifts, counts of bits, the least term: plain laws, each under the conditions that its own statement names. -/
import Derived.Test.YtoiomklhpleceaaPeDg
namespace Go.Dg

theorem val_lt_pow : ∀ {l : List Int}, Valid l → val l < 65536 ^ l.length
  | [], _ => by simp [val]
  | x :: r, h => by
    have h1 := val_lt_pow h.tail
    have h2 := h.head
    simp only [val, List.length_cons, Int.pow_succ]
    omega

theorem dg_len_lt {x y : Nat} (h : (dg x).length < (dg y).length) : x < y := by
  have h1 := val_lt_pow (valid_dg x)
  rw [val_dg] at h1
  have h2 : ¬ y < 65536 ^ (dg x).length := fun hy => by have := dg_len_le _ _ hy; omega
  have h3 : (x : Int) < ((65536 ^ (dg x).length : Nat) : Int) := by rw [Int.natCast_pow]; exact h1
  have h4 : x < 65536 ^ (dg x).length := by exact_mod_cast h3
  omega

theorem val_split (l : List Int) (i : Nat) (h : i < l.length) : val l = val (l.take i) + 65536 ^ i * (l.getD i 0 + 65536 * val (l.drop (i + 1))) := by
  have e : l = l.take i ++ (l.getD i 0 :: l.drop (i + 1)) := by
    rw [List.getD, List.getElem?_eq_getElem h]
    simp
  conv => lhs; rw [e, val_append]
  rw [List.length_take, Nat.min_eq_left (by omega)]
  rfl

theorem val_lt_at {a b : List Int} (ha : Valid a) (hb : Valid b) (hl : a.length = b.length) {i : Nat} (hi : i < a.length) (hd : a.drop (i + 1) = b.drop (i + 1)) (h : a.getD i 0 < b.getD i 0) : val a < val b := by
  rw [val_split a i hi, val_split b i (by omega), hd]
  have h1 := val_lt_pow (ha.take i)
  have h2 := val_nonneg (hb.take i)
  rw [List.length_take, Nat.min_eq_left (by omega)] at h1
  have h3 : (65536 : Int) ^ i * (a.getD i 0 + 65536 * val (b.drop (i + 1)) + 1) ≤ 65536 ^ i * (b.getD i 0 + 65536 * val (b.drop (i + 1))) := Int.mul_le_mul_of_nonneg_left (by omega) (Int.le_of_lt (pow_pos i))
  rw [Int.mul_add _ _ 1, Int.mul_one] at h3
  omega

theorem drop_eq_step {a b : List Int} {i : Nat} (hl : a.length = b.length) (hi : i < a.length) (hd : a.drop (i + 1) = b.drop (i + 1)) (h : a.getD i 0 = b.getD i 0) : a.drop i = b.drop i := by
  rw [List.getD, List.getD, List.getElem?_eq_getElem hi, List.getElem?_eq_getElem (by omega)] at h
  rw [List.drop_eq_getElem_cons hi, List.drop_eq_getElem_cons (by omega : i < b.length), hd]
  simp only [Option.getD_some] at h
  rw [h]

def cmpN (x y : Nat) : Int := if x < y then -1 else if y < x then 1 else 0

theorem pow2_le {b : Nat} (h : b < 16) : (1 : Int) ≤ 2 ^ b ∧ (2 : Int) ^ b ≤ 32768 := by
  have : b = 0 ∨ b = 1 ∨ b = 2 ∨ b = 3 ∨ b = 4 ∨ b = 5 ∨ b = 6 ∨ b = 7 ∨ b = 8 ∨ b = 9 ∨ b = 10 ∨ b = 11 ∨ b = 12 ∨ b = 13 ∨ b = 14 ∨ b = 15 := by omega
  rcases this with h | h | h | h | h | h | h | h | h | h | h | h | h | h | h | h <;> subst h <;> decide

theorem shift_bound {x p : Int} (hx : 0 ≤ x ∧ x < 65536) (hp : 1 ≤ p ∧ p ≤ 32768) : 0 ≤ x * p ∧ x * p ≤ 2147450880 := by
  refine ⟨Int.mul_nonneg hx.1 (by omega), ?_⟩
  have h1 : x * p ≤ 65535 * p := Int.mul_le_mul_of_nonneg_right (by omega) (by omega)
  omega

theorem up_step {out : List Int} {q i : Nat} {carry x p W c : Int} (h : val out + carry * 65536 ^ (q + i) = W * p * 65536 ^ q) (hl : out.length = q + i) (hc : c = carry + x * p) :
    val (out ++ [c % 65536]) + (c / 65536) * 65536 ^ (q + (i + 1)) = (W + 65536 ^ i * x) * p * 65536 ^ q := by
  rw [val_snoc, hl]
  have e1 : (65536 : Int) ^ (q + (i + 1)) = 65536 ^ (q + i) * 65536 := by rw [← Nat.add_assoc, Int.pow_succ]
  have e2 : (65536 : Int) ^ (q + i) = 65536 ^ q * 65536 ^ i := by rw [Int.pow_add]
  have e3 : c = 65536 * (c / 65536) + c % 65536 := by omega
  rw [e1]
  generalize c / 65536 = u at *
  generalize c % 65536 = r at *
  generalize (65536 : Int) ^ (q + i) = z at *
  grind

theorem pow_split (k : Nat) : (2 : Int) ^ (k % 16) * 65536 ^ (k / 16) = 2 ^ k := by
  have e : (65536 : Int) = 2 ^ 16 := by decide
  rw [e, ← Int.pow_mul, ← Int.pow_add]
  congr 1
  omega

def bl (n : Nat) : Nat := if n = 0 then 0 else bl (n / 2) + 1
  termination_by n

theorem bl_zero : bl 0 = 0 := by rw [bl]; simp
theorem bl_pos {n : Nat} (h : n ≠ 0) : bl n = bl (n / 2) + 1 := by rw [bl]; simp [h]

theorem bl_le : ∀ (k n : Nat), bl n ≤ k ↔ n < 2 ^ k
  | 0, n => by
    by_cases h : n = 0
    · subst h; simp [bl_zero]
    · rw [bl_pos h]; simp; omega
  | k + 1, n => by
    by_cases h : n = 0
    · subst h; simp [bl_zero, Nat.two_pow_pos]
    · rw [bl_pos h, Nat.add_le_add_iff_right, bl_le k (n / 2), Nat.pow_succ]; omega

theorem bl_down : ∀ (k n : Nat), 2 ^ k ≤ n → bl n = bl (n / 2 ^ k) + k
  | 0, n, _ => by simp
  | k + 1, n, h => by
    have h1 : 2 ^ (k + 1) = 2 * 2 ^ k := by rw [Nat.pow_succ]; omega
    have h2 := Nat.two_pow_pos k
    rw [bl_pos (by omega), bl_down k (n / 2) (by omega), h1, Nat.div_div_eq_div_mul]
    omega

theorem bl_top : ∀ (n : Nat), n ≠ 0 → (bl n : Int) = 16 * ((dg n).length - 1) + bl ((dg n).getD ((dg n).length - 1) 0).toNat := by
  intro n
  induction n using Nat.strongRecOn with
  | ind n ih =>
    intro h
    rw [dg_pos h]
    by_cases h1 : n < 65536
    · have e1 : n / 65536 = 0 := by omega
      rw [e1, dg_zero]
      have e2 : n % 65536 = n := by omega
      rw [e2]
      simp
    · have h2 := ih (n / 65536) (by omega) (by omega)
      have h3 : 0 < (dg (n / 65536)).length := dg_ne_nil (by omega)
      have h4 := bl_down 16 n (by omega)
      rw [show (2 : Nat) ^ 16 = 65536 by decide] at h4
      rw [h4]
      have e : (((n % 65536 : Nat) : Int) :: dg (n / 65536)).length - 1 = ((dg (n / 65536)).length - 1) + 1 := by simp; omega
      rw [e, List.getD_cons_succ]
      simp only [List.length_cons]
      omega

theorem terms_cond {F k m : Nat} (hF : 0 < F) : ((k : Int) + bl F - 1 < m) ↔ F * 2 ^ k < 2 ^ m := by
  have h1 : 1 ≤ bl F := by rw [bl_pos (by omega)]; omega
  by_cases hk : k ≤ m
  · have e : (2 : Nat) ^ m = 2 ^ (m - k) * 2 ^ k := by rw [← Nat.pow_add]; congr 1; omega
    rw [e, Nat.mul_lt_mul_right (Nat.two_pow_pos k), ← bl_le]
    omega
  · have h2 : (2 : Nat) ^ m ≤ 2 ^ k := Nat.pow_le_pow_right (by omega) (by omega)
    have h3 : 1 * 2 ^ k ≤ F * 2 ^ k := Nat.mul_le_mul_right _ hF
    omega

def isT (m t : Nat) : Prop := 1 ≤ t ∧ t ≤ 100 ∧ 2 ^ m ≤ fac (t + 1) * 2 ^ t ∧ ∀ k, 1 ≤ k → k < t → fac (k + 1) * 2 ^ k < 2 ^ m

theorem least_from (p : Nat → Prop) : ∀ n, (∃ t, 1 ≤ t ∧ t ≤ n ∧ p t ∧ ∀ k, 1 ≤ k → k < t → ¬ p k) ∨ ∀ k, 1 ≤ k → k ≤ n → ¬ p k
  | 0 => .inr fun k h1 h2 => by omega
  | n + 1 => by
    rcases least_from p n with ⟨t, h1, h2, h3, h4⟩ | h
    · exact .inl ⟨t, h1, by omega, h3, h4⟩
    · by_cases hp : p (n + 1)
      · exact .inl ⟨n + 1, by omega, Nat.le_refl _, hp, fun k h1 h2 => h k h1 (by omega)⟩
      · refine .inr fun k h1 h2 => ?_
        by_cases he : k = n + 1
        · subst he; exact hp
        · exact h k h1 (by omega)

theorem big_fac : 2 ^ 400 ≤ fac 101 * 2 ^ 100 := by decide +kernel

theorem exists_T {m : Nat} (h : m ≤ 400) : ∃ t, isT m t := by
  have h0 : 2 ^ m ≤ fac 101 * 2 ^ 100 := Nat.le_trans (Nat.pow_le_pow_right (by omega) h) big_fac
  rcases least_from (fun k => 2 ^ m ≤ fac (k + 1) * 2 ^ k) 100 with ⟨t, h1, h2, h3, h4⟩ | hn
  · exact ⟨t, h1, h2, h3, fun k a b => by have := h4 k a b; omega⟩
  · exact absurd h0 (hn 100 (by omega) (Nat.le_refl _))

theorem fac_up_len {k : Nat} (h : k ≤ 100) : (dg (fac (k + 1) * 2 ^ k)).length ≤ 1000 := by
  refine dg_len_le 1000 _ ?_
  have h1 := fac_mono (m := k + 1) (n := 200) (by omega)
  have h2 : (2 : Nat) ^ k ≤ 2 ^ 100 := Nat.pow_le_pow_right (by omega) h
  have h3 : fac (k + 1) * 2 ^ k ≤ fac 200 * 2 ^ 100 := Nat.mul_le_mul h1 h2
  have h4 : fac 200 * 2 ^ 100 < 65536 ^ 1000 := by decide +kernel
  omega

end Go.Dg
