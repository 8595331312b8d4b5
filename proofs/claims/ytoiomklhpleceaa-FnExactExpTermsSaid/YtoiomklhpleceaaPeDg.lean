/- Numbers as lists of digits to the base 65536: plain laws, no condition. -/
namespace Go.Dg

def val : List Int → Int
  | [] => 0
  | x :: r => x + 65536 * val r

def Valid (l : List Int) : Prop := ∀ x ∈ l, 0 ≤ x ∧ x < 65536

def dg (n : Nat) : List Int := if n = 0 then [] else ((n % 65536 : Nat) : Int) :: dg (n / 65536)
  termination_by n

theorem dg_zero : dg 0 = [] := by rw [dg]; simp
theorem dg_pos {n : Nat} (h : n ≠ 0) : dg n = ((n % 65536 : Nat) : Int) :: dg (n / 65536) := by rw [dg]; simp [h]

theorem Valid.tail {x : Int} {r : List Int} (h : Valid (x :: r)) : Valid r := fun y hy => h y (List.mem_cons_of_mem _ hy)
theorem Valid.head {x : Int} {r : List Int} (h : Valid (x :: r)) : 0 ≤ x ∧ x < 65536 := h x (by simp)
theorem Valid.nil : Valid [] := fun x hx => by simp at hx
theorem Valid.cons {x : Int} {r : List Int} (h0 : 0 ≤ x) (h1 : x < 65536) (h : Valid r) : Valid (x :: r) := by
  intro y hy
  rcases List.mem_cons.1 hy with rfl | hy
  · exact ⟨h0, h1⟩
  · exact h y hy
theorem Valid.append {l r : List Int} (h : Valid l) (h' : Valid r) : Valid (l ++ r) := fun x hx => (List.mem_append.1 hx).elim (h x) (h' x)
theorem Valid.one {x : Int} (h0 : 0 ≤ x) (h1 : x < 65536) : Valid [x] := Valid.cons h0 h1 Valid.nil
theorem Valid.set {l : List Int} {k : Nat} {x : Int} (h : Valid l) (h0 : 0 ≤ x) (h1 : x < 65536) : Valid (l.set k x) := fun y hy => by
  rcases List.mem_or_eq_of_mem_set hy with hy | rfl
  · exact h y hy
  · exact ⟨h0, h1⟩
theorem Valid.rep (n : Nat) : Valid (List.replicate n 0) := fun x hx => by rw [(List.mem_replicate.1 hx).2]; omega
theorem Valid.get {l : List Int} (h : Valid l) (k : Nat) : 0 ≤ l.getD k 0 ∧ l.getD k 0 < 65536 := by
  by_cases hk : k < l.length
  · rw [List.getD, List.getElem?_eq_getElem hk]
    exact h _ (List.getElem_mem hk)
  · rw [List.getD, List.getElem?_eq_none (by omega)]; exact ⟨by simp, by simp⟩
theorem Valid.take {l : List Int} (h : Valid l) (k : Nat) : Valid (l.take k) := fun x hx => h x (List.mem_of_mem_take hx)
theorem Valid.drop {l : List Int} (h : Valid l) (k : Nat) : Valid (l.drop k) := fun x hx => h x (List.mem_of_mem_drop hx)

theorem val_nonneg : ∀ {l : List Int}, Valid l → 0 ≤ val l
  | [], _ => by simp [val]
  | x :: r, h => by
    have := val_nonneg h.tail
    have := h.head
    simp only [val]; omega

theorem val_dg (n : Nat) : val (dg n) = n := by
  induction n using Nat.strongRecOn with
  | ind n ih =>
    by_cases h : n = 0
    · subst h; rw [dg_zero]; rfl
    · rw [dg_pos h, val, ih (n / 65536) (by omega)]; omega

theorem valid_dg (n : Nat) : Valid (dg n) := by
  induction n using Nat.strongRecOn with
  | ind n ih =>
    by_cases h : n = 0
    · subst h; rw [dg_zero]; exact Valid.nil
    · rw [dg_pos h]; exact Valid.cons (by omega) (by omega) (ih (n / 65536) (by omega))

def trimL : List Int → List Int
  | [] => []
  | x :: r => match trimL r with
    | [] => if x = 0 then [] else [x]
    | y :: t => x :: y :: t

theorem trim_dg : ∀ {l : List Int}, Valid l → trimL l = dg (val l).toNat
  | [], _ => by simp [trimL, val, dg_zero]
  | x :: r, h => by
    have ih := trim_dg h.tail
    have h0 := val_nonneg h.tail
    have hx := h.head
    simp only [trimL, val]
    by_cases hr : (val r).toNat = 0
    · rw [hr, dg_zero] at ih
      rw [ih]
      simp only
      have : val r = 0 := by omega
      split
      · rename_i hx0; subst hx0; rw [this]; simp [dg_zero]
      · rename_i hx0
        have e0 : (x + 65536 * val r).toNat ≠ 0 := by omega
        rw [dg_pos e0]
        have e1 : (x + 65536 * val r).toNat / 65536 = 0 := by omega
        rw [e1, dg_zero]
        congr 1
        omega
    · rw [dg_pos hr] at ih
      rw [ih]
      simp only
      have e0 : (x + 65536 * val r).toNat ≠ 0 := by omega
      rw [dg_pos e0]
      have e1 : (x + 65536 * val r).toNat / 65536 = (val r).toNat := by omega
      rw [e1, dg_pos hr]
      congr 1
      omega

theorem trimL_snoc0 : ∀ (l : List Int), trimL (l ++ [0]) = trimL l
  | [] => by simp [trimL]
  | x :: r => by simp only [List.cons_append, trimL, trimL_snoc0 r]

theorem trimL_snoc : ∀ (l : List Int) {x : Int}, x ≠ 0 → trimL (l ++ [x]) = l ++ [x]
  | [], x, h => by simp [trimL, h]
  | y :: r, x, h => by
    simp only [List.cons_append, trimL, trimL_snoc r h]
    cases r <;> rfl

theorem split_last {l : List Int} (h : 0 < l.length) : l = l.take (l.length - 1) ++ [l.getD (l.length - 1) 0] := by
  have hk : l.length - 1 < l.length := by omega
  rw [List.getD, List.getElem?_eq_getElem hk]
  simp only [Option.getD_some]
  rw [← List.take_succ_eq_append_getElem hk]
  rw [List.take_of_length_le (by omega)]

theorem trimL_last {l : List Int} (h : 0 < l.length) (hz : l.getD (l.length - 1) 0 ≠ 0) : trimL l = l := by
  rw [split_last h]; exact trimL_snoc _ hz
theorem trimL_take {l : List Int} (h : 0 < l.length) (hz : l.getD (l.length - 1) 0 = 0) : trimL (l.take (l.length - 1)) = trimL l := by
  conv => rhs; rw [split_last h, hz]
  exact (trimL_snoc0 _).symm
theorem trimL_len0 {l : List Int} (h : l.length = 0) : trimL l = l := by
  have : l = [] := List.length_eq_zero_iff.1 h
  subst this; rfl

theorem val_append (l r : List Int) : val (l ++ r) = val l + 65536 ^ l.length * val r := by
  induction l with
  | nil => simp [val]
  | cons x l ih =>
    simp only [List.cons_append, val, ih, List.length_cons, Int.pow_succ]
    rw [Int.mul_add, Int.mul_comm (65536 ^ l.length) 65536, Int.mul_assoc]
    omega
theorem val_snoc (l : List Int) (x : Int) : val (l ++ [x]) = val l + 65536 ^ l.length * x := by rw [val_append]; simp [val]

theorem val_rep (n : Nat) : val (List.replicate n 0) = 0 := by
  induction n with
  | zero => rfl
  | succ n ih => simp [List.replicate_succ, val, ih]

theorem val_set : ∀ (l : List Int) (k : Nat) (x : Int), k < l.length → val (l.set k x) = val l + 65536 ^ k * (x - l.getD k 0)
  | [], k, x, h => by simp at h
  | y :: r, 0, x, h => by simp [val]; omega
  | y :: r, k + 1, x, h => by
    simp only [List.set_cons_succ, val, val_set r k x (by simpa using h), List.getD_cons_succ, Int.pow_succ]
    rw [Int.mul_add, Int.mul_comm (65536 ^ k) 65536, Int.mul_assoc]
    omega

theorem val_take_succ {l : List Int} {k : Nat} (h : k < l.length) : val (l.take (k + 1)) = val (l.take k) + 65536 ^ k * l.getD k 0 := by
  rw [List.take_succ_eq_append_getElem h, val_snoc, List.length_take, Nat.min_eq_left (by omega), List.getD, List.getElem?_eq_getElem h]
  rfl

theorem pow_pos (k : Nat) : (0 : Int) < 65536 ^ k := Int.pow_pos (by decide)

theorem dg_len_le : ∀ (k n : Nat), n < 65536 ^ k → (dg n).length ≤ k
  | 0, n, h => by
    have : n = 0 := by simp at h; exact h
    subst this; rw [dg_zero]; simp
  | k + 1, n, h => by
    by_cases h0 : n = 0
    · subst h0; rw [dg_zero]; simp
    · rw [dg_pos h0]
      have := dg_len_le k (n / 65536) (by rw [Nat.pow_succ] at h; omega)
      simpa using this
theorem dg_len (n : Nat) (h : n ≤ 9223372036854775807) : (dg n).length ≤ 100 := by
  have := dg_len_le 4 n (by omega)
  omega

theorem mul_bound {x y : Int} (hx : 0 ≤ x ∧ x < 65536) (hy : 0 ≤ y ∧ y < 65536) : 0 ≤ x * y ∧ x * y ≤ 4294836225 := by
  refine ⟨Int.mul_nonneg hx.1 hy.1, ?_⟩
  have h1 : x * y ≤ 65535 * y := Int.mul_le_mul_of_nonneg_right (by omega) hy.1
  omega

theorem getD_set_ne {l : List Int} {k q : Nat} {x : Int} (h : k ≠ q) : (l.set k x).getD q 0 = l.getD q 0 := by
  simp only [List.getD, List.getElem?_set, if_neg h]

theorem mul_inner {out : List Int} {i j : Nat} {carry x y V W c : Int} (h : val out + carry * 65536 ^ (i + j) = V + x * W * 65536 ^ i) (hk : i + j < out.length)
    (hc : c = carry + (out.getD (i + j) 0 + x * y)) : val (out.set (i + j) (c % 65536)) + (c / 65536) * 65536 ^ (i + (j + 1)) = V + x * (W + 65536 ^ j * y) * 65536 ^ i := by
  rw [val_set _ _ _ hk]
  have e1 : (65536 : Int) ^ (i + (j + 1)) = 65536 ^ (i + j) * 65536 := by rw [← Nat.add_assoc, Int.pow_succ]
  have e2 : (65536 : Int) ^ (i + j) = 65536 ^ i * 65536 ^ j := by rw [Int.pow_add]
  have e3 : c = 65536 * (c / 65536) + c % 65536 := by omega
  rw [e1]
  generalize c / 65536 = q at *
  generalize c % 65536 = r at *
  generalize (65536 : Int) ^ (i + j) = p at *
  grind

theorem mul_outer {out : List Int} {i n : Nat} {carry x V W Z : Int} (h : val out + carry * 65536 ^ (i + n) = V + x * W * 65536 ^ i) (hV : V = Z * W) (hk : i + n < out.length)
    (h0 : out.getD (i + n) 0 = 0) : val (out.set (i + n) carry) = (Z + 65536 ^ i * x) * W := by
  rw [val_set _ _ _ hk, h0]
  grind

def fac : Nat → Nat
  | 0 => 1
  | n + 1 => (n + 1) * fac n

theorem fac_pos : ∀ n, 0 < fac n
  | 0 => by simp [fac]
  | n + 1 => by simp only [fac]; exact Nat.mul_pos (by omega) (fac_pos n)

theorem fac_mono : ∀ {m n : Nat}, m ≤ n → fac m ≤ fac n
  | m, 0, h => by have : m = 0 := by omega
                  subst this; exact Nat.le_refl _
  | m, n + 1, h => by
    by_cases he : m = n + 1
    · subst he; exact Nat.le_refl _
    · have := fac_mono (m := m) (n := n) (by omega)
      simp only [fac]
      have h2 : 1 * fac n ≤ (n + 1) * fac n := Nat.mul_le_mul_right _ (by omega)
      omega

theorem fac200 : fac 200 < 65536 ^ 80 := by decide +kernel

theorem fac_len {n : Nat} (h : n ≤ 200) : (dg (fac n)).length ≤ 80 := dg_len_le 80 _ (Nat.lt_of_le_of_lt (fac_mono h) fac200)

theorem dg_ne_nil {n : Nat} (h : 0 < n) : 0 < (dg n).length := by rw [dg_pos (by omega)]; simp

def up1 (k : Int) : Nat → List Int
  | 0 => []
  | n + 1 => up1 k n ++ [k + n]

theorem up1_len (k : Int) : ∀ n, (up1 k n).length = n
  | 0 => rfl
  | n + 1 => by simp [up1, up1_len k n]

theorem up1_get (k : Int) : ∀ (n j : Nat), j < n → (up1 k n).getD j 0 = k + j
  | 0, j, h => by omega
  | n + 1, j, h => by
    simp only [up1, List.getD]
    by_cases hj : j < n
    · rw [List.getElem?_append_left (by rw [up1_len]; exact hj)]
      exact up1_get k n j hj
    · have : j = n := by omega
      subst this
      rw [List.getElem?_append_right (by rw [up1_len]; omega), up1_len]
      simp

theorem ext_getD {l r : List Int} (h : l.length = r.length) (hg : ∀ j, j < l.length → l.getD j 0 = r.getD j 0) : l = r := by
  apply List.ext_getElem h
  intro j h1 h2
  have := hg j h1
  rwa [List.getD, List.getD, List.getElem?_eq_getElem h1, List.getElem?_eq_getElem h2] at this

theorem getD_set_eq {l : List Int} {k : Nat} {x : Int} (h : k < l.length) : (l.set k x).getD k 0 = x := by
  simp [List.getD, h]

end Go.Dg
