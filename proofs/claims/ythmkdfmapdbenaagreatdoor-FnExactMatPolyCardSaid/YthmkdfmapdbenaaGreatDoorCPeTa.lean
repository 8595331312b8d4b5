/- Plain laws: matrices without a row and a column, determinants. -/
import Derived.Test.YthmkdfmapdbenaaGreatDoorCEvD
set_option linter.unusedSimpArgs false
set_option linter.unusedVariables false
namespace Go.Pe
open Go Go.Dg

/-- the places of a matrix without a row and a column -/
def idxL (n r c : Nat) : List Nat := (List.range (n * n)).filter fun k => k / n != r && k % n != c

theorem idxL_lt {n r c k : Nat} (h : k ∈ idxL n r c) : k < n * n := List.mem_range.1 (List.mem_filter.1 h).1

theorem idxL_len {n r c : Nat} (h4 : n ≤ 4) (hr : r < n) (hc : c < n) : (idxL n r c).length = (n - 1) * (n - 1) := by
  have h : ∀ n : Fin 5, ∀ r : Fin 4, ∀ c : Fin 4, r.1 < n.1 → c.1 < n.1 → (idxL n.1 r.1 c.1).length = (n.1 - 1) * (n.1 - 1) := by decide +kernel
  exact h ⟨n, by omega⟩ ⟨r, by omega⟩ ⟨c, by omega⟩ hr hc

theorem idxL_get {n r c k : Nat} (h : k < (idxL n r c).length) : (idxL n r c).getD k 0 < n * n := by
  rw [List.getD, List.getElem?_eq_getElem h]
  exact idxL_lt (List.getElem_mem h)

/-- its numbers -/
def minorD (n r c : Nat) (d : Nat → Dyadic) (k : Nat) : Dyadic := d ((idxL n r c).getD k 0)

/-- its cells, as far as the places below m go -/
def minorP (n r c m : Nat) (ys : List Cell3) : List Cell3 := ((List.range m).filter fun k => k / n != r && k % n != c).map fun k => ys.getD k noY

/-- its cells -/
def minorL (n r c : Nat) (ys : List Cell3) : List Cell3 := (idxL n r c).map fun k => ys.getD k noY

theorem minorP_zero (n r c : Nat) (ys : List Cell3) : minorP n r c 0 ys = [] := rfl
theorem minorP_all (n r c : Nat) (ys : List Cell3) : minorP n r c (n * n) ys = minorL n r c ys := rfl
theorem minorP_len (n r c m : Nat) (ys : List Cell3) : (minorP n r c m ys).length ≤ m := by
  rw [minorP, List.length_map]
  exact Nat.le_trans (List.length_filter_le _ _) (by simp)

theorem minorP_succ {n r c i j : Nat} {ys : List Cell3} (hj : j < n) : minorP n r c (i * n + j + 1) ys = minorP n r c (i * n + j) ys ++ if i ≠ r ∧ j ≠ c then [ys.getD (i * n + j) noY] else [] := by
  have h1 : (i * n + j) / n = i := by rw [Nat.mul_comm, Nat.mul_add_div (by omega), Nat.div_eq_of_lt hj, Nat.add_zero]
  have h2 : (i * n + j) % n = j := by rw [Nat.mul_comm, Nat.mul_add_mod, Nat.mod_eq_of_lt hj]
  unfold minorP
  rw [List.range_succ, List.filter_append, List.map_append]
  congr 1
  by_cases h : i ≠ r ∧ j ≠ c
  · rw [if_pos h, List.filter_cons_of_pos (by rw [h1, h2]; simp [h.1, h.2])]; rfl
  · rw [if_neg h, List.filter_cons_of_neg (by rw [h1, h2, Bool.and_eq_true, bne_iff_ne, bne_iff_ne]; exact h)]; rfl

theorem minorL_len {n r c : Nat} {ys : List Cell3} : (minorL n r c ys).length = (idxL n r c).length := by simp [minorL]

theorem minorL_get {n r c k : Nat} {ys : List Cell3} (h : k < (idxL n r c).length) : (minorL n r c ys).getD k noY = ys.getD ((idxL n r c).getD k 0) noY := by
  simp [minorL, List.getD, h]

theorem minor_XL {n r c L E : Nat} {d : Nat → Dyadic} {ys : List Cell3} (h : XL d L E ys) (hy : ys.length = n * n) : XL (minorD n r c d) L E (minorL n r c ys) := by
  intro k hk
  rw [minorL_len] at hk
  rw [minorL_get hk]
  exact h _ (by rw [hy]; exact idxL_get hk)

theorem minor_CL {n r c a b : Nat} {d : Nat → Dyadic} {ys : List Cell3} (h : CL a b d ys) (hy : ys.length = n * n) : CL a b (minorD n r c d) (minorL n r c ys) := by
  intro k hk
  rw [minorL_len] at hk
  rw [minorL_get hk]
  exact h _ (by rw [hy]; exact idxL_get hk)

/-- a number, its sign turned where a number is odd -/
def sgnD (k : Nat) (d : Dyadic) : Dyadic := if k % 2 = 1 then -d else d

/-- the determinant, by the first row -/
def detD : Nat → (Nat → Dyadic) → Dyadic
  | 0, _ => 1
  | n + 1, d => psum (fun j => sgnD j (d j * detD n (minorD (n + 1) 0 j d))) (n + 1)

theorem detD_one (d : Nat → Dyadic) : detD 1 d = d 0 := by
  show (0 : Dyadic) + sgnD 0 (d 0 * 1) = d 0
  show (0 : Dyadic) + d 0 * 1 = d 0
  grind

theorem Mg.sgn {a b k : Nat} {d : Dyadic} (h : Mg a b d) : Mg a b (sgnD k d) := by
  unfold sgnD; split
  · exact h.neg
  · exact h

theorem Mg_one : Mg 0 1 1 := ⟨1, by show (1 : Dyadic) = mk 1 0; rfl, by decide⟩

theorem Mg.det {a b : Nat} : ∀ {n : Nat} {d : Nat → Dyadic}, n ≤ 4 → (∀ k, k < n * n → Mg a b (d k)) → Mg (n * a) (n * (b + 4) + 1) (detD n d)
  | 0, d, _, _ => by
    rw [Nat.zero_mul, Nat.zero_mul]; exact Mg_one
  | n + 1, d, h4, h => by
    have ht : ∀ j, j < n + 1 → Mg (a + n * a) (b + (n * (b + 4) + 1)) (sgnD j (d j * detD n (minorD (n + 1) 0 j d))) := by
      intro j hj
      refine Mg.sgn (Mg.mul (h j ?_) (Mg.det (by omega) fun k hk => ?_))
      · exact Nat.lt_of_lt_of_le hj (Nat.le_mul_of_pos_right _ (by omega))
      · refine h _ (idxL_get ?_)
        rw [idxL_len h4 (by omega) hj]; exact hk
    refine (Mg.psum (f := fun j => sgnD j (d j * detD n (minorD (n + 1) 0 j d))) (n := n + 1) ht (n + 1) (Nat.le_refl _)).mono ?_ ?_
    · rw [Nat.add_mul, Nat.one_mul]; omega
    · rw [Nat.add_mul n 1 (b + 4), Nat.one_mul]; omega

theorem cZ_neg (d : Dyadic) : cZ (-d) = -cZ d := by
  cases d <;> rfl

theorem cE_neg (d : Dyadic) : cE (-d) = cE d := by
  cases d <;> rfl

theorem canY_neg (d : Dyadic) : canY (-d) = (decide (0 < cZ d), dg (cZ d).natAbs, cE d) := by
  unfold canY
  rw [cZ_neg, cE_neg, Int.natAbs_neg]
  congr 1
  rw [decide_eq_decide]; omega

theorem X_neg {d : Dyadic} {L E : Nat} {y : Cell3} {s : Bool} (h : X d L E y) (hs : ∀ z : Int, y.1 = decide (z < 0) → y.2.1 = dg z.natAbs → s = decide (0 < z)) : X (-d) L E (s, y.2.1, y.2.2) := by
  obtain ⟨z, h1, h2, h3, h4, h5⟩ := h
  refine ⟨-z, ?_, by rw [Int.natAbs_neg]; exact h2, by rw [h3, mk_neg], by rw [Int.natAbs_neg]; exact h4, h5⟩
  show s = _
  rw [hs z h1 h2, decide_eq_decide]; omega

end Go.Pe
