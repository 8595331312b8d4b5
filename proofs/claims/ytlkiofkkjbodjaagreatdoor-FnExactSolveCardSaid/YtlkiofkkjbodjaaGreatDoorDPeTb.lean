/- Plain laws: the adjugate, the identity, as lists of cells that are filled place by place. -/
import Derived.Test.YtlkiofkkjbodjaaGreatDoorDEvD
set_option linter.unusedSimpArgs false
set_option linter.unusedVariables false
namespace Go.Pe
open Go Go.Dg

def isRt (a r : Nat) : Prop := r * r ≤ a ∧ a < (r + 1) * (r + 1)

theorem isRt_unique {a r s : Nat} (h : isRt a r) (g : isRt a s) : r = s := by
 rcases Nat.lt_trichotomy r s with h1 | h1 | h1
 ·have := Nat.mul_le_mul (show r + 1 ≤ s from h1) (show r + 1 ≤ s from h1)
  have h2 := h.2
  have g1 := g.1
  omega
 ·exact h1
 ·have := Nat.mul_le_mul (show s + 1 ≤ r from h1) (show s + 1 ≤ r from h1)
  have h2 := g.2
  have g1 := h.1
  omega

end Go.Pe

set_option linter.unusedSimpArgs false
set_option linter.unusedVariables false
namespace Go.Pe
open Go Go.Dg

theorem rt_ex (a : Nat) : ∃ r, isRt a r := by
 have key : ∀ n r : Nat, r * r ≤ a → a < (r + n + 1) * (r + n + 1) → ∃ r, isRt a r := by
  intro n
  induction n with
  | zero => intro r h1 h2; exact ⟨r, h1, h2⟩
  | succ n ih =>
   intro r h1 h2
   by_cases h : a < (r + 1) * (r + 1)
   ·exact ⟨r, h1, h⟩
   ·exact ih (r + 1) (by omega) (by rw [show r + 1 + n + 1 = r + (n + 1) + 1 by omega]; exact h2)
 refine key a 0 (Nat.zero_le _) ?_
 have : a + 1 ≤ (0 + a + 1) * (0 + a + 1) := by rw [Nat.zero_add]; exact Nat.le_mul_of_pos_right _ (by omega)
 omega

noncomputable def rtN (a : Nat) : Nat := Classical.choose (rt_ex a)
theorem rtN_spec (a : Nat) : isRt a (rtN a) := Classical.choose_spec (rt_ex a)
theorem rtN_zero : rtN 0 = 0 := isRt_unique (rtN_spec 0) ⟨Nat.le_refl _, by decide⟩
theorem rtN_le (a : Nat) : rtN a ≤ a := by
 have h := (rtN_spec a).1
 rcases Nat.eq_zero_or_pos (rtN a) with h0 | h0
 ·omega
 ·exact Nat.le_trans (Nat.le_mul_of_pos_right _ h0) h

end Go.Pe

set_option linter.unusedSimpArgs false
set_option linter.unusedVariables false
namespace Go.Pe
open Go Go.Dg

theorem range_set {N k : Nat} (f : Nat → Cell3) (y : Cell3) (hk : k < N) : ((List.range N).map f).set k y = (List.range N).map fun a => if a = k then y else f a := by
 refine List.ext_getElem (by simp) fun a h1 h2 => ?_
 rw [List.getElem_set]
 simp only [List.getElem_map, List.getElem_range]
 by_cases h : a = k
 ·subst h; simp
 ·rw [if_neg (fun e => h e.symm), if_neg h]

theorem range_ext {N : Nat} {f g : Nat → Cell3} (h : ∀ k, k < N → f k = g k) : (List.range N).map f = (List.range N).map g :=
 List.map_congr_left fun k hk => h k (List.mem_range.1 hk)

theorem place_eq {n i j k : Nat} (hj : j < n) : k = i * n + j ↔ k / n = i ∧ k % n = j := by
 constructor
 ·rintro rfl
  exact ⟨by rw [Nat.mul_comm, Nat.mul_add_div (by omega), Nat.div_eq_of_lt hj, Nat.add_zero], by rw [Nat.mul_comm, Nat.mul_add_mod, Nat.mod_eq_of_lt hj]⟩
 ·rintro ⟨rfl, rfl⟩
  rw [Nat.mul_comm]; exact (Nat.div_add_mod k n).symm

def idD (w k : Nat) : Dyadic := if k / w = k % w then 1 else 0

noncomputable def idP (w m : Nat) : List Cell3 := (List.range (w * w)).map fun k => if k / w = k % w ∧ k / w < m then canY 1 else noY

theorem idP_len (w m : Nat) : (idP w m).length = w * w := by simp [idP]
theorem idP_zero (w : Nat) : idP w 0 = List.replicate (w * w) noY := by simp [idP, List.map_const']
theorem idP_succ {w m : Nat} (h : m < w) : (idP w m).set (m * w + m) (canY 1) = idP w (m + 1) := by
 rw [idP, range_set _ _ (place_lt h h), idP]
 refine range_ext fun k hk => ?_
 by_cases he : k = m * w + m
 ·have := (place_eq h).1 he
  rw [if_pos he, if_pos ⟨by omega, by omega⟩]
 ·rw [if_neg he]
  have h1 : ¬(k / w = m ∧ k % w = m) := fun e => he ((place_eq h).2 e)
  by_cases hc : k / w = k % w ∧ k / w < m
  ·rw [if_pos hc, if_pos ⟨hc.1, by omega⟩]
  ·rw [if_neg hc, if_neg (by omega)]
theorem idP_all (w : Nat) : idP w w = canL (idD w) (w * w) := by
 refine range_ext fun k hk => ?_
 obtain ⟨h1, _, _⟩ := place hk
 unfold idD
 by_cases hc : k / w = k % w
 ·rw [if_pos ⟨hc, h1⟩, if_pos hc]
 ·rw [if_neg (fun e => hc e.1), if_neg hc, canY_zero]

def adjD (w : Nat) (d : Nat → Dyadic) (k : Nat) : Dyadic := sgnD (k % w + k / w) (detD (w - 1) (minorD w (k % w) (k / w) d))

noncomputable def adjP (w : Nat) (d : Nat → Dyadic) (i j : Nat) : List Cell3 := (List.range (w * w)).map fun k => if k % w < i ∨ k % w = i ∧ k / w < j then canY (adjD w d k) else noY

theorem adjP_len (w : Nat) (d : Nat → Dyadic) (i j : Nat) : (adjP w d i j).length = w * w := by simp [adjP]
theorem adjP_zero (w : Nat) (d : Nat → Dyadic) : adjP w d 0 0 = List.replicate (w * w) noY := by simp [adjP, List.map_const']
theorem adjP_succ {w : Nat} {d : Nat → Dyadic} {i j : Nat} (hi : i < w) (hj : j < w) : (adjP w d i j).set (j * w + i) (canY (sgnD (i + j) (detD (w - 1) (minorD w i j d)))) = adjP w d i (j + 1) := by
 rw [adjP, range_set _ _ (place_lt hj hi), adjP]
 refine range_ext fun k hk => ?_
 by_cases he : k = j * w + i
 ·obtain ⟨h1, h2⟩ := (place_eq hi).1 he
  rw [if_pos he, if_pos (.inr ⟨h2, by omega⟩), adjD, h1, h2]
 ·rw [if_neg he]
  have h1 : ¬(k / w = j ∧ k % w = i) := fun e => he ((place_eq hi).2 e)
  by_cases hc : k % w < i ∨ k % w = i ∧ k / w < j
  ·rw [if_pos hc, if_pos (by omega)]
  ·rw [if_neg hc, if_neg (by omega)]
theorem adjP_row (w : Nat) (d : Nat → Dyadic) (i : Nat) : adjP w d i w = adjP w d (i + 1) 0 := by
 refine range_ext fun k hk => ?_
 obtain ⟨h1, _, _⟩ := place hk
 have h : (k % w < i ∨ k % w = i ∧ k / w < w) ↔ (k % w < i + 1 ∨ k % w = i + 1 ∧ k / w < 0) := by
  constructor
  ·rintro (h | ⟨h, _⟩)
   ·exact .inl (Nat.lt_succ_of_lt h)
   ·exact .inl (h ▸ Nat.lt_succ_self _)
  ·rintro (h | ⟨_, h⟩)
   ·rcases Nat.lt_or_eq_of_le (Nat.le_of_lt_succ h) with h | h
    ·exact .inl h
    ·exact .inr ⟨h, h1⟩
   ·exact absurd h (Nat.not_lt_zero _)
 by_cases hc : k % w < i ∨ k % w = i ∧ k / w < w
 ·rw [if_pos hc, if_pos (h.1 hc)]
 ·rw [if_neg hc, if_neg (fun e => hc (h.2 e))]

theorem adjP_all (w : Nat) (d : Nat → Dyadic) : adjP w d w 0 = canL (adjD w d) (w * w) := by
 refine range_ext fun k hk => ?_
 obtain ⟨_, h2, _⟩ := place hk
 rw [if_pos (.inl h2)]

theorem Mg.minor {w r c : Nat} {d : Nat → Dyadic} (hw4 : w ≤ 4) (hr : r < w) (hc : c < w) (hm : ∀ k, k < w * w → Mg 3000 4600 (d k)) : Mg 9000 13813 (detD (w - 1) (minorD w r c d)) := by
 refine (Mg.det (a := 3000) (b := 4600) (n := w - 1) (by omega) fun k hk => hm _ (idxL_get ?_)).mono (by omega) (by omega)
 rw [idxL_len hw4 hr hc]; exact hk

theorem Mg.adj {w k : Nat} {d : Nat → Dyadic} (hw4 : w ≤ 4) (hk : k < w * w) (hm : ∀ k, k < w * w → Mg 3000 4600 (d k)) : Mg 9000 13813 (adjD w d k) := by
 obtain ⟨h1, h2, _⟩ := place hk
 exact (Mg.minor hw4 h2 h1 hm).sgn

end Go.Pe

