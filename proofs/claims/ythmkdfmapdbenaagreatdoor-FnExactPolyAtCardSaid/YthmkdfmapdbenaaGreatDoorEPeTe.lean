/- Plain laws: a polynomial at a matrix: sums of powers, and by Horner's scheme. -/
import Derived.Test.YthmkdfmapdbenaaGreatDoorEEvD
set_option linter.unusedSimpArgs false
set_option linter.unusedVariables false
namespace Go.Pe
open Go Go.Dg

/-- the places of a matrix without a row and a column -/
def idxL (n r c : Nat) : List Nat := (List.range (n * n)).filter fun k => k / n != r && k % n != c

/-- its numbers -/
def minorD (n r c : Nat) (d : Nat → Dyadic) (k : Nat) : Dyadic := d ((idxL n r c).getD k 0)

/-- its cells, as far as the places below m go -/
def minorP (n r c m : Nat) (ys : List Cell3) : List Cell3 := ((List.range m).filter fun k => k / n != r && k % n != c).map fun k => ys.getD k noY

/-- its cells -/
def minorL (n r c : Nat) (ys : List Cell3) : List Cell3 := (idxL n r c).map fun k => ys.getD k noY

theorem minorP_zero (n r c : Nat) (ys : List Cell3) : minorP n r c 0 ys = [] := rfl
theorem minorP_all (n r c : Nat) (ys : List Cell3) : minorP n r c (n * n) ys = minorL n r c ys := rfl
theorem minorP_len (n r c m : Nat) (ys : List Cell3) : (minorP n r c m ys).length ≤ m := by
  rw [minorP, List.length_map]
  exact Nat.le_trans (List.length_filter_le _ _) (by simp)

/-- a number, its sign turned where a number is odd -/
def sgnD (k : Nat) (d : Dyadic) : Dyadic := if k % 2 = 1 then -d else d

/-- the determinant, by the first row -/
def detD : Nat → (Nat → Dyadic) → Dyadic
  | 0, _ => 1
  | n + 1, d => psum (fun j => sgnD j (d j * detD n (minorD (n + 1) 0 j d))) (n + 1)

theorem Mg.sgn {a b k : Nat} {d : Dyadic} (h : Mg a b d) : Mg a b (sgnD k d) := by
  unfold sgnD; split
  · exact h.neg
  · exact h

theorem Mg_one : Mg 0 1 1 := ⟨1, by show (1 : Dyadic) = mk 1 0; rfl, by decide⟩

end Go.Pe

set_option linter.unusedSimpArgs false
set_option linter.unusedVariables false
namespace Go.Pe
open Go Go.Dg

theorem range_set {N k : Nat} (f : Nat → Cell3) (y : Cell3) (hk : k < N) : ((List.range N).map f).set k y = (List.range N).map fun a => if a = k then y else f a := by
  refine List.ext_getElem (by simp) fun a h1 h2 => ?_
  rw [List.getElem_set]
  simp only [List.getElem_map, List.getElem_range]
  by_cases h : a = k
  · subst h; simp
  · rw [if_neg (fun e => h e.symm), if_neg h]

theorem range_ext {N : Nat} {f g : Nat → Cell3} (h : ∀ k, k < N → f k = g k) : (List.range N).map f = (List.range N).map g :=
  List.map_congr_left fun k hk => h k (List.mem_range.1 hk)

theorem place_eq {n i j k : Nat} (hj : j < n) : k = i * n + j ↔ k / n = i ∧ k % n = j := by
  constructor
  · rintro rfl
    exact ⟨by rw [Nat.mul_comm, Nat.mul_add_div (by omega), Nat.div_eq_of_lt hj, Nat.add_zero], by rw [Nat.mul_comm, Nat.mul_add_mod, Nat.mod_eq_of_lt hj]⟩
  · rintro ⟨rfl, rfl⟩
    rw [Nat.mul_comm]; exact (Nat.div_add_mod k n).symm

/-- the numbers of the identity -/
def idD (w k : Nat) : Dyadic := if k / w = k % w then 1 else 0

/-- the identity, its first m rows filled -/
noncomputable def idP (w m : Nat) : List Cell3 := (List.range (w * w)).map fun k => if k / w = k % w ∧ k / w < m then canY 1 else noY

theorem idP_len (w m : Nat) : (idP w m).length = w * w := by simp [idP]
theorem idP_zero (w : Nat) : idP w 0 = List.replicate (w * w) noY := by simp [idP, List.map_const']
theorem idP_succ {w m : Nat} (h : m < w) : (idP w m).set (m * w + m) (canY 1) = idP w (m + 1) := by
  rw [idP, range_set _ _ (place_lt h h), idP]
  refine range_ext fun k hk => ?_
  by_cases he : k = m * w + m
  · have := (place_eq h).1 he
    rw [if_pos he, if_pos ⟨by omega, by omega⟩]
  · rw [if_neg he]
    have h1 : ¬(k / w = m ∧ k % w = m) := fun e => he ((place_eq h).2 e)
    by_cases hc : k / w = k % w ∧ k / w < m
    · rw [if_pos hc, if_pos ⟨hc.1, by omega⟩]
    · rw [if_neg hc, if_neg (by omega)]
theorem idP_all (w : Nat) : idP w w = canL (idD w) (w * w) := by
  refine range_ext fun k hk => ?_
  obtain ⟨h1, _, _⟩ := place hk
  unfold idD
  by_cases hc : k / w = k % w
  · rw [if_pos ⟨hc, h1⟩, if_pos hc]
  · rw [if_neg (fun e => hc e.1), if_neg hc, canY_zero]

/-- the numbers of the adjugate -/
def adjD (w : Nat) (d : Nat → Dyadic) (k : Nat) : Dyadic := sgnD (k % w + k / w) (detD (w - 1) (minorD w (k % w) (k / w) d))

/-- the adjugate, filled column by column: i columns, and j places of the next -/
noncomputable def adjP (w : Nat) (d : Nat → Dyadic) (i j : Nat) : List Cell3 := (List.range (w * w)).map fun k => if k % w < i ∨ k % w = i ∧ k / w < j then canY (adjD w d k) else noY

theorem adjP_len (w : Nat) (d : Nat → Dyadic) (i j : Nat) : (adjP w d i j).length = w * w := by simp [adjP]
theorem adjP_zero (w : Nat) (d : Nat → Dyadic) : adjP w d 0 0 = List.replicate (w * w) noY := by simp [adjP, List.map_const']
theorem adjP_succ {w : Nat} {d : Nat → Dyadic} {i j : Nat} (hi : i < w) (hj : j < w) : (adjP w d i j).set (j * w + i) (canY (sgnD (i + j) (detD (w - 1) (minorD w i j d)))) = adjP w d i (j + 1) := by
  rw [adjP, range_set _ _ (place_lt hj hi), adjP]
  refine range_ext fun k hk => ?_
  by_cases he : k = j * w + i
  · obtain ⟨h1, h2⟩ := (place_eq hi).1 he
    rw [if_pos he, if_pos (.inr ⟨h2, by omega⟩), adjD, h1, h2]
  · rw [if_neg he]
    have h1 : ¬(k / w = j ∧ k % w = i) := fun e => he ((place_eq hi).2 e)
    by_cases hc : k % w < i ∨ k % w = i ∧ k / w < j
    · rw [if_pos hc, if_pos (by omega)]
    · rw [if_neg hc, if_neg (by omega)]
theorem adjP_row (w : Nat) (d : Nat → Dyadic) (i : Nat) : adjP w d i w = adjP w d (i + 1) 0 := by
  refine range_ext fun k hk => ?_
  obtain ⟨h1, _, _⟩ := place hk
  have h : (k % w < i ∨ k % w = i ∧ k / w < w) ↔ (k % w < i + 1 ∨ k % w = i + 1 ∧ k / w < 0) := by
    constructor
    · rintro (h | ⟨h, _⟩)
      · exact .inl (Nat.lt_succ_of_lt h)
      · exact .inl (h ▸ Nat.lt_succ_self _)
    · rintro (h | ⟨_, h⟩)
      · rcases Nat.lt_or_eq_of_le (Nat.le_of_lt_succ h) with h | h
        · exact .inl h
        · exact .inr ⟨h, h1⟩
      · exact absurd h (Nat.not_lt_zero _)
  by_cases hc : k % w < i ∨ k % w = i ∧ k / w < w
  · rw [if_pos hc, if_pos (h.1 hc)]
  · rw [if_neg hc, if_neg (fun e => hc (h.2 e))]

end Go.Pe

set_option linter.unusedSimpArgs false
set_option linter.unusedVariables false
namespace Go.Pe
open Go Go.Dg

/-- some numbers of a list, by their places -/
def pickD (I : List Nat) (d : Nat → Dyadic) (k : Nat) : Dyadic := d (I.getD k 0)
def pickL (I : List Nat) (ys : List Cell3) : List Cell3 := I.map fun k => ys.getD k noY

theorem pickL_len (I : List Nat) (ys : List Cell3) : (pickL I ys).length = I.length := by simp [pickL]
theorem pickL_get {I : List Nat} {ys : List Cell3} {k : Nat} (h : k < I.length) : (pickL I ys).getD k noY = ys.getD (I.getD k 0) noY := by simp [pickL, List.getD, h]
theorem getD_mem {I : List Nat} {k : Nat} (h : k < I.length) : I.getD k 0 ∈ I := by
  rw [List.getD, List.getElem?_eq_getElem h]; exact List.getElem_mem h

/-- is a number in a set, told by its bits? -/
def bitOn (r i : Nat) : Bool := r / 2 ^ i % 2 == 1

/-- the numbers below m that are in the set -/
def bitsL (m r : Nat) : List Nat := (List.range m).filter fun i => bitOn r i

/-- the places below m whose row and column are in the set -/
def subP (w r m : Nat) : List Nat := (List.range m).filter fun k => bitOn r (k / w) && bitOn r (k % w)
def subI (w r : Nat) : List Nat := subP w r (w * w)

theorem bitsL_zero (r : Nat) : bitsL 0 r = [] := rfl
theorem bitsL_succ (m r : Nat) : bitsL (m + 1) r = bitsL m r ++ if bitOn r m = true then [m] else [] := by
  unfold bitsL
  rw [List.range_succ, List.filter_append]
  congr 1
  by_cases h : bitOn r m = true
  · rw [if_pos h, List.filter_cons_of_pos h]; rfl
  · rw [if_neg h, List.filter_cons_of_neg h]; rfl
theorem bitsL_len_succ (m r : Nat) : (bitsL (m + 1) r).length = (bitsL m r).length + r / 2 ^ m % 2 := by
  rw [bitsL_succ, List.length_append]
  congr 1
  by_cases h : bitOn r m = true
  · rw [if_pos h]
    exact (beq_iff_eq.1 h).symm
  · rw [if_neg h]
    have : ¬ r / 2 ^ m % 2 = 1 := fun e => h (beq_iff_eq.2 e)
    show 0 = _
    omega
theorem bitsL_lt {m r k : Nat} (h : k ∈ bitsL m r) : k < m := List.mem_range.1 (List.mem_filter.1 h).1
theorem bitsL_le (m r : Nat) : (bitsL m r).length ≤ m := Nat.le_trans (List.length_filter_le _ _) (by simp)

theorem subP_zero (w r : Nat) : subP w r 0 = [] := rfl
theorem subP_succ {w r i j : Nat} (hj : j < w) : subP w r (i * w + j + 1) = subP w r (i * w + j) ++ if bitOn r i = true ∧ bitOn r j = true then [i * w + j] else [] := by
  obtain ⟨h1, h2⟩ := (place_eq (n := w) (i := i) (j := j) (k := i * w + j) hj).1 rfl
  unfold subP
  rw [List.range_succ, List.filter_append]
  congr 1
  by_cases h : bitOn r i = true ∧ bitOn r j = true
  · rw [if_pos h, List.filter_cons_of_pos (by rw [h1, h2, h.1, h.2]; rfl)]; rfl
  · rw [if_neg h, List.filter_cons_of_neg (by rw [h1, h2, Bool.and_eq_true]; exact h)]; rfl

/-- step by step -/
theorem chainG {α : Type} {I : Nat → α → Prop} {Q : Nat → α → α → Prop} {z0 : α} (h0 : I 0 z0) : ∀ {n : Nat}, (∀ k z, k < n → I k z → ∃ z', Q k z z' ∧ I (k + 1) z') →
    ∃ c : Nat → α, c 0 = z0 ∧ (∀ k, k < n → Q k (c k) (c (k + 1))) ∧ ∀ k, k ≤ n → I k (c k)
  | 0, _ => ⟨fun _ => z0, rfl, fun k hk => by omega, fun k hk => by
    obtain rfl : k = 0 := by omega
    exact h0⟩
  | n + 1, hs => by
    obtain ⟨c, h1, h2, h3⟩ := chainG (n := n) h0 (fun k y hk hx => hs k y (by omega) hx)
    obtain ⟨y', h4, h5⟩ := hs n (c n) (by omega) (h3 n (Nat.le_refl _))
    refine ⟨fun k => if k ≤ n then c k else y', by simp [h1], fun k hk => ?_, fun k hk => ?_⟩
    · by_cases hkn : k < n
      · simp only [show k ≤ n by omega, show k + 1 ≤ n by omega, if_true]
        exact h2 k hkn
      · obtain rfl : k = n := by omega
        simp only [Nat.le_refl, if_true, if_false, show ¬ k + 1 ≤ k by omega]
        exact h4
    · by_cases hkn : k ≤ n
      · simp only [hkn, if_true]; exact h3 k hkn
      · obtain rfl : k = n + 1 := by omega
        simp only [show ¬ n + 1 ≤ n by omega, if_false]
        exact h5

end Go.Pe

set_option linter.unusedSimpArgs false
set_option linter.unusedVariables false
namespace Go.Pe
open Go Go.Dg

/-- the numbers of a power -/
def powD (n : Int) (d : Nat → Dyadic) : Nat → Nat → Dyadic
  | 0 => idD n.toNat
  | j + 1 => mulD n (powD n d j) d

theorem fits_one : fits 1 := by
  refine ⟨?_, by decide, by decide⟩
  show (dg 1).length ≤ 100
  exact dg_len 1 (by decide)

theorem fits_nought : fits 0 := ⟨by rw [cZ_zero, show Int.natAbs 0 = 0 from rfl, dg_zero]; exact Nat.zero_le _, by decide, by decide⟩

theorem fits_id (w k : Nat) : fits (idD w k) := by
  unfold idD
  split
  · exact fits_one
  · exact fits_nought

/-- canonical forms of numbers that fit -/
theorem canL_XL {d : Nat → Dyadic} {N : Nat} (h : ∀ k, k < N → fits (d k)) : XL d 100 3000 (canL d N) := by
  intro k hk
  rw [canL_len] at hk
  rw [canL_get hk]
  obtain ⟨h1, h2, h3⟩ := h k hk
  refine ⟨cZ (d k), rfl, rfl, (mk_canon _).symm, h1, ?_⟩
  show (cE (d k)).natAbs ≤ _
  omega

end Go.Pe

set_option linter.unusedSimpArgs false
set_option linter.unusedVariables false
namespace Go.Pe
open Go Go.Dg

theorem psum_congr {f g : Nat → Dyadic} : ∀ {k : Nat}, (∀ a, a < k → f a = g a) → psum f k = psum g k
  | 0, _ => rfl
  | k + 1, h => by
    show psum f k + f k = psum g k + g k
    rw [psum_congr (fun a ha => h a (by omega)), h k (by omega)]

theorem psum_zero : ∀ k : Nat, psum (fun _ => 0) k = 0
  | 0 => rfl
  | k + 1 => by
    show psum (fun _ => 0) k + 0 = 0
    rw [psum_zero k]; grind

theorem psum_add (f g : Nat → Dyadic) : ∀ k : Nat, psum (fun a => f a + g a) k = psum f k + psum g k
  | 0 => by show (0 : Dyadic) = 0 + 0; grind
  | k + 1 => by
    show psum (fun a => f a + g a) k + (f k + g k) = (psum f k + f k) + (psum g k + g k)
    rw [psum_add f g k]; grind

theorem psum_mul (f : Nat → Dyadic) (c : Dyadic) : ∀ k : Nat, psum (fun a => f a * c) k = psum f k * c
  | 0 => by show (0 : Dyadic) = 0 * c; grind
  | k + 1 => by
    show psum (fun a => f a * c) k + f k * c = (psum f k + f k) * c
    rw [psum_mul f c k]; grind

theorem psum_left (f : Nat → Dyadic) : ∀ k : Nat, psum f (k + 1) = f 0 + psum (fun a => f (a + 1)) k
  | 0 => by show (0 : Dyadic) + f 0 = f 0 + 0; grind
  | k + 1 => by
    show psum f (k + 1) + f (k + 1) = f 0 + (psum (fun a => f (a + 1)) k + f (k + 1))
    rw [psum_left f k]; grind

theorem mulD_sum (n : Int) (F : Nat → Nat → Dyadic) (c : Nat → Dyadic) (g : Nat → Dyadic) (k : Nat) : ∀ s : Nat, mulD n (fun a => psum (fun j => F j a * c j) s) g k = psum (fun j => mulD n (F j) g k * c j) s
  | 0 => by
    show psum (fun a => (0 : Dyadic) * g (a * n.toNat + k % n.toNat)) n.toNat = 0
    rw [psum_congr (g := fun _ => 0) (fun a _ => by grind), psum_zero]
  | s + 1 => by
    have ih := mulD_sum n F c g k s
    unfold mulD at ih
    show psum (fun a => (psum (fun j => F j (k / n.toNat * n.toNat + a) * c j) s + F s (k / n.toNat * n.toNat + a) * c s) * g (a * n.toNat + k % n.toNat)) n.toNat = psum (fun j => mulD n (F j) g k * c j) s + mulD n (F s) g k * c s
    rw [psum_congr (g := fun a => psum (fun j => F j (k / n.toNat * n.toNat + a) * c j) s * g (a * n.toNat + k % n.toNat) + F s (k / n.toNat * n.toNat + a) * g (a * n.toNat + k % n.toNat) * c s) (fun a _ => by grind)]
    rw [psum_add, ih, psum_mul]
    rfl

/-- the first m summands -/
def polS (n : Int) (d c : Nat → Dyadic) (m k : Nat) : Dyadic := psum (fun j => powD n d j k * c j) m

/-- by Horner's scheme: s steps, of m in all -/
def horD (n : Int) (d c : Nat → Dyadic) (m : Nat) : Nat → Nat → Dyadic
  | 0 => fun _ => 0
  | s + 1 => fun k => mulD n (horD n d c m s) d k + idD n.toNat k * c (m - 1 - s)

theorem horD_eq (n : Int) (d c : Nat → Dyadic) (m : Nat) : ∀ s, s ≤ m → ∀ k, horD n d c m s k = psum (fun j => powD n d j k * c (m - s + j)) s
  | 0, _, k => rfl
  | s + 1, hs, k => by
    have ih := horD_eq n d c m s (by omega)
    have e : horD n d c m s = fun k => psum (fun j => powD n d j k * c (m - s + j)) s := funext ih
    show mulD n (horD n d c m s) d k + idD n.toNat k * c (m - 1 - s) = _
    rw [e, mulD_sum, psum_left]
    rw [show m - (s + 1) + 0 = m - 1 - s by omega]
    rw [psum_congr (f := fun j => powD n d (j + 1) k * c (m - (s + 1) + (j + 1))) (g := fun j => mulD n (powD n d j) d k * c (m - s + j)) (fun a _ => by rw [show m - (s + 1) + (a + 1) = m - s + a by omega]; rfl)]
    show _ = idD n.toNat k * _ + _
    grind

theorem hor_sum (n : Int) (d c : Nat → Dyadic) (m k : Nat) : horD n d c m m k = polS n d c m k := by
  rw [horD_eq n d c m m (Nat.le_refl _), polS]
  refine psum_congr fun a _ => ?_
  rw [Nat.sub_self, Nat.zero_add]

theorem Mg.idD (w k : Nat) : Mg 0 1 (idD w k) := by
  unfold Go.Pe.idD
  split
  · exact Mg_one
  · exact Mg_zero

theorem Mg.hor {n : Int} {d c : Nat → Dyadic} {m : Nat} (h4 : n.toNat ≤ 4) (hd : ∀ k, k < n.toNat * n.toNat → Mg 3000 4600 (d k)) (hc : ∀ j, j < m → Mg 3000 4600 (c j)) :
    ∀ s, s ≤ m → ∀ k, k < n.toNat * n.toNat → Mg (3000 * s) (4605 * s) (horD n d c m s k)
  | 0, _, k, _ => Mg_zero
  | s + 1, hs, k, hk => by
    have ih := Mg.hor h4 hd hc s (by omega)
    have h1 := Mg.mulD h4 ih hd hk
    have h2 := (Mg.idD n.toNat k).mul (hc (m - 1 - s) (by omega))
    exact ((h1.mono (a' := 3000 * (s + 1)) (b' := 4605 * s + 4604) (by omega) (by omega)).add (h2.mono (by omega) (by omega))).mono (Nat.le_refl _) (by omega)

/-- bounds of canonical cells -/
theorem CL.x2 {a b : Nat} {dd : Nat → Dyadic} {ys : List Cell3} (h : CL a b dd ys) : XL dd ((a + b) / 16 + 1) (a + b) ys := h.x

end Go.Pe

