/- Plain laws: parts of a matrix, the characteristic polynomial. -/
import Derived.Test.YthmkdfmapdbenaaGreatDoorCPeTb
set_option linter.unusedSimpArgs false
set_option linter.unusedVariables false
namespace Go.Pe
open Go Go.Dg

/-- some numbers of a list, by their places -/
def pickD (I : List Nat) (d : Nat → Dyadic) (k : Nat) : Dyadic := d (I.getD k 0)
def pickL (I : List Nat) (ys : List Cell3) : List Cell3 := I.map fun k => ys.getD k noY

theorem pickL_len (I : List Nat) (ys : List Cell3) : (pickL I ys).length = I.length := by simp [pickL]
theorem pickL_get {I : List Nat} {ys : List Cell3} {k : Nat} (h : k < I.length) : (pickL I ys).getD k noY = ys.getD (I.getD k 0) noY := by simp [pickL, List.getD, h]
theorem getD_mem {I : List Nat} {k : Nat} (h : k < I.length) : I.getD k 0 ∈ I := by
  rw [List.getD, List.getElem?_eq_getElem h]; exact List.getElem_mem h

theorem pick_XL {I : List Nat} {L E : Nat} {d : Nat → Dyadic} {ys : List Cell3} (h : XL d L E ys) (hI : ∀ k ∈ I, k < ys.length) : XL (pickD I d) L E (pickL I ys) := by
  intro k hk
  rw [pickL_len] at hk
  rw [pickL_get hk]
  exact h _ (hI _ (getD_mem hk))

theorem pick_CL {I : List Nat} {a b : Nat} {d : Nat → Dyadic} {ys : List Cell3} (h : CL a b d ys) (hI : ∀ k ∈ I, k < ys.length) : CL a b (pickD I d) (pickL I ys) := by
  intro k hk
  rw [pickL_len] at hk
  rw [pickL_get hk]
  exact h _ (hI _ (getD_mem hk))

/-- is a number in a set, told by its bits? -/
def bitOn (r i : Nat) : Bool := r / 2 ^ i % 2 == 1

/-- the numbers below m that are in the set -/
def bitsL (m r : Nat) : List Nat := (List.range m).filter fun i => bitOn r i

/-- the places below m whose row and column are in the set -/
def subP (w r m : Nat) : List Nat := (List.range m).filter fun k => bitOn r (k / w) && bitOn r (k % w)
def subI (w r : Nat) : List Nat := subP w r (w * w)

theorem subI_lt {w r k : Nat} (h : k ∈ subI w r) : k < w * w := List.mem_range.1 (List.mem_filter.1 h).1

theorem bitsL_zero (r : Nat) : bitsL 0 r = [] := rfl
theorem bitsL_succ (m r : Nat) : bitsL (m + 1) r = bitsL m r ++ if bitOn r m = true then [m] else [] := by
  unfold bitsL
  rw [List.range_succ, List.filter_append]
  congr 1
  by_cases h : bitOn r m = true
  · rw [if_pos h, List.filter_cons_of_pos h]; rfl
  · rw [if_neg h, List.filter_cons_of_neg h]; rfl
theorem bitsL_len_succ (m r : Nat) : (bitsL (m + 1) r).length = (bitsL m r).length + r / 2 ^ m % 2 := by
  rw [bitsL_succ, List.length_append]
  congr 1
  by_cases h : bitOn r m = true
  · rw [if_pos h]
    exact (beq_iff_eq.1 h).symm
  · rw [if_neg h]
    have : ¬ r / 2 ^ m % 2 = 1 := fun e => h (beq_iff_eq.2 e)
    show 0 = _
    omega
theorem bitsL_lt {m r k : Nat} (h : k ∈ bitsL m r) : k < m := List.mem_range.1 (List.mem_filter.1 h).1
theorem bitsL_le (m r : Nat) : (bitsL m r).length ≤ m := Nat.le_trans (List.length_filter_le _ _) (by simp)

theorem subP_zero (w r : Nat) : subP w r 0 = [] := rfl
theorem subP_succ {w r i j : Nat} (hj : j < w) : subP w r (i * w + j + 1) = subP w r (i * w + j) ++ if bitOn r i = true ∧ bitOn r j = true then [i * w + j] else [] := by
  obtain ⟨h1, h2⟩ := (place_eq (n := w) (i := i) (j := j) (k := i * w + j) hj).1 rfl
  unfold subP
  rw [List.range_succ, List.filter_append]
  congr 1
  by_cases h : bitOn r i = true ∧ bitOn r j = true
  · rw [if_pos h, List.filter_cons_of_pos (by rw [h1, h2, h.1, h.2]; rfl)]; rfl
  · rw [if_neg h, List.filter_cons_of_neg (by rw [h1, h2, Bool.and_eq_true]; exact h)]; rfl

/-- how many numbers are in the set -/
def cnt (w r : Nat) : Nat := (bitsL w r).length

theorem subI_eq {w r : Nat} (hw : w ≤ 4) (hr : r < 2 ^ w) : (subI w r).length = cnt w r * cnt w r ∧ subI w r = (bitsL w r).flatMap fun a => (bitsL w r).map fun b => a * w + b := by
  have h : ∀ w : Fin 5, ∀ r : Fin 16, (subI w.1 r.1).length = cnt w.1 r.1 * cnt w.1 r.1 ∧ subI w.1 r.1 = (bitsL w.1 r.1).flatMap fun a => (bitsL w.1 r.1).map fun b => a * w.1 + b := by decide +kernel
  have : 2 ^ w ≤ 2 ^ 4 := Nat.pow_le_pow_right (by decide) hw
  exact h ⟨w, by omega⟩ ⟨r, by omega⟩

theorem cnt_le (w r : Nat) : cnt w r ≤ w := bitsL_le w r

/-- what a set of rows and columns adds to the polynomial -/
def polyT (w : Nat) (d : Nat → Dyadic) (r : Nat) : Dyadic := sgnD (cnt w r) (detD (cnt w r) (pickD (subI w r) d))

/-- the coefficients of the polynomial, of the sets below s -/
def polyP (w : Nat) (d : Nat → Dyadic) : Nat → Nat → Dyadic
  | 0, _ => 0
  | s + 1, k => if w - cnt w s = k then polyP w d s k + polyT w d s else polyP w d s k

theorem cnt_zero (w : Nat) : cnt w 0 = 0 := by
  have h : ∀ i, bitOn 0 i = false := fun i => by unfold bitOn; rw [Nat.zero_div]; rfl
  unfold cnt bitsL
  simp [h]

theorem polyT_zero (w : Nat) (d : Nat → Dyadic) : polyT w d 0 = 1 := by
  unfold polyT; rw [cnt_zero]; rfl

theorem polyP_one (w : Nat) (d : Nat → Dyadic) (k : Nat) : polyP w d 1 k = if w = k then 1 else 0 := by
  show (if w - cnt w 0 = k then (0 : Dyadic) + polyT w d 0 else 0) = _
  rw [cnt_zero, polyT_zero, Nat.sub_zero]
  split
  · grind
  · rfl

theorem Mg.polyT {w : Nat} {d : Nat → Dyadic} {r : Nat} (hw : w ≤ 4) (hr : r < 2 ^ w) (hm : ∀ k, k < w * w → Mg 3000 4600 (d k)) : Mg 12000 18417 (polyT w d r) := by
  have hc := cnt_le w r
  refine Mg.sgn ((Mg.det (a := 3000) (b := 4600) (n := cnt w r) (by omega) fun k hk => hm _ ?_).mono (by omega) (by omega))
  rw [← (subI_eq hw hr).1] at hk
  exact subI_lt (getD_mem hk)

theorem Mg.polyP {w : Nat} {d : Nat → Dyadic} (hw : w ≤ 4) (hm : ∀ k, k < w * w → Mg 3000 4600 (d k)) : ∀ s k, s ≤ 2 ^ w → Mg 12000 (18417 + s) (polyP w d s k)
  | 0, _, _ => Mg_zero
  | s + 1, k, hs => by
    have h1 := Mg.polyP hw hm s k (by omega)
    show Mg _ _ (if w - cnt w s = k then Go.Pe.polyP w d s k + Go.Pe.polyT w d s else Go.Pe.polyP w d s k)
    split
    · exact (h1.add ((Mg.polyT hw (by omega) hm).mono (Nat.le_refl _) (by omega))).mono (Nat.le_refl _) (by omega)
    · exact h1.mono (Nat.le_refl _) (by omega)

/-- the canonical forms, one more set taken in -/
theorem polyP_set {w s : Nat} {d : Nat → Dyadic} : (canL (polyP w d s) (w + 1)).set (w - cnt w s) (canY (polyP w d s (w - cnt w s) + polyT w d s)) = canL (polyP w d (s + 1)) (w + 1) := by
  unfold canL
  rw [range_set _ _ (by omega)]
  refine range_ext fun k hk => ?_
  show _ = canY (if w - cnt w s = k then polyP w d s k + polyT w d s else polyP w d s k)
  by_cases h : k = w - cnt w s
  · subst h; rw [if_pos rfl, if_pos rfl]
  · rw [if_neg h, if_neg (fun e => h e.symm)]

theorem polyP_set1 {w : Nat} {d : Nat → Dyadic} : (List.replicate (w + 1) noY).set w (canY 1) = canL (polyP w d 1) (w + 1) := by
  have e : List.replicate (w + 1) noY = (List.range (w + 1)).map fun _ => noY := by simp [List.map_const']
  unfold canL
  rw [e, range_set _ _ (by omega)]
  refine range_ext fun k hk => ?_
  rw [polyP_one]
  by_cases h : k = w
  · subst h; rw [if_pos rfl, if_pos rfl]
  · rw [if_neg h, if_neg (fun e => h e.symm), canY_zero]

theorem bit_std {A : AR} (hA : A = AR.std) {t i : Int} (T : Nat) (ht : t = T) (hT : T < 16) (h0 : 0 ≤ i) (h4 : i < 4) : A.band .i64 (A.shr .i64 t i) 1 = ((T / 2 ^ i.toNat % 2 : Nat) : Int) := by
  subst hA
  have h : ∀ T : Fin 16, ∀ j : Fin 4, AR.std.band .i64 (AR.std.shr .i64 ((T.1 : Nat) : Int) ((j.1 : Nat) : Int)) 1 = ((T.1 / 2 ^ j.1 % 2 : Nat) : Int) := by decide +kernel
  have := h ⟨T, hT⟩ ⟨i.toNat, by omega⟩
  simp only at this
  rw [ht]
  rw [Int.toNat_of_nonneg h0] at this
  exact this

theorem shl_std {A : AR} (hA : A = AR.std) {n : Int} (h0 : 0 ≤ n) (h4 : n ≤ 4) : A.shl .i64 1 n = ((2 ^ n.toNat : Nat) : Int) := by
  subst hA
  rcases (by omega : n = 0 ∨ n = 1 ∨ n = 2 ∨ n = 3 ∨ n = 4) with rfl | rfl | rfl | rfl | rfl <;> decide +kernel

/-- step by step -/
theorem chainG {α : Type} {I : Nat → α → Prop} {Q : Nat → α → α → Prop} {z0 : α} (h0 : I 0 z0) : ∀ {n : Nat}, (∀ k z, k < n → I k z → ∃ z', Q k z z' ∧ I (k + 1) z') →
    ∃ c : Nat → α, c 0 = z0 ∧ (∀ k, k < n → Q k (c k) (c (k + 1))) ∧ ∀ k, k ≤ n → I k (c k)
  | 0, _ => ⟨fun _ => z0, rfl, fun k hk => by omega, fun k hk => by
    obtain rfl : k = 0 := by omega
    exact h0⟩
  | n + 1, hs => by
    obtain ⟨c, h1, h2, h3⟩ := chainG (n := n) h0 (fun k y hk hx => hs k y (by omega) hx)
    obtain ⟨y', h4, h5⟩ := hs n (c n) (by omega) (h3 n (Nat.le_refl _))
    refine ⟨fun k => if k ≤ n then c k else y', by simp [h1], fun k hk => ?_, fun k hk => ?_⟩
    · by_cases hkn : k < n
      · simp only [show k ≤ n by omega, show k + 1 ≤ n by omega, if_true]
        exact h2 k hkn
      · obtain rfl : k = n := by omega
        simp only [Nat.le_refl, if_true, if_false, show ¬ k + 1 ≤ k by omega]
        exact h4
    · by_cases hkn : k ≤ n
      · simp only [hkn, if_true]; exact h3 k hkn
      · obtain rfl : k = n + 1 := by omega
        simp only [show ¬ n + 1 ≤ n by omega, if_false]
        exact h5

end Go.Pe
