/- The least and the greatest of some numbers: the first place of each. -/
import Derived.Test.YtlkiofkkjbodjaaGreatDoorBEvD
set_option linter.unusedSimpArgs false
set_option linter.unusedVariables false
namespace Go.Pe
open Go Go.Dg

def aRM (a r : Nat) : Prop := r * r ≤ a ∧ a < (r + 1) * (r + 1)

theorem aGP {a r s : Nat} (h : aRM a r) (g : aRM a s) : r = s := by
 rcases Nat.lt_trichotomy r s with h1 | h1 | h1
 ·have := Nat.mul_le_mul (show r + 1 ≤ s from h1) (show r + 1 ≤ s from h1)
  have h2 := h.2
  have g1 := g.1
  omega
 ·exact h1
 ·have := Nat.mul_le_mul (show s + 1 ≤ r from h1) (show s + 1 ≤ r from h1)
  have h2 := g.2
  have g1 := h.1
  omega

end Go.Pe

set_option linter.unusedSimpArgs false
set_option linter.unusedVariables false
namespace Go.Pe
open Go Go.Dg

theorem aUE (a : Nat) : ∃ r, aRM a r := by
 have key : ∀ n r : Nat, r * r ≤ a → a < (r + n + 1) * (r + n + 1) → ∃ r, aRM a r := by
  intro n
  induction n with
  | zero => intro r h1 h2; exact ⟨r, h1, h2⟩
  | succ n ih =>
   intro r h1 h2
   by_cases h : a < (r + 1) * (r + 1)
   ·exact ⟨r, h1, h⟩
   ·exact ih (r + 1) (by omega) (by rw [show r + 1 + n + 1 = r + (n + 1) + 1 by omega]; exact h2)
 refine key a 0 (Nat.zero_le _) ?_
 have : a + 1 ≤ (0 + a + 1) * (0 + a + 1) := by rw [Nat.zero_add]; exact Nat.le_mul_of_pos_right _ (by omega)
 omega

noncomputable def rtN (a : Nat) : Nat := Classical.choose (aUE a)
theorem aGQ (a : Nat) : aRM a (rtN a) := Classical.choose_spec (aUE a)
theorem aYE : rtN 0 = 0 := aGP (aGQ 0) ⟨Nat.le_refl _, by decide⟩
theorem aZZ (a : Nat) : rtN a ≤ a := by
 have h := (aGQ a).1
 rcases Nat.eq_zero_or_pos (rtN a) with h0 | h0
 ·omega
 ·exact Nat.le_trans (Nat.le_mul_of_pos_right _ h0) h

end Go.Pe

set_option linter.unusedSimpArgs false
set_option linter.unusedVariables false
namespace Go.Pe
open Go Go.Dg

theorem aCM {N k : Nat} (f : Nat → aC) (y : aC) (hk : k < N) : ((List.range N).map f).set k y = (List.range N).map fun a => if a = k then y else f a := by
 refine List.ext_getElem (by simp) fun a h1 h2 => ?_
 rw [List.getElem_set]
 simp only [List.getElem_map, List.getElem_range]
 by_cases h : a = k
 ·subst h; simp
 ·rw [if_neg (fun e => h e.symm), if_neg h]

theorem mP {N : Nat} {f g : Nat → aC} (h : ∀ k, k < N → f k = g k) : (List.range N).map f = (List.range N).map g :=
 List.map_congr_left fun k hk => h k (List.mem_range.1 hk)

theorem kV {n i j k : Nat} (hj : j < n) : k = i * n + j ↔ k / n = i ∧ k % n = j := by
 constructor
 ·rintro rfl
  exact ⟨by rw [Nat.mul_comm, Nat.mul_add_div (by omega), Nat.div_eq_of_lt hj, Nat.add_zero], by rw [Nat.mul_comm, Nat.mul_add_mod, Nat.mod_eq_of_lt hj]⟩
 ·rintro ⟨rfl, rfl⟩
  rw [Nat.mul_comm]; exact (Nat.div_add_mod k n).symm

def idD (w k : Nat) : Dyadic := if k / w = k % w then 1 else 0

noncomputable def idP (w m : Nat) : List aC := (List.range (w * w)).map fun k => if k / w = k % w ∧ k / w < m then aG 1 else noY

theorem aS8 (w m : Nat) : (idP w m).length = w * w := by simp [idP]
theorem aQV (w : Nat) : idP w 0 = List.replicate (w * w) noY := by simp [idP, List.map_const']
theorem aQW {w m : Nat} (h : m < w) : (idP w m).set (m * w + m) (aG 1) = idP w (m + 1) := by
 rw [idP, aCM _ _ (bQ h h), idP]
 refine mP fun k hk => ?_
 by_cases he : k = m * w + m
 ·have := (kV h).1 he
  rw [if_pos he, if_pos ⟨by omega, by omega⟩]
 ·rw [if_neg he]
  have h1 : ¬(k / w = m ∧ k % w = m) := fun e => he ((kV h).2 e)
  by_cases hc : k / w = k % w ∧ k / w < m
  ·rw [if_pos hc, if_pos ⟨hc.1, by omega⟩]
  ·rw [if_neg hc, if_neg (by omega)]
theorem aS9 (w : Nat) : idP w w = cW (idD w) (w * w) := by
 refine mP fun k hk => ?_
 obtain ⟨h1, _, _⟩ := place hk
 unfold idD
 by_cases hc : k / w = k % w
 ·rw [if_pos ⟨hc, h1⟩, if_pos hc]
 ·rw [if_neg (fun e => hc e.1), if_neg hc, gJ]

def qR (w : Nat) (d : Nat → Dyadic) (k : Nat) : Dyadic := mM (k % w + k / w) (cF (w - 1) (dL w (k % w) (k / w) d))

noncomputable def lA (w : Nat) (d : Nat → Dyadic) (i j : Nat) : List aC := (List.range (w * w)).map fun k => if k % w < i ∨ k % w = i ∧ k / w < j then aG (qR w d k) else noY

theorem aQX (w : Nat) (d : Nat → Dyadic) (i j : Nat) : (lA w d i j).length = w * w := by simp [lA]
theorem aMV (w : Nat) (d : Nat → Dyadic) : lA w d 0 0 = List.replicate (w * w) noY := by simp [lA, List.map_const']
theorem aMW {w : Nat} {d : Nat → Dyadic} {i j : Nat} (hi : i < w) (hj : j < w) : (lA w d i j).set (j * w + i) (aG (mM (i + j) (cF (w - 1) (dL w i j d)))) = lA w d i (j + 1) := by
 rw [lA, aCM _ _ (bQ hj hi), lA]
 refine mP fun k hk => ?_
 by_cases he : k = j * w + i
 ·obtain ⟨h1, h2⟩ := (kV hi).1 he
  rw [if_pos he, if_pos (.inr ⟨h2, by omega⟩), qR, h1, h2]
 ·rw [if_neg he]
  have h1 : ¬(k / w = j ∧ k % w = i) := fun e => he ((kV hi).2 e)
  by_cases hc : k % w < i ∨ k % w = i ∧ k / w < j
  ·rw [if_pos hc, if_pos (by omega)]
  ·rw [if_neg hc, if_neg (by omega)]
theorem aQY (w : Nat) (d : Nat → Dyadic) (i : Nat) : lA w d i w = lA w d (i + 1) 0 := by
 refine mP fun k hk => ?_
 obtain ⟨h1, _, _⟩ := place hk
 have h : (k % w < i ∨ k % w = i ∧ k / w < w) ↔ (k % w < i + 1 ∨ k % w = i + 1 ∧ k / w < 0) := by
  constructor
  ·rintro (h | ⟨h, _⟩)
   ·exact .inl (Nat.lt_succ_of_lt h)
   ·exact .inl (h ▸ Nat.lt_succ_self _)
  ·rintro (h | ⟨_, h⟩)
   ·rcases Nat.lt_or_eq_of_le (Nat.le_of_lt_succ h) with h | h
    ·exact .inl h
    ·exact .inr ⟨h, h1⟩
   ·exact absurd h (Nat.not_lt_zero _)
 by_cases hc : k % w < i ∨ k % w = i ∧ k / w < w
 ·rw [if_pos hc, if_pos (h.1 hc)]
 ·rw [if_neg hc, if_neg (fun e => hc (h.2 e))]

theorem aQZ (w : Nat) (d : Nat → Dyadic) : lA w d w 0 = cW (qR w d) (w * w) := by
 refine mP fun k hk => ?_
 obtain ⟨_, h2, _⟩ := place hk
 rw [if_pos (.inl h2)]

theorem Mg.minor {w r c : Nat} {d : Nat → Dyadic} (hw4 : w ≤ 4) (hr : r < w) (hc : c < w) (hm : ∀ k, k < w * w → Mg 3000 4600 (d k)) : Mg 9000 13813 (cF (w - 1) (dL w r c d)) := by
 refine (Mg.det (a := 3000) (b := 4600) (n := w - 1) (by omega) fun k hk => hm _ (pM ?_)).mono (by omega) (by omega)
 rw [kS hw4 hr hc]; exact hk

theorem Mg.adj {w k : Nat} {d : Nat → Dyadic} (hw4 : w ≤ 4) (hk : k < w * w) (hm : ∀ k, k < w * w → Mg 3000 4600 (d k)) : Mg 9000 13813 (qR w d k) := by
 obtain ⟨h1, h2, _⟩ := place hk
 exact (Mg.minor hw4 h2 h1 hm).sgn

end Go.Pe

set_option linter.unusedSimpArgs false
set_option linter.unusedVariables false
namespace Go.Pe
open Go Go.Dg

def bAH (I : List Nat) (d : Nat → Dyadic) (k : Nat) : Dyadic := d (I.getD k 0)
def aKN (I : List Nat) (ys : List aC) : List aC := I.map fun k => ys.getD k noY

theorem aWE (I : List Nat) (ys : List aC) : (aKN I ys).length = I.length := by simp [aKN]
theorem aWF {I : List Nat} {ys : List aC} {k : Nat} (h : k < I.length) : (aKN I ys).getD k noY = ys.getD (I.getD k 0) noY := by simp [aKN, List.getD, h]
theorem aYF {I : List Nat} {k : Nat} (h : k < I.length) : I.getD k 0 ∈ I := by
 rw [List.getD, List.getElem?_eq_getElem h]; exact List.getElem_mem h

def rA (r i : Nat) : Bool := r / 2 ^ i % 2 == 1

def wH (m r : Nat) : List Nat := (List.range m).filter fun i => rA r i

def aRN (w r m : Nat) : List Nat := (List.range m).filter fun k => rA r (k / w) && rA r (k % w)
def bBA (w r : Nat) : List Nat := aRN w r (w * w)

theorem aV3 (r : Nat) : wH 0 r = [] := rfl
theorem aJF (m r : Nat) : wH (m + 1) r = wH m r ++ if rA r m = true then [m] else [] := by
 unfold wH
 rw [List.range_succ, List.filter_append]
 congr 1
 by_cases h : rA r m = true
 ·rw [if_pos h, List.filter_cons_of_pos h]; rfl
 ·rw [if_neg h, List.filter_cons_of_neg h]; rfl
theorem aRO (m r : Nat) : (wH (m + 1) r).length = (wH m r).length + r / 2 ^ m % 2 := by
 rw [aJF, List.length_append]
 congr 1
 by_cases h : rA r m = true
 ·rw [if_pos h]
  exact (beq_iff_eq.1 h).symm
 ·rw [if_neg h]
  have : ¬ r / 2 ^ m % 2 = 1 := fun e => h (beq_iff_eq.2 e)
  show 0 = _
  omega
theorem aYG {m r k : Nat} (h : k ∈ wH m r) : k < m := List.mem_range.1 (List.mem_filter.1 h).1
theorem aYH (m r : Nat) : (wH m r).length ≤ m := Nat.le_trans (List.length_filter_le _ _) (by simp)

theorem aWG (w r : Nat) : aRN w r 0 = [] := rfl
theorem aWH {w r i j : Nat} (hj : j < w) : aRN w r (i * w + j + 1) = aRN w r (i * w + j) ++ if rA r i = true ∧ rA r j = true then [i * w + j] else [] := by
 obtain ⟨h1, h2⟩ := (kV (n := w) (i := i) (j := j) (k := i * w + j) hj).1 rfl
 unfold aRN
 rw [List.range_succ, List.filter_append]
 congr 1
 by_cases h : rA r i = true ∧ rA r j = true
 ·rw [if_pos h, List.filter_cons_of_pos (by rw [h1, h2, h.1, h.2]; rfl)]; rfl
 ·rw [if_neg h, List.filter_cons_of_neg (by rw [h1, h2, Bool.and_eq_true]; exact h)]; rfl

end Go.Pe

set_option linter.unusedSimpArgs false
set_option linter.unusedVariables false
namespace Go.Pe
open Go Go.Dg

end Go.Pe

set_option linter.unusedSimpArgs false
set_option linter.unusedVariables false
namespace Go.Pe
open Go Go.Dg

theorem Mg.idD (w k : Nat) : Mg 0 1 (idD w k) := by
 unfold Go.Pe.idD
 split
 ·exact aPX
 ·exact aDJ

end Go.Pe

set_option linter.unusedSimpArgs false
set_option linter.unusedVariables false
namespace Go.Pe
open Go Go.Dg

abbrev eR := aC × aC
def noV : eR := (noY, noY)
def aGR (v : eR) : PV := .agg [.val (.bool v.1.1), .lst (aA v.1.2.1), .val (.int .i64 v.1.2.2), .val (.bool v.2.1), .lst (aA v.2.2.1), .val (.int .i64 v.2.2.2)]
def gD (vs : List eR) : List PV := vs.map aGR

theorem bAI (vs : List eR) : (gD vs).length = vs.length := by simp [gD]
theorem bAJ (vs : List eR) (k : Nat) (v : eR) : (gD vs).set k (aGR v) = gD (vs.set k v) := by simp [gD, List.map_set]
theorem bAK (vs ws : List eR) : gD vs ++ gD ws = gD (vs ++ ws) := by simp [gD]
theorem bAL (v : eR) : [aGR v] = gD [v] := rfl
theorem bAM (n : Nat) (v : eR) : List.replicate n (aGR v) = gD (List.replicate n v) := by simp [gD]
theorem bAN : gD [] = [] := rfl
theorem bBB {vs : List eR} {k : Nat} (h : k < vs.length) : (gD vs).getD k D0 = aGR (vs.getD k noV) := by
 simp [gD, List.getD, h]

end Go.Pe

set_option linter.unusedSimpArgs false
set_option linter.unusedVariables false
namespace Go.Pe
open Go Go.Dg

def dvA (vs : List eR) (k : Nat) : Dyadic := aAX (vs.getD k noV).1.1 (vs.getD k noV).1.2.1 (vs.getD k noV).1.2.2
def dvB (vs : List eR) (k : Nat) : Dyadic := aAX (vs.getD k noV).2.1 (vs.getD k noV).2.2.1 (vs.getD k noV).2.2.2

def XV (d1 d2 : Nat → Dyadic) (L E : Nat) (vs : List eR) : Prop := ∀ k, k < vs.length → X (d1 k) L E (vs.getD k noV).1 ∧ X (d2 k) L E (vs.getD k noV).2

noncomputable def aA9 (d1 d2 : Nat → Dyadic) (n : Nat) : List eR := (List.range n).map fun k => (aG (d1 k), aG (d2 k))

theorem aAE (d1 d2 : Nat → Dyadic) (n : Nat) : (aA9 d1 d2 n).length = n := by simp [aA9]
theorem aNB (d1 d2 : Nat → Dyadic) (n : Nat) : aA9 d1 d2 (n + 1) = aA9 d1 d2 n ++ [(aG (d1 n), aG (d2 n))] := by simp [aA9, List.range_succ]
theorem aYI {d1 d2 : Nat → Dyadic} {n k : Nat} (h : k < n) : (aA9 d1 d2 n).getD k noV = (aG (d1 k), aG (d2 k)) := by simp [aA9, List.getD, h]

end Go.Pe

set_option linter.unusedSimpArgs false
set_option linter.unusedVariables false
namespace Go.Pe
open Go Go.Dg

noncomputable def pU (d : Nat → Dyadic) : Nat → Nat
 | 0 => 0
 | k + 1 => if gC (d (k + 1)) (d (pU d k)) < 0 then k + 1 else pU d k

noncomputable def pV (d : Nat → Dyadic) : Nat → Nat
 | 0 => 0
 | k + 1 => if 0 < gC (d (k + 1)) (d (pV d k)) then k + 1 else pV d k

theorem aTH {d : Nat → Dyadic} {k : Nat} (h : gC (d (pU d k)) (d (k + 1)) ≤ 0) : pU d (k + 1) = pU d k := by
 rw [pU, if_neg]
 have := gK (d (k + 1)) (d (pU d k))
 omega

theorem aTI {d : Nat → Dyadic} {k : Nat} (h : ¬gC (d (pU d k)) (d (k + 1)) ≤ 0) : pU d (k + 1) = k + 1 := by
 rw [pU, if_pos]
 have := gK (d (k + 1)) (d (pU d k))
 omega

theorem aTJ {d : Nat → Dyadic} {k : Nat} (h : 0 ≤ gC (d (pV d k)) (d (k + 1))) : pV d (k + 1) = pV d k := by
 rw [pV, if_neg]
 have := gK (d (pV d k)) (d (k + 1))
 omega

theorem aTK {d : Nat → Dyadic} {k : Nat} (h : ¬0 ≤ gC (d (pV d k)) (d (k + 1))) : pV d (k + 1) = k + 1 := by
 rw [pV, if_pos]
 have := gK (d (pV d k)) (d (k + 1))
 omega

theorem aAF {d : Nat → Dyadic} : ∀ {k j : Nat}, j ≤ k → d (pU d k) ≤ d j
 | 0, j, h => by
  obtain rfl : j = 0 := by omega
  exact Dyadic.le_refl _
 | k + 1, j, h => by
  by_cases hc : gC (d (pU d k)) (d (k + 1)) ≤ 0
  ·rw [aTH hc]
   by_cases hj : j = k + 1
   ·rw [hj]; exact wW.1 hc
   ·exact aAF (by omega)
  ·rw [aTI hc]
   by_cases hj : j = k + 1
   ·rw [hj]; exact Dyadic.le_refl _
   ·have h1 := aAF (d := d) (k := k) (j := j) (by omega)
    have h2 : gC (d (k + 1)) (d (pU d k)) ≤ 0 := by
     have := gK (d (k + 1)) (d (pU d k))
     omega
    exact Dyadic.le_trans (wW.1 h2) h1

theorem aAG {d : Nat → Dyadic} : ∀ {k j : Nat}, j ≤ k → d j ≤ d (pV d k)
 | 0, j, h => by
  obtain rfl : j = 0 := by omega
  exact Dyadic.le_refl _
 | k + 1, j, h => by
  by_cases hc : 0 ≤ gC (d (pV d k)) (d (k + 1))
  ·rw [aTJ hc]
   by_cases hj : j = k + 1
   ·rw [hj]
    have h2 : gC (d (k + 1)) (d (pV d k)) ≤ 0 := by
     have := gK (d (pV d k)) (d (k + 1))
     omega
    exact wW.1 h2
   ·exact aAG (by omega)
  ·rw [aTK hc]
   by_cases hj : j = k + 1
   ·rw [hj]; exact Dyadic.le_refl _
   ·have h1 := aAG (d := d) (k := k) (j := j) (by omega)
    exact Dyadic.le_trans h1 (wW.1 (by omega))

def aNC (a1 a2 : Dyadic) (k : Nat) : Dyadic := if k < 2 then a1 else a2
def aND (b1 b2 : Dyadic) (k : Nat) : Dyadic := if k % 2 = 0 then b1 else b2

def aTL (a1 a2 b1 b2 : Dyadic) (low m : Int) (k : Nat) : Dyadic := uY (aNC a1 a2 k) (aND b1 b2 k) low m

noncomputable def bAO (a1 a2 b1 b2 : Dyadic) (low : Int) : Dyadic := aTL a1 a2 b1 b2 low 3 (pU (aTL a1 a2 b1 b2 low 3) 3)
noncomputable def bAP (a1 a2 b1 b2 : Dyadic) (low : Int) : Dyadic := aTL a1 a2 b1 b2 low 2 (pV (aTL a1 a2 b1 b2 low 2) 3)

theorem aV4 (a1 a2 : Dyadic) (k : Nat) : aNC a1 a2 k = a1 ∨ aNC a1 a2 k = a2 := by unfold aNC; split <;> simp
theorem aV5 (b1 b2 : Dyadic) (k : Nat) : aND b1 b2 k = b1 ∨ aND b1 b2 k = b2 := by unfold aND; split <;> simp

theorem aZ0 (a1 a2 : Dyadic) : cW (aNC a1 a2) 4 = [aG a1, aG a1, aG a2, aG a2] := rfl
theorem aZ1 (b1 b2 : Dyadic) : cW (aND b1 b2) 4 = [aG b1, aG b2, aG b1, aG b2] := rfl

end Go.Pe

