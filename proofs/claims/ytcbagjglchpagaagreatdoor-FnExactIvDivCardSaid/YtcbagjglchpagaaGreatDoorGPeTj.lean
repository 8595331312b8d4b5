/- Lists of intervals: forms, canonical numbers of the ends. -/
import Derived.Test.YtcbagjglchpagaaGreatDoorGEvD
set_option linter.unusedSimpArgs false
set_option linter.unusedVariables false
namespace Go.Pe
open Go Go.Dg

abbrev Cell6 := Cell3 × Cell3
def noV : Cell6 := (noY, noY)
def cell6 (v : Cell6) : PV := .agg [.val (.bool v.1.1), .lst (intsL v.1.2.1), .val (.int .i64 v.1.2.2), .val (.bool v.2.1), .lst (intsL v.2.2.1), .val (.int .i64 v.2.2.2)]
def cells6 (vs : List Cell6) : List PV := vs.map cell6

theorem c6len (vs : List Cell6) : (cells6 vs).length = vs.length := by simp [cells6]
theorem c6set (vs : List Cell6) (k : Nat) (v : Cell6) : (cells6 vs).set k (cell6 v) = cells6 (vs.set k v) := by simp [cells6, List.map_set]
theorem c6app (vs ws : List Cell6) : cells6 vs ++ cells6 ws = cells6 (vs ++ ws) := by simp [cells6]
theorem c6one (v : Cell6) : [cell6 v] = cells6 [v] := rfl
theorem c6rep (n : Nat) (v : Cell6) : List.replicate n (cell6 v) = cells6 (List.replicate n v) := by simp [cells6]
theorem c6nil : cells6 [] = [] := rfl
theorem c6el {vs : List Cell6} {k : Nat} (h : k < vs.length) : (cells6 vs).getD k D0 = cell6 (vs.getD k noV) := by
  simp [cells6, List.getD, h]

end Go.Pe

set_option linter.unusedSimpArgs false
set_option linter.unusedVariables false
namespace Go.Pe
open Go Go.Dg

def okV (y : Cell6) : Prop := ivOk y.1.1 y.1.2.1 y.1.2.2 y.2.1 y.2.2.1 y.2.2.2

theorem cells6_get {ys : List Cell6} {k : Nat} (h : k < ys.length) : (cells6 ys).getD k (.val (.bool false)) = cell6 (ys.getD k noV) := by
  simp [cells6, List.getD, h]

def allV (ys : List Cell6) : Prop := ∀ y ∈ ys, okV y

def voksI (ys : List Cell6) (i : Int) : Prop := 0 ≤ i ∧ i ≤ ys.length ∧ allV (ys.take i.toNat)

theorem voksI_zero (ys : List Cell6) : voksI ys 0 := ⟨Int.le_refl _, by omega, by intro y hy; simp at hy⟩

theorem voksI_next {ys : List Cell6} {i : Int} (h : voksI ys i) (hi : i < ys.length) (h0 : okV (ys.getD i.toNat noV)) : voksI ys (i + 1) := by
  obtain ⟨a, b, c⟩ := h
  refine ⟨by omega, by omega, ?_⟩
  rw [show (i + 1).toNat = i.toNat + 1 by omega, List.take_add_one]
  rw [List.getD, List.getElem?_eq_getElem (by omega)] at h0
  rw [List.getElem?_eq_getElem (by omega)]
  intro y hy
  rcases List.mem_append.1 hy with hy | hy
  · exact c y hy
  · simp at hy; rw [hy]; exact h0

theorem voksI_exit {ys : List Cell6} {i : Int} (h : voksI ys i) (hi : ys.length ≤ i) : allV ys := by
  obtain ⟨a, b, c⟩ := h
  rwa [List.take_of_length_le (by omega)] at c

theorem allV_not {ys : List Cell6} {k : Nat} (hk : k < ys.length) (h : ¬okV (ys.getD k noV)) : ¬allV ys := by
  intro ha
  apply h
  rw [List.getD, List.getElem?_eq_getElem hk]
  exact ha _ (List.getElem_mem hk)

/-- the lower and the upper ends of a list of cells -/
def dvA (vs : List Cell6) (k : Nat) : Dyadic := dval (vs.getD k noV).1.1 (vs.getD k noV).1.2.1 (vs.getD k noV).1.2.2
def dvB (vs : List Cell6) (k : Nat) : Dyadic := dval (vs.getD k noV).2.1 (vs.getD k noV).2.2.1 (vs.getD k noV).2.2.2

/-- cells of intervals stand for the numbers d1 .. d2 -/
def XV (d1 d2 : Nat → Dyadic) (L E : Nat) (vs : List Cell6) : Prop := ∀ k, k < vs.length → X (d1 k) L E (vs.getD k noV).1 ∧ X (d2 k) L E (vs.getD k noV).2

theorem XV.mono {d1 d2 : Nat → Dyadic} {L E L' E' : Nat} {vs : List Cell6} (h : XV d1 d2 L E vs) (hL : L ≤ L') (hE : E ≤ E') : XV d1 d2 L' E' vs :=
  fun k hk => ⟨(h k hk).1.mono hL hE, (h k hk).2.mono hL hE⟩

/-- the canonical forms of some intervals -/
noncomputable def canV (d1 d2 : Nat → Dyadic) (n : Nat) : List Cell6 := (List.range n).map fun k => (canY (d1 k), canY (d2 k))

theorem canV_len (d1 d2 : Nat → Dyadic) (n : Nat) : (canV d1 d2 n).length = n := by simp [canV]
theorem canV_succ (d1 d2 : Nat → Dyadic) (n : Nat) : canV d1 d2 (n + 1) = canV d1 d2 n ++ [(canY (d1 n), canY (d2 n))] := by simp [canV, List.range_succ]
theorem canV_get {d1 d2 : Nat → Dyadic} {n k : Nat} (h : k < n) : (canV d1 d2 n).getD k noV = (canY (d1 k), canY (d2 k)) := by simp [canV, List.getD, h]

end Go.Pe

