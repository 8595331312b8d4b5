/- Contracts: the identity in the program. -/
import Derived.Test.YthmkdfmapdbenaaGreatDoorEM34
import Derived.Test.YthmkdfmapdbenaaGreatDoorEPeTe
namespace Go.Proofs
open Go Go.Pe Go.Dg
namespace Tryz
set_option linter.unusedSimpArgs false
set_option linter.unusedVariables false
variable {P : Program} {gl : List (Nat × Obj)}

set_option maxHeartbeats 1000000 in
set_option maxRecDepth 100000 in
theorem identity1_fs (C : Cx P gl) {i j : Int} {s : Bool} {l : List Int} {e : Int} {r : List PV} (hi : 0 ≤ i) (hj : 0 ≤ j) (hy : (if i.toNat = j.toNat then (false, dg 1, 0) else noY) = ((s, l, e) : Cell3)) (hr : r = intsL l) :
    FS P gl 128 [I i, I j] (· = .agg [B s, .lst r, I e]) := by
  by_cases h : i = j
  · subst h
    rw [if_pos rfl, Prod.mk.injEq, Prod.mk.injEq] at hy
    obtain ⟨h1, h2, h3⟩ := hy
    subst h1; subst h2; subst h3
    have h1 := fun (P' : Program) (C' : Cx P' gl) => one_fs C' hr
    clear hr
    obtain ⟨rfl, hG⟩ := C
    refine FS_ofT (args := fun A => [I i, I i]) (R := fun A rr => rr = .agg [B false, .lst r, I 0]) Tryz.hT Tryz.mix Tryz.func128 rfl rfl (Nat.le_of_ble_eq_true rfl) ?_
    generalize hP : Tryz.prog = P
    intro A hA
    have C : Tryz.Cx P gl := ⟨hP.symm, hG⟩
    have hI : intsL = A.ints := by subst hA; rfl
    iterate 2 (all_goals try cbv; all_goals repeat' (first | with_reducible exact True.intro | with_reducible refine And.intro ?_ ?_ | intro _))
    all_goals try exact oG
    refine callS hA rfl (h1 P C) ?_; rintro _ rfl
    iterate 2 (all_goals try cbv; all_goals repeat' (first | with_reducible exact True.intro | with_reducible refine And.intro ?_ ?_ | intro _))
    all_goals try exact oG
  · rw [if_neg (by omega)] at hy
    have hy' : ((false, [], 0) : Cell3) = (s, l, e) := hy
    rw [Prod.mk.injEq, Prod.mk.injEq] at hy'
    obtain ⟨h1, h2, h3⟩ := hy'
    subst h1; subst h2; subst h3
    have hr0 : r = [] := hr
    subst hr0
    clear hr hy
    obtain ⟨rfl, hG⟩ := C
    refine FS_ofT (args := fun A => [I i, I j]) (R := fun A rr => rr = .agg [B false, .lst [], I 0]) Tryz.hT Tryz.mix Tryz.func128 rfl rfl (Nat.le_of_ble_eq_true rfl) ?_
    generalize hP : Tryz.prog = P
    intro A hA
    have C : Tryz.Cx P gl := ⟨hP.symm, hG⟩
    have hI : intsL = A.ints := by subst hA; rfl
    iterate 2 (all_goals try cbv; all_goals repeat' (first | with_reducible exact True.intro | with_reducible refine And.intro ?_ ?_ | intro _))
    all_goals try exact oG

set_option maxHeartbeats 1000000 in
set_option maxRecDepth 100000 in
theorem identity_fs (C : Cx P gl) {n : Int} {r : List PV} (hn : 0 ≤ n) (hn4 : n ≤ 4) (hr : r = cells3 (rowsY (fun i j => if i = j then (false, dg 1, 0) else noY) n.toNat n.toNat)) :
    FS P gl 79 [I n] (· = .agg [I n, .lst r]) := by
  have hg := fun (P' : Program) (C' : Cx P' gl) => gridOf0_fs C' (f := 128) (y := fun i j => if i = j then (false, dg 1, 0) else noY) hn (by omega) hr (fun i j s l e u h1 h2 h3 h4 h5 h6 P' C' => identity1_fs C' h1 h3 h5 h6)
  clear hr
  obtain ⟨rfl, hG⟩ := C
  refine FS_ofT (args := fun A => [I n]) (R := fun A rr => rr = .agg [I n, .lst r]) Tryz.hT Tryz.mix Tryz.func79 rfl rfl (Nat.le_of_ble_eq_true rfl) ?_
  generalize hP : Tryz.prog = P
  intro A hA
  have C : Tryz.Cx P gl := ⟨hP.symm, hG⟩
  have hI : intsL = A.ints := by subst hA; rfl
  iterate 2 (all_goals try cbv; all_goals repeat' (first | with_reducible exact True.intro | with_reducible refine And.intro ?_ ?_ | intro _))
  all_goals try exact oG
  refine callS hA rfl (hg P C) ?_; rintro _ rfl
  iterate 2 (all_goals try cbv; all_goals repeat' (first | with_reducible exact True.intro | with_reducible refine And.intro ?_ ?_ | intro _))
  all_goals try exact oG

theorem identity_ex {n : Int} (hn : 0 ≤ n) (hn4 : n ≤ 4) : ∃ ws, (ws.length : Int) = n * n ∧ XL (idD n.toNat) 1 0 ws ∧
    ∀ (P : Program) (gl : List (Nat × Obj)) (r : List PV), Cx P gl → r = cells3 ws → FS P gl 79 [I n] (· = .agg [I n, .lst r]) := by
  have hnn : n * n = ((n.toNat * n.toNat : Nat) : Int) := by rw [Int.natCast_mul, Int.toNat_of_nonneg hn]
  refine ⟨rowsY (fun i j => if i = j then (false, dg 1, 0) else noY) n.toNat n.toNat, by rw [rowsY_len, hnn], rowsY_XL (fun i j hi hj => ?_), fun P gl r C hr => identity_fs C hn hn4 hr⟩
  obtain ⟨e1, e2⟩ := (place_eq (n := n.toNat) (i := i) (j := j) (k := i * n.toNat + j) hj).1 rfl
  unfold idD
  rw [e1, e2]
  by_cases h : i = j
  · simp only [if_pos h]
    exact ⟨1, rfl, rfl, rfl, dg_len_le 1 _ (by decide), Nat.le_refl _⟩
  · simp only [if_neg h]
    exact X_zero

end Tryz
end Go.Proofs
