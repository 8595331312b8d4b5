/- Contracts: products of matrices of numbers in any form. -/
import Derived.Test.YthmkdfmapdbenaaGreatDoorEM13
import Derived.Test.YthmkdfmapdbenaaGreatDoorEEvD
namespace Go.Proofs
open Go Go.Pe Go.Dg
namespace Tryz
set_option linter.unusedSimpArgs false
set_option linter.unusedVariables false
variable {P : Program} {gl : List (Nat × Obj)}

set_option maxHeartbeats 1000000 in
set_option maxRecDepth 100000 in
theorem gridTimes_fs (C : Cx P gl) {ys zs : List Cell3} {p q r : List PV} {n : Int} {Y : Nat → Nat → Cell3} (hp : p = cells3 ys) (hq : q = cells3 zs) (hr : r = cells3 (rowsY Y n.toNat n.toNat)) (hn : 0 ≤ n) (hn4 : n ≤ 4) (hyl : (ys.length : Int) = n * n) (hzl : (zs.length : Int) = n * n)
    (hY : ∀ i j : Nat, i < n.toNat → j < n.toNat → ∃ c t : Nat → Cell3, c 0 = noY ∧ c n.toNat = Y i j ∧ ∀ k : Nat, k < n.toNat → ∀ gl, callP gl 107 (ys.getD (i * n.toNat + k) noY) (zs.getD (k * n.toNat + j) noY) (t k) ∧ callP gl 102 (c k) (t k) (c (k + 1))) :
    FS P gl 58 [.agg [I n, .lst p], .agg [I n, .lst q]] (· = .agg [I n, .lst r]) := by
  have hg := fun (P' : Program) (C' : Cx P' gl) => gridOf2_fs C' (f := 106) (a0 := [I n, .lst p]) (a1 := [I n, .lst q]) (y := Y) hn (by omega) hr (fun i j s l e u h1 h2 h3 h4 h5 h6 P' C' => by
    obtain ⟨c, t, c0, cn, ct⟩ := hY i.toNat j.toNat (by omega) (by omega)
    exact gridTimes1_fs C' hp hq h1 h3 hn hn4 h2 h4 hyl hzl c0 (cn.trans h5) h6 (fun k hk => (ct k hk gl).1) (fun k hk => (ct k hk gl).2))
  clear hY hp hq hr hyl hzl
  obtain ⟨rfl, hG⟩ := C
  refine FS_ofT (args := fun A => [.agg [I n, .lst p], .agg [I n, .lst q]]) (R := fun A rr => rr = .agg [I n, .lst r]) Tryz.hT Tryz.mix Tryz.func58 rfl rfl (Nat.le_of_ble_eq_true rfl) ?_
  generalize hP : Tryz.prog = P
  intro A hA
  have C : Tryz.Cx P gl := ⟨hP.symm, hG⟩
  have hI : intsL = A.ints := by subst hA; rfl
  iterate 2 (all_goals try cbv; all_goals repeat' (first | with_reducible exact True.intro | with_reducible refine And.intro ?_ ?_ | intro _))
  all_goals try exact oG
  refine callS hA rfl (hg P C) ?_; rintro _ rfl
  iterate 2 (all_goals try cbv; all_goals repeat' (first | with_reducible exact True.intro | with_reducible refine And.intro ?_ ?_ | intro _))
  all_goals try exact oG

/-- the product of two matrices, place by place -/
theorem gridTimes_ex {ys zs : List Cell3} {d1 d2 : Nat → Dyadic} {L E : Nat} {n : Int} (h1 : XL d1 L E ys) (h2 : XL d2 L E zs) (hL : L ≤ 10000) (hE : E ≤ 10000) (hn : 0 ≤ n) (hn4 : n ≤ 4) (hyl : (ys.length : Int) = n * n) (hzl : (zs.length : Int) = n * n) :
    ∃ ws, (ws.length : Int) = n * n ∧ XL (mulD n d1 d2) (L + L + 4 * (E + E + 2)) (E + E) ws ∧
      ∀ (P : Program) (gl : List (Nat × Obj)) (p q r : List PV), Cx P gl → p = cells3 ys → q = cells3 zs → r = cells3 ws → FS P gl 58 [.agg [I n, .lst p], .agg [I n, .lst q]] (· = .agg [I n, .lst r]) := by
  have hnn : n * n = ((n.toNat * n.toNat : Nat) : Int) := by rw [Int.natCast_mul, Int.toNat_of_nonneg hn]
  obtain ⟨m, hm⟩ : ∃ m, m = n.toNat := ⟨_, rfl⟩
  have hm4 : m ≤ 4 := by omega
  obtain ⟨Y, hY⟩ := places (n := m) (Q := fun i j y => (∃ c t : Nat → Cell3, c 0 = noY ∧ c m = y ∧ ∀ k : Nat, k < m → ∀ gl, callP gl 107 (ys.getD (i * m + k) noY) (zs.getD (k * m + j) noY) (t k) ∧ callP gl 102 (c k) (t k) (c (k + 1))) ∧ X (mulD n d1 d2 (i * m + j)) (L + L + 4 * (E + E + 2)) (E + E) y) (by
    intro i j hi hj
    rw [hm] at hj
    have hmd := mulD_at (n := n) (f := d1) (g := d2) (i := i) hj
    rw [← hm] at hmd hj
    obtain ⟨c, t, c0, cs, cx⟩ := chain (S := psum (fun a => d1 (i * m + a) * d2 (a * m + j))) (Lf := fun k => L + L + k * (E + E + 2)) (E := E + E) (y0 := noY)
      (Q := fun k y t y' => ∀ gl, callP gl 107 (ys.getD (i * m + k) noY) (zs.getD (k * m + j) noY) t ∧ callP gl 102 y t y') X_zero (n := m) (by
        intro k y hk hx
        have hle : k * (E + E + 2) ≤ 4 * (E + E + 2) := Nat.mul_le_mul_right _ (by omega)
        obtain ⟨t, t1, t2⟩ := xTimes (h1 (i * m + k) (by have := place_lt hi hk; rw [hm] at this ⊢; omega)) (h2 (k * m + j) (by have := place_lt hk hj; rw [hm] at this ⊢; omega)) (by omega) (by omega) (by omega) (by omega)
        obtain ⟨y', y1, y2⟩ := xPlus hx (t1.mono (L' := L + L + k * (E + E + 2)) (by omega) (Nat.le_refl _)) (by omega) (by omega)
        refine ⟨t, y', fun gl => ⟨fun P p q r C h3 h4 h5 => t2 P gl p q r C h3 h4 h5, fun P p q r C h3 h4 h5 => y2 P gl p q r C h3 h4 h5⟩, ?_⟩
        exact y1.mono (by rw [Nat.add_mul, Nat.one_mul]; omega) (Nat.le_refl _))
    refine ⟨c m, ⟨c, t, c0, rfl, cs⟩, ?_⟩
    rw [hmd]
    exact (cx m (Nat.le_refl _)).mono (Nat.add_le_add_left (Nat.mul_le_mul_right _ hm4) _) (Nat.le_refl _))
  subst hm
  refine ⟨rowsY Y n.toNat n.toNat, by rw [rowsY_len, hnn], rowsY_XL (fun i j hi hj => (hY i j hi hj).2), ?_⟩
  intro P gl p q r C hp hq hr
  exact gridTimes_fs C hp hq hr hn hn4 hyl hzl (fun i j hi hj => (hY i j hi hj).1)

end Tryz
end Go.Proofs
