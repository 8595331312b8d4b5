/- Contracts: sums and differences of numbers in any form, and of matrices of them. -/
import Derived.Test.YthmkdfmapdbenaaGreatDoorEM7
namespace Go.Proofs
open Go Go.Pe Go.Dg
namespace Tryz
set_option linter.unusedSimpArgs false
set_option linter.unusedVariables false
variable {P : Program} {gl : List (Nat × Obj)}

theorem xPlus {d1 d2 : Dyadic} {L E : Nat} {y1 y2 : Cell3} (h1 : X d1 L E y1) (h2 : X d2 L E y2) (hL : L ≤ 1000000) (hE : E ≤ 100000) : ∃ y, X (d1 + d2) (L + E + 2) E y ∧
    ∀ (P : Program) (gl : List (Nat × Obj)) (p q r : List PV), Cx P gl → p = intsL y1.2.1 → q = intsL y2.2.1 → r = intsL y.2.1 → FS P gl 102 [.agg [B y1.1, .lst p, I y1.2.2], .agg [B y2.1, .lst q, I y2.2.2]] (· = .agg [B y.1, .lst r, I y.2.2]) := by
  obtain ⟨z1, a1, a2, a3, a4, a5⟩ := h1
  obtain ⟨z2, b1, b2, b3, b4, b5⟩ := h2
  obtain ⟨w, f, hd⟩ := sumD_ex z1 y1.2.2 z2 y2.2.2
  have hlen : (dg w.natAbs).length ≤ L + E + 2 ∧ f.natAbs ≤ E := by
    obtain ⟨x, y, ha, rfl⟩ := hd
    obtain ⟨c2, c1, c3⟩ := align_len ha b4 a4 b5 a5
    exact ⟨by have := Go.Pe.dg_len_add c1 c2; omega, c3⟩
  refine ⟨(decide (w < 0), dg w.natAbs, f), ⟨w, rfl, rfl, by rw [sumD_mk hd, a3, b3], hlen.1, hlen.2⟩, ?_⟩
  intro P gl p q r C hp hq hr
  exact exactPlus_fs C (by rw [hp, a2]) a1 (by rw [hq, b2]) b1 hd hr rfl (by omega) (by omega) (by omega) (by omega)

set_option maxHeartbeats 1000000 in
set_option maxRecDepth 100000 in
theorem gridPlus1_fs (C : Cx P gl) {ys zs : List Cell3} {p q r : List PV} {n i j : Int} {s : Bool} {l : List Int} {e : Int} (hp : p = cells3 ys) (hq : q = cells3 zs) (hi : 0 ≤ i) (hj : 0 ≤ j) (hn : 0 ≤ n) (hn4 : n ≤ 4) (hi4 : i < n) (hj4 : j < n)
    (hyl : (ys.length : Int) = n * n) (hzl : (zs.length : Int) = n * n) (hr : r = intsL l)
    (hc : ∀ (P : Program) (gl : List (Nat × Obj)) (p q r : List PV), Cx P gl → p = intsL (ys.getD (i * n + j).toNat noY).2.1 → q = intsL (zs.getD (i * n + j).toNat noY).2.1 → r = intsL l →
      FS P gl 102 [.agg [B (ys.getD (i * n + j).toNat noY).1, .lst p, I (ys.getD (i * n + j).toNat noY).2.2], .agg [B (zs.getD (i * n + j).toNat noY).1, .lst q, I (zs.getD (i * n + j).toNat noY).2.2]] (· = .agg [B s, .lst r, I e])) :
    FS P gl 100 [I i, I j, .ptr [I n, .lst p] 0, .ptr [I n, .lst q] 0] (· = .agg [B s, .lst r, I e]) := by
  have hk : i * n + j < n * n := by
    have : (i + 1) * n ≤ n * n := Int.mul_le_mul_of_nonneg_right (by omega) hn
    rw [Int.add_mul, Int.one_mul] at this
    omega
  obtain ⟨y1, hy1⟩ : ∃ y, y = ys.getD (i * n + j).toNat noY := ⟨_, rfl⟩
  obtain ⟨y2, hy2⟩ : ∃ y, y = zs.getD (i * n + j).toNat noY := ⟨_, rfl⟩
  rw [← hy1, ← hy2] at hc
  obtain ⟨s1, l1, e1⟩ := y1
  obtain ⟨s2, l2, e2⟩ := y2
  obtain ⟨p1, hp1⟩ : ∃ p1, p1 = intsL l1 := ⟨_, rfl⟩
  obtain ⟨p2, hp2⟩ : ∃ p2, p2 = intsL l2 := ⟨_, rfl⟩
  have c1 := fun (P' : Program) (C' : Cx P' gl) => gridAt_fs C' hp hi hj hn hn4 (by omega) (by omega) (by omega) hy1.symm hp1
  have c2 := fun (P' : Program) (C' : Cx P' gl) => gridAt_fs C' hq hi hj hn hn4 (by omega) (by omega) (by omega) hy2.symm hp2
  have c3 := fun (P' : Program) (C' : Cx P' gl) => hc P' gl p1 p2 r C' hp1 hp2 hr
  simp only at c3
  clear hc hy1 hy2 hp1 hp2 hr hp hq hk hyl hzl
  obtain ⟨rfl, hG⟩ := C
  refine FS_ofT (args := fun A => [I i, I j, .ptr [I n, .lst p] 0, .ptr [I n, .lst q] 0]) (R := fun A rr => rr = .agg [B s, .lst r, I e]) Tryz.hT Tryz.mix Tryz.func100 rfl rfl (Nat.le_of_ble_eq_true rfl) ?_
  generalize hP : Tryz.prog = P
  intro A hA
  have C : Tryz.Cx P gl := ⟨hP.symm, hG⟩
  have hI : intsL = A.ints := by subst hA; rfl
  iterate 2 (all_goals try cbv; all_goals repeat' (first | with_reducible exact True.intro | with_reducible refine And.intro ?_ ?_ | intro _))
  all_goals try exact oG
  refine ⟨_, c1 P C, ?_⟩
  iterate 2 (all_goals try cbv; all_goals repeat' (first | with_reducible exact True.intro | with_reducible refine And.intro ?_ ?_ | intro _))
  all_goals try exact oG
  refine callS hA rfl (c2 P C) ?_; rintro _ rfl
  iterate 2 (all_goals try cbv; all_goals repeat' (first | with_reducible exact True.intro | with_reducible refine And.intro ?_ ?_ | intro _))
  all_goals try exact oG
  refine callS hA rfl (c3 P C) ?_; rintro _ rfl
  iterate 2 (all_goals try cbv; all_goals repeat' (first | with_reducible exact True.intro | with_reducible refine And.intro ?_ ?_ | intro _))
  all_goals try exact oG

set_option maxHeartbeats 1000000 in
set_option maxRecDepth 100000 in
theorem gridPlus_fs (C : Cx P gl) {ys zs : List Cell3} {p q r : List PV} {n : Int} {Y : Nat → Nat → Cell3} (hp : p = cells3 ys) (hq : q = cells3 zs) (hr : r = cells3 (rowsY Y n.toNat n.toNat)) (hn : 0 ≤ n) (hn4 : n ≤ 4) (hyl : (ys.length : Int) = n * n) (hzl : (zs.length : Int) = n * n)
    (hY : ∀ i j : Nat, i < n.toNat → j < n.toNat → ∀ (P : Program) (gl : List (Nat × Obj)) (p q r : List PV), Cx P gl → p = intsL (ys.getD (i * n.toNat + j) noY).2.1 → q = intsL (zs.getD (i * n.toNat + j) noY).2.1 → r = intsL (Y i j).2.1 →
      FS P gl 102 [.agg [B (ys.getD (i * n.toNat + j) noY).1, .lst p, I (ys.getD (i * n.toNat + j) noY).2.2], .agg [B (zs.getD (i * n.toNat + j) noY).1, .lst q, I (zs.getD (i * n.toNat + j) noY).2.2]] (· = .agg [B (Y i j).1, .lst r, I (Y i j).2.2])) :
    FS P gl 54 [.agg [I n, .lst p], .agg [I n, .lst q]] (· = .agg [I n, .lst r]) := by
  have hg := fun (P' : Program) (C' : Cx P' gl) => gridOf2_fs C' (f := 100) (a0 := [I n, .lst p]) (a1 := [I n, .lst q]) (y := Y) hn (by omega) hr (fun i j s l e u h1 h2 h3 h4 h5 h6 P' C' => by
    have e1 : (i * n + j).toNat = i.toNat * n.toNat + j.toNat := by
      have : i * n = ((i.toNat * n.toNat : Nat) : Int) := by rw [Int.natCast_mul, Int.toNat_of_nonneg h1, Int.toNat_of_nonneg hn]
      omega
    have h7 := hY i.toNat j.toNat (by omega) (by omega)
    rw [h5, ← e1] at h7
    exact gridPlus1_fs C' hp hq h1 h3 hn hn4 h2 h4 hyl hzl h6 h7)
  clear hY hp hq hr hyl hzl
  obtain ⟨rfl, hG⟩ := C
  refine FS_ofT (args := fun A => [.agg [I n, .lst p], .agg [I n, .lst q]]) (R := fun A rr => rr = .agg [I n, .lst r]) Tryz.hT Tryz.mix Tryz.func54 rfl rfl (Nat.le_of_ble_eq_true rfl) ?_
  generalize hP : Tryz.prog = P
  intro A hA
  have C : Tryz.Cx P gl := ⟨hP.symm, hG⟩
  have hI : intsL = A.ints := by subst hA; rfl
  iterate 2 (all_goals try cbv; all_goals repeat' (first | with_reducible exact True.intro | with_reducible refine And.intro ?_ ?_ | intro _))
  all_goals try exact oG
  refine callS hA rfl (hg P C) ?_; rintro _ rfl
  iterate 2 (all_goals try cbv; all_goals repeat' (first | with_reducible exact True.intro | with_reducible refine And.intro ?_ ?_ | intro _))
  all_goals try exact oG

end Tryz
end Go.Proofs
