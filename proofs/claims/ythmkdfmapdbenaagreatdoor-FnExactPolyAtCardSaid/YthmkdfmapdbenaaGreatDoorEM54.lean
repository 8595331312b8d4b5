/- Contracts: PolyAt in the program. -/
import Derived.Test.YthmkdfmapdbenaaGreatDoorEM52
import Derived.Test.YthmkdfmapdbenaaGreatDoorEM14
import Derived.Test.YthmkdfmapdbenaaGreatDoorEM6
import Derived.Test.YthmkdfmapdbenaaGreatDoorEPeTe
import Derived.Test.YthmkdfmapdbenaaGreatDoorEM7
namespace Go.Proofs
open Go Go.Pe Go.Dg
namespace Tryz
set_option linter.unusedSimpArgs false
set_option linter.unusedVariables false
variable {P : Program} {gl : List (Nat × Obj)}

theorem xPlus2 {d1 d2 : Dyadic} {L E : Nat} {y1 y2 : Cell3} (h1 : X d1 L E y1) (h2 : X d2 L E y2) (hL : L ≤ 1000000) (hE : E ≤ 100000) : ∃ y, X (d1 + d2) (L + E / 8 + 2) E y ∧
    ∀ (P : Program) (gl : List (Nat × Obj)) (p q r : List PV), Cx P gl → p = intsL y1.2.1 → q = intsL y2.2.1 → r = intsL y.2.1 → FS P gl 102 [.agg [B y1.1, .lst p, I y1.2.2], .agg [B y2.1, .lst q, I y2.2.2]] (· = .agg [B y.1, .lst r, I y.2.2]) := by
  obtain ⟨z1, a1, a2, a3, a4, a5⟩ := h1
  obtain ⟨z2, b1, b2, b3, b4, b5⟩ := h2
  obtain ⟨w, f, hd⟩ := sumD_ex z1 y1.2.2 z2 y2.2.2
  have hlen : (dg w.natAbs).length ≤ L + E / 8 + 2 ∧ f.natAbs ≤ E := by
    obtain ⟨x, y, ha, rfl⟩ := hd
    obtain ⟨c2, c1, c3⟩ := align_len2 ha b4 a4 b5 a5
    exact ⟨by have := Go.Pe.dg_len_add c1 c2; omega, c3⟩
  refine ⟨(decide (w < 0), dg w.natAbs, f), ⟨w, rfl, rfl, by rw [sumD_mk hd, a3, b3], hlen.1, hlen.2⟩, ?_⟩
  intro P gl p q r C hp hq hr
  exact exactPlus_fs C (by rw [hp, a2]) a1 (by rw [hq, b2]) b1 hd hr rfl (by omega) (by omega) (by omega) (by omega)

/-- the sum of two matrices, place by place -/
theorem gridPlus_ex2 {ys zs : List Cell3} {d1 d2 : Nat → Dyadic} {L E : Nat} {n : Int} (h1 : XL d1 L E ys) (h2 : XL d2 L E zs) (hL : L ≤ 1000000) (hE : E ≤ 100000) (hn : 0 ≤ n) (hn4 : n ≤ 4) (hyl : (ys.length : Int) = n * n) (hzl : (zs.length : Int) = n * n) :
    ∃ ws, (ws.length : Int) = n * n ∧ XL (fun k => d1 k + d2 k) (L + E / 8 + 2) E ws ∧
      ∀ (P : Program) (gl : List (Nat × Obj)) (p q r : List PV), Cx P gl → p = cells3 ys → q = cells3 zs → r = cells3 ws → FS P gl 54 [.agg [I n, .lst p], .agg [I n, .lst q]] (· = .agg [I n, .lst r]) := by
  have hnn : n * n = ((n.toNat * n.toNat : Nat) : Int) := by rw [Int.natCast_mul, Int.toNat_of_nonneg hn]
  obtain ⟨Y, hY⟩ := places (n := n.toNat) (fun i j hi hj => xPlus2 (h1 (i * n.toNat + j) (by have := place_lt hi hj; omega)) (h2 (i * n.toNat + j) (by have := place_lt hi hj; omega)) hL hE)
  refine ⟨rowsY Y n.toNat n.toNat, by rw [rowsY_len, hnn], rowsY_XL (fun i j hi hj => (hY i j hi hj).1), ?_⟩
  intro P gl p q r C hp hq hr
  exact gridPlus_fs C hp hq hr hn hn4 hyl hzl (fun i j hi hj => (hY i j hi hj).2)

/-- the product of two matrices, place by place -/
theorem gridTimes_ex2 {ys zs : List Cell3} {d1 d2 : Nat → Dyadic} {L E L2 E2 : Nat} {n : Int} (h1 : XL d1 L E ys) (h2 : XL d2 L2 E2 zs) (hL : L + L2 + 4 * ((E + E2) / 8 + 2) ≤ 1000000) (hE : E + E2 ≤ 100000) (hn : 0 ≤ n) (hn4 : n ≤ 4) (hyl : (ys.length : Int) = n * n) (hzl : (zs.length : Int) = n * n) :
    ∃ ws, (ws.length : Int) = n * n ∧ XL (mulD n d1 d2) (L + L2 + 4 * ((E + E2) / 8 + 2)) (E + E2) ws ∧
      ∀ (P : Program) (gl : List (Nat × Obj)) (p q r : List PV), Cx P gl → p = cells3 ys → q = cells3 zs → r = cells3 ws → FS P gl 58 [.agg [I n, .lst p], .agg [I n, .lst q]] (· = .agg [I n, .lst r]) := by
  have hnn : n * n = ((n.toNat * n.toNat : Nat) : Int) := by rw [Int.natCast_mul, Int.toNat_of_nonneg hn]
  obtain ⟨F, hF⟩ : ∃ F, F = (E + E2) / 8 + 2 := ⟨_, rfl⟩
  rw [← hF] at hL
  rw [← hF]
  obtain ⟨m, hm⟩ : ∃ m, m = n.toNat := ⟨_, rfl⟩
  have hm4 : m ≤ 4 := by omega
  obtain ⟨Y, hY⟩ := places (n := m) (Q := fun i j y => (∃ c t : Nat → Cell3, c 0 = noY ∧ c m = y ∧ ∀ k : Nat, k < m → ∀ gl, callP gl 107 (ys.getD (i * m + k) noY) (zs.getD (k * m + j) noY) (t k) ∧ callP gl 102 (c k) (t k) (c (k + 1))) ∧ X (mulD n d1 d2 (i * m + j)) (L + L2 + 4 * F) (E + E2) y) (by
    intro i j hi hj
    rw [hm] at hj
    have hmd := mulD_at (n := n) (f := d1) (g := d2) (i := i) hj
    rw [← hm] at hmd hj
    obtain ⟨c, t, c0, cs, cx⟩ := chain (S := psum (fun a => d1 (i * m + a) * d2 (a * m + j))) (Lf := fun k => L + L2 + k * F) (E := E + E2) (y0 := noY)
      (Q := fun k y t y' => ∀ gl, callP gl 107 (ys.getD (i * m + k) noY) (zs.getD (k * m + j) noY) t ∧ callP gl 102 y t y') X_zero (n := m) (by
        intro k y hk hx
        have hle : k * F ≤ 4 * F := Nat.mul_le_mul_right _ (by omega)
        obtain ⟨t, t1, t2⟩ := xTimes (h1 (i * m + k) (by have := place_lt hi hk; rw [hm] at this ⊢; omega)) (h2 (k * m + j) (by have := place_lt hk hj; rw [hm] at this ⊢; omega)) (by omega) (by omega) (by omega) (by omega)
        obtain ⟨y', y1, y2⟩ := xPlus2 hx (t1.mono (L' := L + L2 + k * F) (by omega) (Nat.le_refl _)) (by omega) (by omega)
        refine ⟨t, y', fun gl => ⟨fun P p q r C h3 h4 h5 => t2 P gl p q r C h3 h4 h5, fun P p q r C h3 h4 h5 => y2 P gl p q r C h3 h4 h5⟩, ?_⟩
        exact y1.mono (by rw [Nat.add_mul, Nat.one_mul]; omega) (Nat.le_refl _))
    refine ⟨c m, ⟨c, t, c0, rfl, cs⟩, ?_⟩
    rw [hmd]
    exact (cx m (Nat.le_refl _)).mono (Nat.add_le_add_left (Nat.mul_le_mul_right _ hm4) _) (Nat.le_refl _))
  subst hm
  refine ⟨rowsY Y n.toNat n.toNat, by rw [rowsY_len, hnn], rowsY_XL (fun i j hi hj => (hY i j hi hj).2), ?_⟩
  intro P gl p q r C hp hq hr
  exact gridTimes_fs C hp hq hr hn hn4 hyl hzl (fun i j hi hj => (hY i j hi hj).1)

set_option maxHeartbeats 1000000 in
set_option maxRecDepth 100000 in
theorem gridScaled1_fs (C : Cx P gl) {ys : List Cell3} {p r u : List PV} {n i j g : Int} {s t : Bool} {l : List Int} {e : Int} (hp : p = cells3 ys) (hi : 0 ≤ i) (hj : 0 ≤ j) (hn : 0 ≤ n) (hn4 : n ≤ 4) (hi4 : i < n) (hj4 : j < n)
    (hyl : (ys.length : Int) = n * n) (hr : r = intsL l)
    (hc : ∀ (P : Program) (gl : List (Nat × Obj)) (p r : List PV), Cx P gl → p = intsL (ys.getD (i * n + j).toNat noY).2.1 → r = intsL l →
      FS P gl 107 [.agg [B (ys.getD (i * n + j).toNat noY).1, .lst p, I (ys.getD (i * n + j).toNat noY).2.2], .agg [B t, .lst u, I g]] (· = .agg [B s, .lst r, I e])) :
    FS P gl 136 [I i, I j, .ptr [I n, .lst p] 0, .ptr [B t, .lst u, I g] 0] (· = .agg [B s, .lst r, I e]) := by
  have hk : i * n + j < n * n := by
    have : (i + 1) * n ≤ n * n := Int.mul_le_mul_of_nonneg_right (by omega) hn
    rw [Int.add_mul, Int.one_mul] at this
    omega
  obtain ⟨y1, hy1⟩ : ∃ y, y = ys.getD (i * n + j).toNat noY := ⟨_, rfl⟩
  rw [← hy1] at hc
  obtain ⟨s1, l1, e1⟩ := y1
  obtain ⟨p1, hp1⟩ : ∃ p1, p1 = intsL l1 := ⟨_, rfl⟩
  have c1 := fun (P' : Program) (C' : Cx P' gl) => gridAt_fs C' hp hi hj hn hn4 (by omega) (by omega) (by omega) hy1.symm hp1
  have c3 := fun (P' : Program) (C' : Cx P' gl) => hc P' gl p1 r C' hp1 hr
  simp only at c3
  clear hc hy1 hp1 hr hp hk hyl
  obtain ⟨rfl, hG⟩ := C
  refine FS_ofT (args := fun A => [I i, I j, .ptr [I n, .lst p] 0, .ptr [B t, .lst u, I g] 0]) (R := fun A rr => rr = .agg [B s, .lst r, I e]) Tryz.hT Tryz.mix Tryz.func136 rfl rfl (Nat.le_of_ble_eq_true rfl) ?_
  generalize hP : Tryz.prog = P
  intro A hA
  have C : Tryz.Cx P gl := ⟨hP.symm, hG⟩
  have hI : intsL = A.ints := by subst hA; rfl
  iterate 2 (all_goals try cbv; all_goals repeat' (first | with_reducible exact True.intro | with_reducible refine And.intro ?_ ?_ | intro _))
  all_goals try exact oG
  refine ⟨_, c1 P C, ?_⟩
  iterate 2 (all_goals try cbv; all_goals repeat' (first | with_reducible exact True.intro | with_reducible refine And.intro ?_ ?_ | intro _))
  all_goals try exact oG
  refine callS hA rfl (c3 P C) ?_; rintro _ rfl
  iterate 2 (all_goals try cbv; all_goals repeat' (first | with_reducible exact True.intro | with_reducible refine And.intro ?_ ?_ | intro _))
  all_goals try exact oG

set_option maxHeartbeats 1000000 in
set_option maxRecDepth 100000 in
theorem gridScaled_fs (C : Cx P gl) {ys : List Cell3} {p r u : List PV} {n g : Int} {t : Bool} {Y : Nat → Nat → Cell3} (hp : p = cells3 ys) (hr : r = cells3 (rowsY Y n.toNat n.toNat)) (hn : 0 ≤ n) (hn4 : n ≤ 4) (hyl : (ys.length : Int) = n * n)
    (hY : ∀ i j : Nat, i < n.toNat → j < n.toNat → ∀ (P : Program) (gl : List (Nat × Obj)) (p r : List PV), Cx P gl → p = intsL (ys.getD (i * n.toNat + j) noY).2.1 → r = intsL (Y i j).2.1 →
      FS P gl 107 [.agg [B (ys.getD (i * n.toNat + j) noY).1, .lst p, I (ys.getD (i * n.toNat + j) noY).2.2], .agg [B t, .lst u, I g]] (· = .agg [B (Y i j).1, .lst r, I (Y i j).2.2])) :
    FS P gl 93 [.agg [I n, .lst p], .agg [B t, .lst u, I g]] (· = .agg [I n, .lst r]) := by
  have hg := fun (P' : Program) (C' : Cx P' gl) => gridOf2_fs C' (f := 136) (a0 := [I n, .lst p]) (a1 := [B t, .lst u, I g]) (y := Y) hn (by omega) hr (fun i j s l e u h1 h2 h3 h4 h5 h6 P' C' => by
    have e1 : (i * n + j).toNat = i.toNat * n.toNat + j.toNat := by
      have : i * n = ((i.toNat * n.toNat : Nat) : Int) := by rw [Int.natCast_mul, Int.toNat_of_nonneg h1, Int.toNat_of_nonneg hn]
      omega
    have h7 := hY i.toNat j.toNat (by omega) (by omega)
    rw [h5, ← e1] at h7
    exact gridScaled1_fs C' hp h1 h3 hn hn4 h2 h4 hyl h6 h7)
  clear hY hp hr hyl
  obtain ⟨rfl, hG⟩ := C
  refine FS_ofT (args := fun A => [.agg [I n, .lst p], .agg [B t, .lst u, I g]]) (R := fun A rr => rr = .agg [I n, .lst r]) Tryz.hT Tryz.mix Tryz.func93 rfl rfl (Nat.le_of_ble_eq_true rfl) ?_
  generalize hP : Tryz.prog = P
  intro A hA
  have C : Tryz.Cx P gl := ⟨hP.symm, hG⟩
  have hI : intsL = A.ints := by subst hA; rfl
  iterate 2 (all_goals try cbv; all_goals repeat' (first | with_reducible exact True.intro | with_reducible refine And.intro ?_ ?_ | intro _))
  all_goals try exact oG
  refine callS hA rfl (hg P C) ?_; rintro _ rfl
  iterate 2 (all_goals try cbv; all_goals repeat' (first | with_reducible exact True.intro | with_reducible refine And.intro ?_ ?_ | intro _))
  all_goals try exact oG

/-- a matrix, each number multiplied -/
theorem gridScaled_ex {ys : List Cell3} {d : Nat → Dyadic} {L E L2 E2 : Nat} {n : Int} {c : Dyadic} {y : Cell3} (h1 : XL d L E ys) (h2 : X c L2 E2 y) (hL : L + L2 ≤ 1000000) (hE : E + E2 ≤ 100000) (hn : 0 ≤ n) (hn4 : n ≤ 4) (hyl : (ys.length : Int) = n * n) :
    ∃ ws, (ws.length : Int) = n * n ∧ XL (fun k => d k * c) (L + L2) (E + E2) ws ∧
      ∀ (P : Program) (gl : List (Nat × Obj)) (p q r : List PV), Cx P gl → p = cells3 ys → q = intsL y.2.1 → r = cells3 ws → FS P gl 93 [.agg [I n, .lst p], .agg [B y.1, .lst q, I y.2.2]] (· = .agg [I n, .lst r]) := by
  have hnn : n * n = ((n.toNat * n.toNat : Nat) : Int) := by rw [Int.natCast_mul, Int.toNat_of_nonneg hn]
  obtain ⟨Y, hY⟩ := places (n := n.toNat) (fun i j hi hj => xTimes (h1 (i * n.toNat + j) (by have := place_lt hi hj; omega)) h2 (by omega) (by omega) (by omega) (by omega))
  refine ⟨rowsY Y n.toNat n.toNat, by rw [rowsY_len, hnn], rowsY_XL (fun i j hi hj => (hY i j hi hj).1), ?_⟩
  intro P gl p q r C hp hq hr
  exact gridScaled_fs C hp hr hn hn4 hyl (fun i j hi hj P gl p' r' C' h3 h4 => (hY i j hi hj).2 P gl p' q r' C' h3 hq h4)

end Tryz
end Go.Proofs

namespace Go.Proofs
open Go Go.Pe Go.Dg
namespace Tryz
set_option linter.unusedSimpArgs false
set_option linter.unusedVariables false
variable {P : Program} {gl : List (Nat × Obj)}

/-- a polynomial and a matrix that it can be taken at -/
def paOk (zs : List Cell3) (n : Int) (ys : List Cell3) : Prop := matOk n ys ∧ zs.length ≤ 12 ∧ allY zs

/-- a step: what is called -/
def paStep (gl : List (Nat × Obj)) (n : Int) (ys zs : List Cell3) (j : Nat) (z z' : List Cell3 × List Cell3) : Prop := ∃ t : List Cell3,
  (∀ (P : Program) (p q r : List PV), Cx P gl → p = cells3 z.1 → q = intsL (zs.getD j noY).2.1 → r = cells3 t → FS P gl 93 [.agg [I n, .lst p], .agg [B (zs.getD j noY).1, .lst q, I (zs.getD j noY).2.2]] (· = .agg [I n, .lst r])) ∧
  (∀ (P : Program) (p q r : List PV), Cx P gl → p = cells3 z.2 → q = cells3 t → r = cells3 z'.2 → FS P gl 54 [.agg [I n, .lst p], .agg [I n, .lst q]] (· = .agg [I n, .lst r])) ∧
  (∀ (P : Program) (p q r : List PV), Cx P gl → p = cells3 z.1 → q = cells3 ys → r = cells3 z'.1 → FS P gl 58 [.agg [I n, .lst p], .agg [I n, .lst q]] (· = .agg [I n, .lst r]))

theorem paChain {ys zs : List Cell3} {n : Int} (ok : paOk zs n ys) : ∃ (c : Nat → List Cell3 × List Cell3), (∀ (P : Program) (gl : List (Nat × Obj)) (r : List PV), Cx P gl → r = cells3 (c 0).1 → FS P gl 79 [I n] (· = .agg [I n, .lst r])) ∧
    (∀ (P : Program) (gl : List (Nat × Obj)) (p r : List PV), Cx P gl → p = cells3 (c 0).1 → r = cells3 (c 0).2 → FS P gl 93 [.agg [I n, .lst p], .agg [B false, .lst [], I 0]] (· = .agg [I n, .lst r])) ∧
    (∀ j, j < zs.length → ∀ gl, paStep gl n ys zs j (c j) (c (j + 1))) ∧ ((c zs.length).2.length = ys.length ∧ XL (polS n (dvY ys) (dvY zs) zs.length) 400000 39000 (c zs.length).2) := by
  obtain ⟨⟨n1, n4, hyl, hya⟩, hz12, hza⟩ := ok
  have hyl2 := matLen n1 n4 hyl
  obtain ⟨ws, w1, w2, w3⟩ := identity_ex (n := n) (by omega) n4
  obtain ⟨vs, v1, v2, v3⟩ := gridScaled_ex (n := n) (c := 0) (y := noY) w2 (X_zero (L := 0) (E := 0)) (by omega) (by omega) (by omega) n4 w1
  obtain ⟨c, c0, cs, ci⟩ := chainG (α := List Cell3 × List Cell3) (I := fun j z => z.1.length = ys.length ∧ z.2.length = ys.length ∧ XL (powD n (dvY ys) j) (1 + 20000 * j) (3000 * j) z.1 ∧ XL (polS n (dvY ys) (dvY zs) j) (300000 + 5000 * j) 39000 z.2)
    (Q := fun j z z' => ∀ gl, paStep gl n ys zs j z z') (z0 := (ws, vs)) ⟨by simp only; omega, by simp only; omega, w2.mono (by omega) (by omega), fun k hk => by
      have h5 : X (idD n.toNat k * 0) (1 + 0) (0 + 0) (vs.getD k noY) := v2 k hk
      have e : idD n.toNat k * 0 = 0 := by grind
      rw [e] at h5
      exact h5.mono (by omega) (by omega)⟩ (n := zs.length) (by
      rintro j ⟨z1, z2⟩ hj ⟨h1, h2, h3, h4⟩
      simp only at h1 h2 h3 h4
      have hzj := allY_XL hza j hj
      obtain ⟨t, t1, t2, t3⟩ := gridScaled_ex (n := n) h3 hzj (by omega) (by omega) (by omega) n4 (by omega)
      obtain ⟨s, s1, s2, s3⟩ := gridPlus_ex2 (n := n) h4 (t2.mono (L' := 300000 + 5000 * j) (E' := 39000) (by omega) (by omega)) (by omega) (by omega) (by omega) n4 (by omega) t1
      obtain ⟨w, u1, u2, u3⟩ := gridTimes_ex2 (n := n) h3 (allY_XL hya) (by omega) (by omega) (by omega) n4 (by omega) hyl
      refine ⟨(w, s), fun gl => ⟨t, fun P p q r C g1 g2 g3 => t3 P gl p q r C g1 g2 g3, fun P p q r C g1 g2 g3 => s3 P gl p q r C g1 g2 g3, fun P p q r C g1 g2 g3 => u3 P gl p q r C g1 g2 g3⟩, by simp only; omega, by simp only; omega, u2.mono (by omega) (by omega), s2.mono (by omega) (Nat.le_refl _)⟩)
  obtain ⟨i1, i2, i3, i4⟩ := ci zs.length (Nat.le_refl _)
  refine ⟨c, fun P gl r C hr => w3 P gl r C (by rw [hr, c0]), fun P gl p r C hp hr => v3 P gl p [] r C (by rw [hp, c0]) rfl (by rw [hr, c0]), cs, i2, i4.mono (by omega) (Nat.le_refl _)⟩

set_option maxHeartbeats 2000000 in
set_option maxRecDepth 100000 in
theorem implPolyAt_o_fx (C : Cx P gl) {ys zs : List Cell3} {p q r : List PV} {n : Int} (hq : q = cells3 zs) (hp : p = cells3 ys) (ok : paOk zs n ys) (fit : ∀ k, k < ys.length → fits ((polS n (dvY ys) (dvY zs) zs.length) k)) (hr : r = cells3 (canL (polS n (dvY ys) (dvY zs) zs.length) ys.length))
    (hl : ys.length ≤ 2000000) (hy : ∀ y ∈ ys, y.2.1.length ≤ 2000000) (hm : zs.length ≤ 2000000) (hz : ∀ y ∈ zs, y.2.1.length ≤ 2000000) :
    FX P gl 46 [] [.pv (.lst q), .pv (.agg [I n, .lst p])] (fun own rr => own = [.tree 41 3 3 r] ∧ rr = .tup [.agg [.pv (I n), .own 0], .pv (B true)]) := by
  obtain ⟨c, ci, csc, cs, cl, cx⟩ := paChain ok
  obtain ⟨ok1, hz12, hza⟩ := ok
  have am := fun (P' : Program) (C' : Cx P' gl) => implMatOk_fs C' (n := n) (b := true) hp ⟨fun _ => ok1, fun _ => rfl⟩ hl hy
  have ad := fun (P' : Program) (C' : Cx P' gl) => areDys_fs C' (b := true) hq ⟨fun _ => hza, fun _ => rfl⟩ (by omega) hz
  obtain ⟨n1, n4, hyl, hya⟩ := ok1
  have hyl2 := matLen n1 n4 hyl
  obtain ⟨u0, hu0⟩ : ∃ u0, u0 = cells3 (c (0 : Int).toNat).1 := ⟨_, rfl⟩
  obtain ⟨v0, hv0⟩ : ∃ v0, v0 = cells3 (c (0 : Int).toNat).2 := ⟨_, rfl⟩
  obtain ⟨v9, hv9⟩ : ∃ v9, v9 = cells3 (c zs.length).2 := ⟨_, rfl⟩
  have gi := fun (P' : Program) (C' : Cx P' gl) => ci P' gl u0 C' hu0
  have g0 := fun (P' : Program) (C' : Cx P' gl) => csc P' gl u0 v0 C' hu0 hv0
  have g2 := fun (P' : Program) (C' : Cx P' gl) => matGrid_fs C' (n := n) hp hl
  have hql : q.length = zs.length := by rw [hq, cells3_len]
  have hstep : ∀ (j : Int) (u v : List PV), 0 ≤ j → j < zs.length → u = cells3 (c j.toNat).1 → v = cells3 (c j.toNat).2 → ∃ (s : Bool) (e : Int) (l t u2 v2 : List PV), ((zs.getD j.toNat noY).1 = s ∧ intsL (zs.getD j.toNat noY).2.1 = l ∧ (zs.getD j.toNat noY).2.2 = e) ∧
      (∀ P', Cx P' gl → FS P' gl 93 [.agg [I n, .lst u], .agg [B s, .lst l, I e]] (· = .agg [I n, .lst t])) ∧ (∀ P', Cx P' gl → FS P' gl 54 [.agg [I n, .lst v], .agg [I n, .lst t]] (· = .agg [I n, .lst v2])) ∧
      (∀ P', Cx P' gl → FS P' gl 58 [.agg [I n, .lst u], .agg [I n, .lst p]] (· = .agg [I n, .lst u2])) ∧ u2 = cells3 (c (j + 1).toNat).1 ∧ v2 = cells3 (c (j + 1).toNat).2 := by
    intro j u v h1 h2 hu hv
    obtain ⟨t, t1, t2, t3⟩ := cs j.toNat (by omega) gl
    refine ⟨_, _, _, cells3 t, _, _, ⟨rfl, rfl, rfl⟩, fun P' C' => t1 P' _ _ _ C' hu rfl rfl, fun P' C' => t2 P' _ _ _ C' hv rfl rfl, fun P' C' => t3 P' _ _ _ C' hu hp rfl, ?_, ?_⟩ <;> rw [show (j + 1).toNat = j.toNat + 1 by omega]
  have hend : ∀ v : List PV, v = cells3 (c zs.length).2 → v = v9 := fun v h => by rw [h, hv9]
  have mt := fun (P' : Program) (C' : Cx P' gl) => gridMat_fn C' (n := n) (r := r) hv9 cx (by omega) (by omega) (fun k hk => fit k (by omega)) (by rw [hr, cl]) (by omega)
  clear ci csc cs cl cx hya hza hyl hv9 fit hr hy hz
  obtain ⟨rfl, hG⟩ := C
  refine FX_ofC (own := fun A => []) (args := fun A => [.pv (.lst q), .pv (.agg [I n, .lst p])]) (R := fun A ow rr => ow = [.tree 41 3 3 r] ∧ rr = .tup [.agg [.pv (I n), .own 0], .pv (B true)]) Tryz.hT Tryz.mix Tryz.func46 rfl rfl (Nat.le_of_ble_eq_true rfl) ?_
  generalize hP : Tryz.prog = P
  intro A hA
  have C : Tryz.Cx P gl := ⟨hP.symm, hG⟩
  have hI : intsL = A.ints := by subst hA; rfl
  have q1 : A.bnot true = false := by subst hA; rfl
  have q2 : A.bnot false = true := by subst hA; rfl
  have q3 : ∀ x, A.pick false true x = x := fun x => by subst hA; cases x <;> rfl
  have q4 : ∀ x, A.pick true true x = true := fun x => by subst hA; cases x <;> rfl
  have q5 : A.lt 12 (A.cast (A.len q)) = false := by
    subst hA
    refine decide_eq_false ?_
    show ¬ (12 : Int) < ((q.length : Nat) : Int)
    omega
  iterate 2 (all_goals try cbv; all_goals repeat' (first | with_reducible exact True.intro | with_reducible refine And.intro ?_ ?_ | intro _))
  all_goals try exact oG
  refine callS hA rfl (am P C) ?_; rintro _ rfl
  iterate 2 (all_goals try cbv; all_goals repeat' (first | with_reducible exact True.intro | with_reducible refine And.intro ?_ ?_ | intro _))
  all_goals try exact oG
  all_goals try simp only [q1, q2, q3, q4, q5]
  iterate 2 (all_goals try cbv; all_goals repeat' (first | with_reducible exact True.intro | with_reducible refine And.intro ?_ ?_ | intro _))
  all_goals try exact oG
  all_goals try simp only [q1, q2, q3, q4, q5]
  refine ⟨_, fun _ => ad P C, ?_⟩
  iterate 2 (all_goals try cbv; all_goals repeat' (first | with_reducible exact True.intro | with_reducible refine And.intro ?_ ?_ | intro _))
  all_goals try exact oG
  all_goals try simp only [q1, q2, q3, q4, q5]
  clear am ad
  refine ⟨_, gi P C, ?_⟩
  iterate 2 (all_goals try cbv; all_goals repeat' (first | with_reducible exact True.intro | with_reducible refine And.intro ?_ ?_ | intro _))
  all_goals try exact oG
  refine ⟨_, g2 P C, ?_⟩
  iterate 2 (all_goals try cbv; all_goals repeat' (first | with_reducible exact True.intro | with_reducible refine And.intro ?_ ?_ | intro _))
  all_goals try exact oG
  refine callS hA rfl (g0 P C) ?_; rintro _ rfl
  clear gi g2 g0 q1 q2 q3 q4 q5
  iterate 2 (all_goals try cbv; all_goals repeat' (first | with_reducible exact True.intro | with_reducible refine And.intro ?_ ?_ | intro _))
  all_goals try exact oG
  refine loopI hA [] (ι := Int × List PV × List PV) (fun x => [(35, .pv (I x.1))]) (fun x => [(2, .box [.pv (I n), .pv (.lst x.2.1)]), (4, .box [.pv (I n), .pv (.lst x.2.2)])]) (fun x => (zs.length - x.1).toNat) (fun x => 0 ≤ x.1 ∧ x.1 ≤ zs.length ∧ x.2.1 = cells3 (c x.1.toNat).1 ∧ x.2.2 = cells3 (c x.1.toNat).2) (0, u0, v0) (by rfl) ?_ ?_ ?_
  all_goals try exact tG
  · exact ⟨Int.le_refl _, Int.natCast_nonneg _, hu0, hv0⟩
  rintro ⟨j, u, v⟩ ⟨hj0, hj1, hu, hv⟩
  simp only at hj0 hj1 hu hv
  have hout : ∀ _ : Unit, j = zs.length → v = v9 := by
    intro _ h
    have e : j.toNat = zs.length := by omega
    rw [e] at hv
    exact hend v hv
  have hs : ∀ _ : Unit, j < zs.length → _ := fun _ h => hstep j u v hj0 h hu hv
  clear hu hv hstep hend hu0 hv0
  iterate 2 (all_goals try cbv; all_goals repeat' (first | with_reducible exact True.intro | with_reducible refine And.intro ?_ ?_ | intro _))
  all_goals try exact oG
  · rename_i g
    have gj : j < zs.length := by clear hs hout; (subst hA; subst_vars; simp only [AR.std, natCast_eq, sG, reduceCtorEq] at *; try simp (disch := omega) only [AR.std, natCast_eq, sG, reduceCtorEq] at *); omega
    have hlt : j.toNat < zs.length := by omega
    obtain ⟨s, e, l, t, u2, v2, ⟨g1, g2, g3⟩, c1, c2, c3, x1, x2⟩ := hs () gj
    have hj2 : j + 1 ≤ zs.length := by omega
    have k1 : A.gb (A.el q (A.nat j)) 0 = s := by rw [← g1]; clear hs hout g1 g2 g3 c1 c2 c3 x1 x2 g; (subst hA; subst_vars; simp only [AR.std, natCast_eq, sG, reduceCtorEq] at *; try simp (disch := omega) only [AR.std, natCast_eq, sG, reduceCtorEq] at *)
    have k2 : A.gl (A.el q (A.nat j)) 1 = l := by rw [← g2]; clear hs hout g1 g2 g3 c1 c2 c3 x1 x2 g k1; (subst hA; subst_vars; simp only [AR.std, natCast_eq, sG, reduceCtorEq] at *; try simp (disch := omega) only [AR.std, natCast_eq, sG, reduceCtorEq] at *)
    have k3 : A.gi (A.el q (A.nat j)) 2 = e := by rw [← g3]; clear hs hout g1 g2 g3 c1 c2 c3 x1 x2 g k1 k2; (subst hA; subst_vars; simp only [AR.std, natCast_eq, sG, reduceCtorEq] at *; try simp (disch := omega) only [AR.std, natCast_eq, sG, reduceCtorEq] at *)
    clear hs hout g1 g2 g3 g
    all_goals try simp only [k1, k2, k3]
    refine ⟨_, dyExact_fs C, ?_⟩
    iterate 2 (all_goals try cbv; all_goals repeat' (first | with_reducible exact True.intro | with_reducible refine And.intro ?_ ?_ | intro _))
    all_goals try exact oG
    refine ⟨_, c1 P C, ?_⟩
    iterate 2 (all_goals try cbv; all_goals repeat' (first | with_reducible exact True.intro | with_reducible refine And.intro ?_ ?_ | intro _))
    all_goals try exact oG
    refine callS hA rfl (c2 P C) ?_; rintro _ rfl
    iterate 2 (all_goals try cbv; all_goals repeat' (first | with_reducible exact True.intro | with_reducible refine And.intro ?_ ?_ | intro _))
    all_goals try exact oG
    refine callS hA rfl (c3 P C) ?_; rintro _ rfl
    clear c1 c2 c3 k1 k2 k3
    iterate 2 (all_goals try cbv; all_goals repeat' (first | with_reducible exact True.intro | with_reducible refine And.intro ?_ ?_ | intro _))
    all_goals try exact oG
    obtain ⟨y1, hy1⟩ : ∃ y, y = j + 1 := ⟨_, rfl⟩
    obtain ⟨y2, hy2⟩ : ∃ y, y = u2 := ⟨_, rfl⟩
    obtain ⟨y3, hy3⟩ : ∃ y, y = v2 := ⟨_, rfl⟩
    refine ⟨⟨(y1, y2, y3), ?_⟩, ?_, ?_⟩
    rotate_left
    · cbv
      exact nG
    · (subst hA; subst_vars; simp only [AR.std, natCast_eq, sG, reduceCtorEq] at *; try simp (disch := omega) only [AR.std, natCast_eq, sG, reduceCtorEq] at *); omega
    · rw [hy1, hy2, hy3]
      exact ⟨by simp only; omega, hj2, x1, x2⟩
  · rename_i g
    have e := hout () (by clear hs hout; (subst hA; subst_vars; simp only [AR.std, natCast_eq, sG, reduceCtorEq] at *; try simp (disch := omega) only [AR.std, natCast_eq, sG, reduceCtorEq] at *); omega)
    subst e
    clear hs hout g
    iterate 2 (all_goals try cbv; all_goals repeat' (first | with_reducible exact True.intro | with_reducible refine And.intro ?_ ?_ | intro _))
    all_goals try exact oG
    refine callN hA rfl (mt P C) ?_; rintro _ _ ⟨rfl, rfl⟩; refine ⟨rfl, ?_⟩
    iterate 2 (all_goals try cbv; all_goals repeat' (first | with_reducible exact True.intro | with_reducible refine And.intro ?_ ?_ | intro _))
    all_goals try exact oG
    subst hA
    exact ⟨[5], _, _, by decide, Nat.zero_le _, rfl, rfl, rfl, rfl, rfl, rfl⟩

theorem implPolyAt_o_fn (C : Cx P gl) {ys zs : List Cell3} {p q r : List PV} {n : Int} (hq : q = cells3 zs) (hp : p = cells3 ys) (ok : paOk zs n ys) (fit : ∀ k, k < ys.length → fits ((polS n (dvY ys) (dvY zs) zs.length) k)) (hr : r = cells3 (canL (polS n (dvY ys) (dvY zs) zs.length) ys.length))
    (hl : ys.length ≤ 2000000) (hy : ∀ y ∈ ys, y.2.1.length ≤ 2000000) (hm : zs.length ≤ 2000000) (hz : ∀ y ∈ zs, y.2.1.length ≤ 2000000) :
    FN P gl 46 [.lst q, .agg [I n, .lst p]] (fun own rr => own = [.tree 41 3 3 r] ∧ rr = .tup [.agg [.pv (I n), .own 0], .pv (B true)]) :=
  FN_of (implPolyAt_o_fx C hq hp ok fit hr hl hy hm hz) (by rintro _ _ ⟨rfl, rfl⟩; exact ⟨by simp [closedB], rfl⟩)

set_option maxHeartbeats 2000000 in
set_option maxRecDepth 100000 in
theorem implPolyAt_X_fs (C : Cx P gl) {ys zs : List Cell3} {p q : List PV} {n : Int} (hq : q = cells3 zs) (hp : p = cells3 ys) (ok : paOk zs n ys) (fit : ¬∀ k, k < ys.length → fits ((polS n (dvY ys) (dvY zs) zs.length) k))
    (hl : ys.length ≤ 2000000) (hy : ∀ y ∈ ys, y.2.1.length ≤ 2000000) (hm : zs.length ≤ 2000000) (hz : ∀ y ∈ zs, y.2.1.length ≤ 2000000) :
    FS P gl 46 [.lst q, .agg [I n, .lst p]] (· = .tup [.agg [I 0, .lst []], B false]) := by
  obtain ⟨c, ci, csc, cs, cl, cx⟩ := paChain ok
  obtain ⟨ok1, hz12, hza⟩ := ok
  have am := fun (P' : Program) (C' : Cx P' gl) => implMatOk_fs C' (n := n) (b := true) hp ⟨fun _ => ok1, fun _ => rfl⟩ hl hy
  have ad := fun (P' : Program) (C' : Cx P' gl) => areDys_fs C' (b := true) hq ⟨fun _ => hza, fun _ => rfl⟩ (by omega) hz
  obtain ⟨n1, n4, hyl, hya⟩ := ok1
  have hyl2 := matLen n1 n4 hyl
  obtain ⟨u0, hu0⟩ : ∃ u0, u0 = cells3 (c (0 : Int).toNat).1 := ⟨_, rfl⟩
  obtain ⟨v0, hv0⟩ : ∃ v0, v0 = cells3 (c (0 : Int).toNat).2 := ⟨_, rfl⟩
  obtain ⟨v9, hv9⟩ : ∃ v9, v9 = cells3 (c zs.length).2 := ⟨_, rfl⟩
  have gi := fun (P' : Program) (C' : Cx P' gl) => ci P' gl u0 C' hu0
  have g0 := fun (P' : Program) (C' : Cx P' gl) => csc P' gl u0 v0 C' hu0 hv0
  have g2 := fun (P' : Program) (C' : Cx P' gl) => matGrid_fs C' (n := n) hp hl
  have hql : q.length = zs.length := by rw [hq, cells3_len]
  have hstep : ∀ (j : Int) (u v : List PV), 0 ≤ j → j < zs.length → u = cells3 (c j.toNat).1 → v = cells3 (c j.toNat).2 → ∃ (s : Bool) (e : Int) (l t u2 v2 : List PV), ((zs.getD j.toNat noY).1 = s ∧ intsL (zs.getD j.toNat noY).2.1 = l ∧ (zs.getD j.toNat noY).2.2 = e) ∧
      (∀ P', Cx P' gl → FS P' gl 93 [.agg [I n, .lst u], .agg [B s, .lst l, I e]] (· = .agg [I n, .lst t])) ∧ (∀ P', Cx P' gl → FS P' gl 54 [.agg [I n, .lst v], .agg [I n, .lst t]] (· = .agg [I n, .lst v2])) ∧
      (∀ P', Cx P' gl → FS P' gl 58 [.agg [I n, .lst u], .agg [I n, .lst p]] (· = .agg [I n, .lst u2])) ∧ u2 = cells3 (c (j + 1).toNat).1 ∧ v2 = cells3 (c (j + 1).toNat).2 := by
    intro j u v h1 h2 hu hv
    obtain ⟨t, t1, t2, t3⟩ := cs j.toNat (by omega) gl
    refine ⟨_, _, _, cells3 t, _, _, ⟨rfl, rfl, rfl⟩, fun P' C' => t1 P' _ _ _ C' hu rfl rfl, fun P' C' => t2 P' _ _ _ C' hv rfl rfl, fun P' C' => t3 P' _ _ _ C' hu hp rfl, ?_, ?_⟩ <;> rw [show (j + 1).toNat = j.toNat + 1 by omega]
  have hend : ∀ v : List PV, v = cells3 (c zs.length).2 → v = v9 := fun v h => by rw [h, hv9]
  have mt := fun (P' : Program) (C' : Cx P' gl) => gridMat_fs C' (n := n) hv9 cx (by omega) (by omega) (fun h => fit (fun k hk => h k (by omega))) (by omega)
  clear ci csc cs cl cx hya hza hyl hv9 fit hy hz
  obtain ⟨rfl, hG⟩ := C
  refine FS_ofC (args := fun A => [.lst q, .agg [I n, .lst p]]) (R := fun A rr => rr = .tup [.agg [I 0, .lst []], B false]) Tryz.hT Tryz.mix Tryz.func46 rfl rfl (Nat.le_of_ble_eq_true rfl) ?_
  generalize hP : Tryz.prog = P
  intro A hA
  have C : Tryz.Cx P gl := ⟨hP.symm, hG⟩
  have hI : intsL = A.ints := by subst hA; rfl
  have q1 : A.bnot true = false := by subst hA; rfl
  have q2 : A.bnot false = true := by subst hA; rfl
  have q3 : ∀ x, A.pick false true x = x := fun x => by subst hA; cases x <;> rfl
  have q4 : ∀ x, A.pick true true x = true := fun x => by subst hA; cases x <;> rfl
  have q5 : A.lt 12 (A.cast (A.len q)) = false := by
    subst hA
    refine decide_eq_false ?_
    show ¬ (12 : Int) < ((q.length : Nat) : Int)
    omega
  iterate 2 (all_goals try cbv; all_goals repeat' (first | with_reducible exact True.intro | with_reducible refine And.intro ?_ ?_ | intro _))
  all_goals try exact oG
  refine callS hA rfl (am P C) ?_; rintro _ rfl
  iterate 2 (all_goals try cbv; all_goals repeat' (first | with_reducible exact True.intro | with_reducible refine And.intro ?_ ?_ | intro _))
  all_goals try exact oG
  all_goals try simp only [q1, q2, q3, q4, q5]
  iterate 2 (all_goals try cbv; all_goals repeat' (first | with_reducible exact True.intro | with_reducible refine And.intro ?_ ?_ | intro _))
  all_goals try exact oG
  all_goals try simp only [q1, q2, q3, q4, q5]
  refine ⟨_, fun _ => ad P C, ?_⟩
  iterate 2 (all_goals try cbv; all_goals repeat' (first | with_reducible exact True.intro | with_reducible refine And.intro ?_ ?_ | intro _))
  all_goals try exact oG
  all_goals try simp only [q1, q2, q3, q4, q5]
  clear am ad
  refine ⟨_, gi P C, ?_⟩
  iterate 2 (all_goals try cbv; all_goals repeat' (first | with_reducible exact True.intro | with_reducible refine And.intro ?_ ?_ | intro _))
  all_goals try exact oG
  refine ⟨_, g2 P C, ?_⟩
  iterate 2 (all_goals try cbv; all_goals repeat' (first | with_reducible exact True.intro | with_reducible refine And.intro ?_ ?_ | intro _))
  all_goals try exact oG
  refine callS hA rfl (g0 P C) ?_; rintro _ rfl
  clear gi g2 g0 q1 q2 q3 q4 q5
  iterate 2 (all_goals try cbv; all_goals repeat' (first | with_reducible exact True.intro | with_reducible refine And.intro ?_ ?_ | intro _))
  all_goals try exact oG
  refine loopI hA [] (ι := Int × List PV × List PV) (fun x => [(35, .pv (I x.1))]) (fun x => [(2, .box [.pv (I n), .pv (.lst x.2.1)]), (4, .box [.pv (I n), .pv (.lst x.2.2)])]) (fun x => (zs.length - x.1).toNat) (fun x => 0 ≤ x.1 ∧ x.1 ≤ zs.length ∧ x.2.1 = cells3 (c x.1.toNat).1 ∧ x.2.2 = cells3 (c x.1.toNat).2) (0, u0, v0) (by rfl) ?_ ?_ ?_
  all_goals try exact tG
  · exact ⟨Int.le_refl _, Int.natCast_nonneg _, hu0, hv0⟩
  rintro ⟨j, u, v⟩ ⟨hj0, hj1, hu, hv⟩
  simp only at hj0 hj1 hu hv
  have hout : ∀ _ : Unit, j = zs.length → v = v9 := by
    intro _ h
    have e : j.toNat = zs.length := by omega
    rw [e] at hv
    exact hend v hv
  have hs : ∀ _ : Unit, j < zs.length → _ := fun _ h => hstep j u v hj0 h hu hv
  clear hu hv hstep hend hu0 hv0
  iterate 2 (all_goals try cbv; all_goals repeat' (first | with_reducible exact True.intro | with_reducible refine And.intro ?_ ?_ | intro _))
  all_goals try exact oG
  · rename_i g
    have gj : j < zs.length := by clear hs hout; (subst hA; subst_vars; simp only [AR.std, natCast_eq, sG, reduceCtorEq] at *; try simp (disch := omega) only [AR.std, natCast_eq, sG, reduceCtorEq] at *); omega
    have hlt : j.toNat < zs.length := by omega
    obtain ⟨s, e, l, t, u2, v2, ⟨g1, g2, g3⟩, c1, c2, c3, x1, x2⟩ := hs () gj
    have hj2 : j + 1 ≤ zs.length := by omega
    have k1 : A.gb (A.el q (A.nat j)) 0 = s := by rw [← g1]; clear hs hout g1 g2 g3 c1 c2 c3 x1 x2 g; (subst hA; subst_vars; simp only [AR.std, natCast_eq, sG, reduceCtorEq] at *; try simp (disch := omega) only [AR.std, natCast_eq, sG, reduceCtorEq] at *)
    have k2 : A.gl (A.el q (A.nat j)) 1 = l := by rw [← g2]; clear hs hout g1 g2 g3 c1 c2 c3 x1 x2 g k1; (subst hA; subst_vars; simp only [AR.std, natCast_eq, sG, reduceCtorEq] at *; try simp (disch := omega) only [AR.std, natCast_eq, sG, reduceCtorEq] at *)
    have k3 : A.gi (A.el q (A.nat j)) 2 = e := by rw [← g3]; clear hs hout g1 g2 g3 c1 c2 c3 x1 x2 g k1 k2; (subst hA; subst_vars; simp only [AR.std, natCast_eq, sG, reduceCtorEq] at *; try simp (disch := omega) only [AR.std, natCast_eq, sG, reduceCtorEq] at *)
    clear hs hout g1 g2 g3 g
    all_goals try simp only [k1, k2, k3]
    refine ⟨_, dyExact_fs C, ?_⟩
    iterate 2 (all_goals try cbv; all_goals repeat' (first | with_reducible exact True.intro | with_reducible refine And.intro ?_ ?_ | intro _))
    all_goals try exact oG
    refine ⟨_, c1 P C, ?_⟩
    iterate 2 (all_goals try cbv; all_goals repeat' (first | with_reducible exact True.intro | with_reducible refine And.intro ?_ ?_ | intro _))
    all_goals try exact oG
    refine callS hA rfl (c2 P C) ?_; rintro _ rfl
    iterate 2 (all_goals try cbv; all_goals repeat' (first | with_reducible exact True.intro | with_reducible refine And.intro ?_ ?_ | intro _))
    all_goals try exact oG
    refine callS hA rfl (c3 P C) ?_; rintro _ rfl
    clear c1 c2 c3 k1 k2 k3
    iterate 2 (all_goals try cbv; all_goals repeat' (first | with_reducible exact True.intro | with_reducible refine And.intro ?_ ?_ | intro _))
    all_goals try exact oG
    obtain ⟨y1, hy1⟩ : ∃ y, y = j + 1 := ⟨_, rfl⟩
    obtain ⟨y2, hy2⟩ : ∃ y, y = u2 := ⟨_, rfl⟩
    obtain ⟨y3, hy3⟩ : ∃ y, y = v2 := ⟨_, rfl⟩
    refine ⟨⟨(y1, y2, y3), ?_⟩, ?_, ?_⟩
    rotate_left
    · cbv
      exact nG
    · (subst hA; subst_vars; simp only [AR.std, natCast_eq, sG, reduceCtorEq] at *; try simp (disch := omega) only [AR.std, natCast_eq, sG, reduceCtorEq] at *); omega
    · rw [hy1, hy2, hy3]
      exact ⟨by simp only; omega, hj2, x1, x2⟩
  · rename_i g
    have e := hout () (by clear hs hout; (subst hA; subst_vars; simp only [AR.std, natCast_eq, sG, reduceCtorEq] at *; try simp (disch := omega) only [AR.std, natCast_eq, sG, reduceCtorEq] at *); omega)
    subst e
    clear hs hout g
    iterate 2 (all_goals try cbv; all_goals repeat' (first | with_reducible exact True.intro | with_reducible refine And.intro ?_ ?_ | intro _))
    all_goals try exact oG
    refine callS hA rfl (mt P C) ?_; rintro _ rfl
    iterate 2 (all_goals try cbv; all_goals repeat' (first | with_reducible exact True.intro | with_reducible refine And.intro ?_ ?_ | intro _))
    all_goals try exact oG

set_option maxHeartbeats 2000000 in
set_option maxRecDepth 100000 in
theorem implPolyAt_N_fs (C : Cx P gl) {ys zs : List Cell3} {p q : List PV} {n : Int} (hq : q = cells3 zs) (hp : p = cells3 ys) (ok : ¬paOk zs n ys)
    (hl : ys.length ≤ 2000000) (hy : ∀ y ∈ ys, y.2.1.length ≤ 2000000) (hm : zs.length ≤ 2000000) (hz : ∀ y ∈ zs, y.2.1.length ≤ 2000000) :
    FS P gl 46 [.lst q, .agg [I n, .lst p]] (· = .tup [.agg [I 0, .lst []], B false]) := by
  obtain ⟨b, hb⟩ := bool_of (matOk n ys)
  obtain ⟨b2, hb2⟩ := bool_of (allY zs)
  have am := fun (P' : Program) (C' : Cx P' gl) => implMatOk_fs C' (n := n) (b := b) hp hb hl hy
  have ad := fun (P' : Program) (C' : Cx P' gl) => areDys_fs C' (b := b2) hq hb2 hm hz
  obtain ⟨lb, hlb⟩ : ∃ lb, lb = decide ((12 : Int) < (zs.length : Nat)) := ⟨_, rfl⟩
  have hql : q.length = zs.length := by rw [hq, cells3_len]
  have hno : b = true → lb = false → b2 = true → False := by
    intro h1 h2 h3
    rw [hlb, decide_eq_false_iff_not] at h2
    exact ok ⟨hb.1 h1, by omega, hb2.1 h3⟩
  clear ok hp hq hy hz hb hb2
  obtain ⟨rfl, hG⟩ := C
  refine FS_ofC (args := fun A => [.lst q, .agg [I n, .lst p]]) (R := fun A rr => rr = .tup [.agg [I 0, .lst []], B false]) Tryz.hT Tryz.mix Tryz.func46 rfl rfl (Nat.le_of_ble_eq_true rfl) ?_
  generalize hP : Tryz.prog = P
  intro A hA
  have C : Tryz.Cx P gl := ⟨hP.symm, hG⟩
  have hI : intsL = A.ints := by subst hA; rfl
  have q5 : A.lt 12 (A.cast (A.len q)) = lb := by
    rw [hlb, ← hql]; subst hA; rfl
  iterate 2 (all_goals try cbv; all_goals repeat' (first | with_reducible exact True.intro | with_reducible refine And.intro ?_ ?_ | intro _))
  all_goals try exact oG
  refine callS hA rfl (am P C) ?_; rintro _ rfl
  iterate 2 (all_goals try cbv; all_goals repeat' (first | with_reducible exact True.intro | with_reducible refine And.intro ?_ ?_ | intro _))
  all_goals try exact oG
  all_goals try simp only [q5]
  iterate 2 (all_goals try cbv; all_goals repeat' (first | with_reducible exact True.intro | with_reducible refine And.intro ?_ ?_ | intro _))
  all_goals try exact oG
  all_goals try simp only [q5]
  refine ⟨_, fun _ => ad P C, ?_⟩
  iterate 2 (all_goals try cbv; all_goals repeat' (first | with_reducible exact True.intro | with_reducible refine And.intro ?_ ?_ | intro _))
  all_goals try exact oG
  · rename_i g
    exfalso
    clear am ad hI q5
    subst hA
    revert g hno
    cases b <;> cases lb <;> cases b2 <;> intro hno g <;> first | exact hno rfl rfl rfl | exact absurd g (by decide)

end Tryz
end Go.Proofs

