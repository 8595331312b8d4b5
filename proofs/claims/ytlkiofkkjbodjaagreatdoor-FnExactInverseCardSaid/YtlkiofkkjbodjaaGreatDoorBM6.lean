/- Contracts: sums and differences of numbers in any form, and of matrices of them. -/
import Derived.Test.YtlkiofkkjbodjaaGreatDoorBM7
set_option maxHeartbeats 1000000
set_option maxRecDepth 100000
namespace Go.Proofs
open Go Go.Pe Go.Dg
namespace Tryz
set_option linter.unusedSimpArgs false
set_option linter.unusedVariables false
variable {P : Program} {gl : List (Nat × Obj)}

theorem sub_eq (a b : Dyadic) : a - b = a + -b := by grind

theorem aQI {d1 d2 : Dyadic} {L E : Nat} {y1 y2 : aC} (h1 : X d1 L E y1) (h2 : X d2 L E y2) (hL : L ≤ 1000000) (hE : E ≤ 100000) : ∃ y, X (d1 + d2) (L + E + 2) E y ∧
  ∀ (P : Program) (gl : List (Nat × Obj)) (p q r : List PV), Cx P gl → p = aA y1.2.1 → q = aA y2.2.1 → r = aA y.2.1 → FS P gl 81 [.agg [B y1.1, .lst p, I y1.2.2], .agg [B y2.1, .lst q, I y2.2.2]] (· = .agg [B y.1, .lst r, I y.2.2]) := by
 obtain ⟨z1, a1, a2, a3, a4, a5⟩ := h1
 obtain ⟨z2, b1, b2, b3, b4, b5⟩ := h2
 obtain ⟨w, f, hd⟩ := aJ8 z1 y1.2.2 z2 y2.2.2
 have hlen : (dg w.natAbs).length ≤ L + E + 2 ∧ f.natAbs ≤ E := by
  obtain ⟨x, y, ha, rfl⟩ := hd
  obtain ⟨c2, c1, c3⟩ := iM ha b4 a4 b5 a5
  exact ⟨by have := Go.Pe.kR c1 c2; omega, c3⟩
 refine ⟨(decide (w < 0), dg w.natAbs, f), ⟨w, rfl, rfl, by rw [aJ9 hd, a3, b3], hlen.1, hlen.2⟩, ?_⟩
 intro P gl p q r C hp hq hr
 exact tO C (by rw [hp, a2]) a1 (by rw [hq, b2]) b1 hd hr rfl (by omega) (by omega) (by omega) (by omega)

theorem aVO {d1 d2 : Dyadic} {L E : Nat} {y1 y2 : aC} (h1 : X d1 L E y1) (h2 : X d2 L E y2) (hL : L ≤ 1000000) (hE : E ≤ 100000) : ∃ y, X (d1 - d2) (L + E + 2) E y ∧
  ∀ (P : Program) (gl : List (Nat × Obj)) (p q r : List PV), Cx P gl → p = aA y1.2.1 → q = aA y2.2.1 → r = aA y.2.1 → FS P gl 174 [.agg [B y1.1, .lst p, I y1.2.2], .agg [B y2.1, .lst q, I y2.2.2]] (· = .agg [B y.1, .lst r, I y.2.2]) := by
 obtain ⟨z1, a1, a2, a3, a4, a5⟩ := h1
 obtain ⟨z2, b1, b2, b3, b4, b5⟩ := h2
 obtain ⟨w, f, hd⟩ := aJ8 z1 y1.2.2 (-z2) y2.2.2
 have hlen : (dg w.natAbs).length ≤ L + E + 2 ∧ f.natAbs ≤ E := by
  obtain ⟨x, y, ha, rfl⟩ := hd
  obtain ⟨c2, c1, c3⟩ := iM ha (by rw [Int.natAbs_neg]; exact b4) a4 b5 a5
  exact ⟨by have := Go.Pe.kR c1 c2; omega, c3⟩
 refine ⟨(decide (w < 0), dg w.natAbs, f), ⟨w, rfl, rfl, by rw [aJ9 hd, a3, b3, ← uR]; exact (sub_eq _ _).symm, hlen.1, hlen.2⟩, ?_⟩
 intro P gl p q r C hp hq hr
 exact aA4 C (by rw [hp, a2]) a1 (by rw [hq, b2]) b1 hd hr rfl (by omega) (by omega) (by omega) (by omega)

theorem aA5 (C : Cx P gl) {ys zs : List aC} {p q r : List PV} {n i j : Int} {s : Bool} {l : List Int} {e : Int} (hp : p = aB ys) (hq : q = aB zs) (hi : 0 ≤ i) (hj : 0 ≤ j) (hn : 0 ≤ n) (hn4 : n ≤ 4) (hi4 : i < n) (hj4 : j < n)
  (hyl : (ys.length : Int) = n * n) (hzl : (zs.length : Int) = n * n) (hr : r = aA l)
  (hc : ∀ (P : Program) (gl : List (Nat × Obj)) (p q r : List PV), Cx P gl → p = aA (ys.getD (i * n + j).toNat noY).2.1 → q = aA (zs.getD (i * n + j).toNat noY).2.1 → r = aA l →
   FS P gl 174 [.agg [B (ys.getD (i * n + j).toNat noY).1, .lst p, I (ys.getD (i * n + j).toNat noY).2.2], .agg [B (zs.getD (i * n + j).toNat noY).1, .lst q, I (zs.getD (i * n + j).toNat noY).2.2]] (· = .agg [B s, .lst r, I e])) :
  FS P gl 173 [I i, I j, .ptr [I n, .lst p] 0, .ptr [I n, .lst q] 0] (· = .agg [B s, .lst r, I e]) := by
 have hk : i * n + j < n * n := by
  have : (i + 1) * n ≤ n * n := Int.mul_le_mul_of_nonneg_right (by omega) hn
  rw [Int.add_mul, Int.one_mul] at this
  omega
 obtain ⟨y1, hy1⟩ : ∃ y, y = ys.getD (i * n + j).toNat noY := ⟨_, rfl⟩
 obtain ⟨y2, hy2⟩ : ∃ y, y = zs.getD (i * n + j).toNat noY := ⟨_, rfl⟩
 rw [← hy1, ← hy2] at hc
 obtain ⟨s1, l1, e1⟩ := y1
 obtain ⟨s2, l2, e2⟩ := y2
 obtain ⟨p1, hp1⟩ : ∃ p1, p1 = aA l1 := ⟨_, rfl⟩
 obtain ⟨p2, hp2⟩ : ∃ p2, p2 = aA l2 := ⟨_, rfl⟩
 have c1 := fun (P' : Program) (C' : Cx P' gl) => gL C' hp hi hj hn hn4 (by omega) (by omega) (by omega) hy1.symm hp1
 have c2 := fun (P' : Program) (C' : Cx P' gl) => gL C' hq hi hj hn hn4 (by omega) (by omega) (by omega) hy2.symm hp2
 have c3 := fun (P' : Program) (C' : Cx P' gl) => hc P' gl p1 p2 r C' hp1 hp2 hr
 simp only at c3
 clear hc hy1 hy2 hp1 hp2 hr hp hq hk hyl hzl
 refine gS C func173 rfl rfl rfl fun A hA hI => ?_
 iterate 2 all_goals try cbv; with_reducible repeat' first | exact ⟨⟩ | apply And.intro | intro _
 all_goals try exact oG
 refine ⟨_, c1 P C, ?_⟩
 iterate 2 all_goals try cbv; with_reducible repeat' first | exact ⟨⟩ | apply And.intro | intro _
 all_goals try exact oG
 refine aD hA rfl (c2 P C) ?_; rintro _ rfl
 iterate 2 all_goals try cbv; with_reducible repeat' first | exact ⟨⟩ | apply And.intro | intro _
 all_goals try exact oG
 refine aD hA rfl (c3 P C) ?_; rintro _ rfl
 iterate 2 all_goals try cbv; with_reducible repeat' first | exact ⟨⟩ | apply And.intro | intro _
 all_goals try exact oG

theorem aDQ (C : Cx P gl) {ys zs : List aC} {p q r : List PV} {n : Int} {Y : Nat → Nat → aC} (hp : p = aB ys) (hq : q = aB zs) (hr : r = aB (bY Y n.toNat n.toNat)) (hn : 0 ≤ n) (hn4 : n ≤ 4) (hyl : (ys.length : Int) = n * n) (hzl : (zs.length : Int) = n * n)
  (hY : ∀ i j : Nat, i < n.toNat → j < n.toNat → ∀ (P : Program) (gl : List (Nat × Obj)) (p q r : List PV), Cx P gl → p = aA (ys.getD (i * n.toNat + j) noY).2.1 → q = aA (zs.getD (i * n.toNat + j) noY).2.1 → r = aA (Y i j).2.1 →
   FS P gl 174 [.agg [B (ys.getD (i * n.toNat + j) noY).1, .lst p, I (ys.getD (i * n.toNat + j) noY).2.2], .agg [B (zs.getD (i * n.toNat + j) noY).1, .lst q, I (zs.getD (i * n.toNat + j) noY).2.2]] (· = .agg [B (Y i j).1, .lst r, I (Y i j).2.2])) :
  FS P gl 97 [.agg [I n, .lst p], .agg [I n, .lst q]] (· = .agg [I n, .lst r]) := by
 have hg := fun (P' : Program) (C' : Cx P' gl) => zM C' (f := 173) (a0 := [I n, .lst p]) (a1 := [I n, .lst q]) (y := Y) hn (by omega) hr (fun i j s l e u h1 h2 h3 h4 h5 h6 P' C' => by
  have e1 : (i * n + j).toNat = i.toNat * n.toNat + j.toNat := by
   have : i * n = ((i.toNat * n.toNat : Nat) : Int) := by rw [Int.natCast_mul, Int.toNat_of_nonneg h1, Int.toNat_of_nonneg hn]
   omega
  have h7 := hY i.toNat j.toNat (by omega) (by omega)
  rw [h5, ← e1] at h7
  exact aA5 C' hp hq h1 h3 hn hn4 h2 h4 hyl hzl h6 h7)
 clear hY hp hq hr hyl hzl
 refine gS C func97 rfl rfl rfl fun A hA hI => ?_
 iterate 2 all_goals try cbv; with_reducible repeat' first | exact ⟨⟩ | apply And.intro | intro _
 all_goals try exact oG
 refine aD hA rfl (hg P C) ?_; rintro _ rfl
 iterate 2 all_goals try cbv; with_reducible repeat' first | exact ⟨⟩ | apply And.intro | intro _
 all_goals try exact oG

theorem nV {ys zs : List aC} {d1 d2 : Nat → Dyadic} {L E : Nat} {n : Int} (h1 : XL d1 L E ys) (h2 : XL d2 L E zs) (hL : L ≤ 1000000) (hE : E ≤ 100000) (hn : 0 ≤ n) (hn4 : n ≤ 4) (hyl : (ys.length : Int) = n * n) (hzl : (zs.length : Int) = n * n) :
  ∃ ws, (ws.length : Int) = n * n ∧ XL (fun k => d1 k - d2 k) (L + E + 2) E ws ∧
   ∀ (P : Program) (gl : List (Nat × Obj)) (p q r : List PV), Cx P gl → p = aB ys → q = aB zs → r = aB ws → FS P gl 97 [.agg [I n, .lst p], .agg [I n, .lst q]] (· = .agg [I n, .lst r]) := by
 have hnn : n * n = ((n.toNat * n.toNat : Nat) : Int) := by rw [Int.natCast_mul, Int.toNat_of_nonneg hn]
 have hlt : ∀ i j : Nat, i < n.toNat → j < n.toNat → i * n.toNat + j < n.toNat * n.toNat := by
  intro i j hi hj
  have := Nat.mul_le_mul_right n.toNat (show i + 1 ≤ n.toNat from hi)
  rw [Nat.add_mul, Nat.one_mul] at this
  omega
 obtain ⟨Y, hY⟩ := places (n := n.toNat) (fun i j hi hj => aVO (h1 (i * n.toNat + j) (by have := hlt i j hi hj; omega)) (h2 (i * n.toNat + j) (by have := hlt i j hi hj; omega)) hL hE)
 refine ⟨bY Y n.toNat n.toNat, by rw [cP, hnn], pL (fun i j hi hj => (hY i j hi hj).1), ?_⟩
 intro P gl p q r C hp hq hr
 exact aDQ C hp hq hr hn hn4 hyl hzl (fun i j hi hj => (hY i j hi hj).2)

end Tryz
end Go.Proofs
