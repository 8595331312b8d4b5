/- Contracts: sizes and the greatest of two numbers in any form. -/
import Derived.Test.YtlkiofkkjbodjaaGreatDoorBM13
import Derived.Test.YtlkiofkkjbodjaaGreatDoorBEvD
import Derived.Test.YtlkiofkkjbodjaaGreatDoorBM6
set_option maxHeartbeats 1000000
set_option maxRecDepth 100000
namespace Go.Proofs
open Go Go.Pe Go.Dg
namespace Tryz
set_option linter.unusedSimpArgs false
set_option linter.unusedVariables false
variable {P : Program} {gl : List (Nat × Obj)}

theorem aDN (C : Cx P gl) {ys zs : List aC} {p q r : List PV} {n : Int} {Y : Nat → Nat → aC} (hp : p = aB ys) (hq : q = aB zs) (hr : r = aB (bY Y n.toNat n.toNat)) (hn : 0 ≤ n) (hn4 : n ≤ 4) (hyl : (ys.length : Int) = n * n) (hzl : (zs.length : Int) = n * n)
  (hY : ∀ i j : Nat, i < n.toNat → j < n.toNat → ∃ c t : Nat → aC, c 0 = noY ∧ c n.toNat = Y i j ∧ ∀ k : Nat, k < n.toNat → ∀ gl, lO gl 83 (ys.getD (i * n.toNat + k) noY) (zs.getD (k * n.toNat + j) noY) (t k) ∧ lO gl 81 (c k) (t k) (c (k + 1))) :
  FS P gl 96 [.agg [I n, .lst p], .agg [I n, .lst q]] (· = .agg [I n, .lst r]) := by
 have hg := fun (P' : Program) (C' : Cx P' gl) => zM C' (f := 172) (a0 := [I n, .lst p]) (a1 := [I n, .lst q]) (y := Y) hn (by omega) hr (fun i j s l e u h1 h2 h3 h4 h5 h6 P' C' => by
  obtain ⟨c, t, c0, cn, ct⟩ := hY i.toNat j.toNat (by omega) (by omega)
  exact aA2 C' hp hq h1 h3 hn hn4 h2 h4 hyl hzl c0 (cn.trans h5) h6 (fun k hk => (ct k hk gl).1) (fun k hk => (ct k hk gl).2))
 clear hY hp hq hr hyl hzl
 refine gS C func96 rfl rfl rfl fun A hA hI => ?_
 iterate 2 all_goals try cbv; with_reducible repeat' first | exact ⟨⟩ | apply And.intro | intro _
 all_goals try exact oG
 refine aD hA rfl (hg P C) ?_; rintro _ rfl
 iterate 2 all_goals try cbv; with_reducible repeat' first | exact ⟨⟩ | apply And.intro | intro _
 all_goals try exact oG

theorem nS {ys zs : List aC} {d1 d2 : Nat → Dyadic} {L E : Nat} {n : Int} (h1 : XL d1 L E ys) (h2 : XL d2 L E zs) (hL : L ≤ 10000) (hE : E ≤ 10000) (hn : 0 ≤ n) (hn4 : n ≤ 4) (hyl : (ys.length : Int) = n * n) (hzl : (zs.length : Int) = n * n) :
  ∃ ws, (ws.length : Int) = n * n ∧ XL (nQ n d1 d2) (L + L + 4 * (E + E + 2)) (E + E) ws ∧
   ∀ (P : Program) (gl : List (Nat × Obj)) (p q r : List PV), Cx P gl → p = aB ys → q = aB zs → r = aB ws → FS P gl 96 [.agg [I n, .lst p], .agg [I n, .lst q]] (· = .agg [I n, .lst r]) := by
 have hnn : n * n = ((n.toNat * n.toNat : Nat) : Int) := by rw [Int.natCast_mul, Int.toNat_of_nonneg hn]
 obtain ⟨m, hm⟩ : ∃ m, m = n.toNat := ⟨_, rfl⟩
 have hm4 : m ≤ 4 := by omega
 obtain ⟨Y, hY⟩ := places (n := m) (Q := fun i j y => (∃ c t : Nat → aC, c 0 = noY ∧ c m = y ∧ ∀ k : Nat, k < m → ∀ gl, lO gl 83 (ys.getD (i * m + k) noY) (zs.getD (k * m + j) noY) (t k) ∧ lO gl 81 (c k) (t k) (c (k + 1))) ∧ X (nQ n d1 d2 (i * m + j)) (L + L + 4 * (E + E + 2)) (E + E) y) (by
  intro i j hi hj
  rw [hm] at hj
  have hmd := aKE (n := n) (f := d1) (g := d2) (i := i) hj
  rw [← hm] at hmd hj
  obtain ⟨c, t, c0, cs, cx⟩ := chain (S := bF (fun a => d1 (i * m + a) * d2 (a * m + j))) (Lf := fun k => L + L + k * (E + E + 2)) (E := E + E) (y0 := noY)
   (Q := fun k y t y' => ∀ gl, lO gl 83 (ys.getD (i * m + k) noY) (zs.getD (k * m + j) noY) t ∧ lO gl 81 y t y') zE (n := m) (by
    intro k y hk hx
    have hle : k * (E + E + 2) ≤ 4 * (E + E + 2) := Nat.mul_le_mul_right _ (by omega)
    obtain ⟨t, t1, t2⟩ := aQG (h1 (i * m + k) (by have := bQ hi hk; rw [hm] at this ⊢; omega)) (h2 (k * m + j) (by have := bQ hk hj; rw [hm] at this ⊢; omega)) (by omega) (by omega) (by omega) (by omega)
    obtain ⟨y', y1, y2⟩ := aQI hx (t1.mono (L' := L + L + k * (E + E + 2)) (by omega) (Nat.le_refl _)) (by omega) (by omega)
    refine ⟨t, y', fun gl => ⟨fun P p q r C h3 h4 h5 => t2 P gl p q r C h3 h4 h5, fun P p q r C h3 h4 h5 => y2 P gl p q r C h3 h4 h5⟩, ?_⟩
    exact y1.mono (by rw [Nat.add_mul, Nat.one_mul]; omega) (Nat.le_refl _))
  refine ⟨c m, ⟨c, t, c0, rfl, cs⟩, ?_⟩
  rw [hmd]
  exact (cx m (Nat.le_refl _)).mono (Nat.add_le_add_left (Nat.mul_le_mul_right _ hm4) _) (Nat.le_refl _))
 subst hm
 refine ⟨bY Y n.toNat n.toNat, by rw [cP, hnn], pL (fun i j hi hj => (hY i j hi hj).2), ?_⟩
 intro P gl p q r C hp hq hr
 exact aDN C hp hq hr hn hn4 hyl hzl (fun i j hi hj => (hY i j hi hj).1)

end Tryz
end Go.Proofs

set_option maxHeartbeats 1000000
set_option maxRecDepth 100000
namespace Go.Proofs
open Go Go.Pe Go.Dg
namespace Tryz
set_option linter.unusedSimpArgs false
set_option linter.unusedVariables false
variable {P : Program} {gl : List (Nat × Obj)}

theorem aF4 (C : Cx P gl) {e : Int} {p : List PV} {s : Bool} : FS P gl 176 [.agg [B s, .lst p, I e]] (· = .agg [B false, .lst p, I e]) := by
 refine gS C func176 rfl rfl rfl fun A hA hI => ?_
 iterate 2 all_goals try cbv; with_reducible repeat' first | exact ⟨⟩ | apply And.intro | intro _
 all_goals try exact oG

theorem aIQ (C : Cx P gl) {s t s0 : Bool} {lu lv : List Int} {p u v r : List PV} {e g f c : Int} (hp : p = aB [(s, lu, e), (t, lv, g)]) (hu : u = aA lu) (hv : v = aA lv) (hc : ∀ P', Cx P' gl → FS P' gl 225 [.agg [B t, .lst v, I g], .agg [B s, .lst u, I e]] (· = I c))
  (h1 : 0 < c → s0 = t ∧ r = v ∧ f = g) (h2 : ¬ 0 < c → s0 = s ∧ r = u ∧ f = e) :
  FS P gl 226 [.lst p, .fn 225 []] (· = .agg [B s0, .lst r, I f]) := by
 obtain ⟨ys, hys⟩ : ∃ ys : List aC, ys = [(s, lu, e), (t, lv, g)] := ⟨_, rfl⟩
 have hpl : ys.length = 2 := by rw [hys]; rfl
 rw [← hys] at hp
 refine gS C func226 rfl rfl rfl fun A hA hI => ?_
 have a1 : A.gb (A.el p (A.nat 0)) 0 = s := by clear hc h1 h2; subst hA hp hys hu hv; rfl
 have a2 : A.gl (A.el p (A.nat 0)) 1 = u := by clear hc h1 h2; subst hA hp hys hu hv; rfl
 have a3 : A.gi (A.el p (A.nat 0)) 2 = e := by clear hc h1 h2; subst hA hp hys hu hv; rfl
 have b1 : A.gb (A.el p (A.nat 1)) 0 = t := by clear hc h1 h2; subst hA hp hys hu hv; rfl
 have b2 : A.gl (A.el p (A.nat 1)) 1 = v := by clear hc h1 h2; subst hA hp hys hu hv; rfl
 have b3 : A.gi (A.el p (A.nat 1)) 2 = g := by clear hc h1 h2; subst hA hp hys hu hv; rfl
 clear hys hu hv
 iterate 2 all_goals try cbv; with_reducible repeat' first | exact ⟨⟩ | apply And.intro | intro _
 all_goals try exact oG
 simp only [a1, a2, a3]
 clear a1 a2 a3
 refine aZ hA [] (ι := Int × Bool × List PV × Int) (fun x => [(6, .pv (I x.1))]) (fun x => [(1, .box [.pv (B x.2.1), .pv (.lst x.2.2.1), .pv (I x.2.2.2)])]) (fun x => (2 - x.1).toNat) (fun x => 1 ≤ x.1 ∧ x.1 ≤ 2 ∧ (x.1 = 1 → x.2.1 = s ∧ x.2.2.1 = u ∧ x.2.2.2 = e) ∧ (x.1 = 2 → x.2.1 = s0 ∧ x.2.2.1 = r ∧ x.2.2.2 = f)) (1, s, u, e) (by rfl) ?_ ?_ ?_
 all_goals try exact tG
 ·exact ⟨by simp only; omega, by simp only; omega, fun _ => ⟨rfl, rfl, rfl⟩, fun h => by simp only at h; omega⟩
 rintro ⟨i, s1, w, h⟩ ⟨hi0, hi1, hi2, hi3⟩
 simp only at hi0 hi1 hi2 hi3
 iterate 2 all_goals try cbv; with_reducible repeat' first | exact ⟨⟩ | apply And.intro | intro _
 all_goals try exact oG
 ·rename_i g1 g2
  have gi : i = 1 := by clear hc h1 h2 b1 b2 b3 g1 hi2 hi3; exact eG
  obtain ⟨e1, e2, e3⟩ := hi2 gi
  clear hi2 hi3 g1 g2 hi0 hi1
  rw [gi, e1, e2, e3]
  simp only [b1, b2, b3]
  refine aD hA rfl (hc P C) ?_; rintro _ rfl
  clear hc
  iterate 2 all_goals try cbv; with_reducible repeat' first | exact ⟨⟩ | apply And.intro | intro _
  all_goals try exact oG
  ·rename_i g3
   obtain ⟨k1, k2, k3⟩ := h1 (by clear h1 h2 b1 b2 b3; exact eG)
   simp only [b1, b2, b3]
   clear h1 h2 b1 b2 b3 g3
   obtain ⟨y1, hy1⟩ : ∃ y, y = 2 := ⟨_, rfl⟩
   obtain ⟨y2, hy2⟩ : ∃ y, y = t := ⟨_, rfl⟩
   obtain ⟨y3, hy3⟩ : ∃ y, y = v := ⟨_, rfl⟩
   obtain ⟨y4, hy4⟩ : ∃ y, y = g := ⟨_, rfl⟩
   refine ⟨⟨(y1, y2, y3, y4), ?_⟩, ?_, ?_⟩
   rotate_left
   ·cbv
    exact nG
   ·exact eG
   ·rw [hy1, hy2, hy3, hy4]
    exact ⟨by simp only; omega, by simp only; omega, fun h => absurd h (by simp only; omega), fun _ => ⟨k1.symm, k2.symm, k3.symm⟩⟩
  ·rename_i g3
   obtain ⟨k1, k2, k3⟩ := h2 (by clear h1 h2 b1 b2 b3; exact eG)
   clear h1 h2 b1 b2 b3 g3
   obtain ⟨y1, hy1⟩ : ∃ y, y = 2 := ⟨_, rfl⟩
   obtain ⟨y2, hy2⟩ : ∃ y, y = s := ⟨_, rfl⟩
   obtain ⟨y3, hy3⟩ : ∃ y, y = u := ⟨_, rfl⟩
   obtain ⟨y4, hy4⟩ : ∃ y, y = e := ⟨_, rfl⟩
   refine ⟨⟨(y1, y2, y3, y4), ?_⟩, ?_, ?_⟩
   rotate_left
   ·cbv
    exact nG
   ·exact eG
   ·rw [hy1, hy2, hy3, hy4]
    exact ⟨by simp only; omega, by simp only; omega, fun h => absurd h (by simp only; omega), fun _ => ⟨k1.symm, k2.symm, k3.symm⟩⟩
 ·rename_i g1 g2
  obtain ⟨e1, e2, e3⟩ := hi3 (by clear hc h1 h2 b1 b2 b3 g1 hi2 hi3; exact eG)
  rw [e1, e2, e3]

theorem aS7 (C : Cx P gl) {s t s0 : Bool} {lu lv : List Int} {p u v r : List PV} {e g f c : Int} (hp : p = aB [(s, lu, e), (t, lv, g)]) (hu : u = aA lu) (hv : v = aA lv) (hc : ∀ P', Cx P' gl → FS P' gl 225 [.agg [B t, .lst v, I g], .agg [B s, .lst u, I e]] (· = I c))
  (h1 : 0 < c → s0 = t ∧ r = v ∧ f = g) (h2 : ¬ 0 < c → s0 = s ∧ r = u ∧ f = e) :
  FS P gl 163 [.lst p] (· = .agg [B s0, .lst r, I f]) := by
 have hm := fun (P' : Program) (C' : Cx P' gl) => aIQ C' hp hu hv hc h1 h2
 clear hp hu hv hc h1 h2
 refine gS C func163 rfl rfl rfl fun A hA hI => ?_
 iterate 2 all_goals try cbv; with_reducible repeat' first | exact ⟨⟩ | apply And.intro | intro _
 all_goals try exact oG
 refine aD hA rfl (hm P C) ?_; rintro _ rfl
 iterate 2 all_goals try cbv; with_reducible repeat' first | exact ⟨⟩ | apply And.intro | intro _
 all_goals try exact oG

theorem aXQ {d1 d2 : Dyadic} {L E : Nat} {y1 y2 : aC} (h1 : X d1 L E y1) (h2 : X d2 L E y2) (hL : L ≤ 1000000) (hE : E ≤ 100000) : ∃ y, X (maxD d1 d2) L E y ∧
  ∀ (P : Program) (gl : List (Nat × Obj)) (p r : List PV), Cx P gl → p = aB [y1, y2] → r = aA y.2.1 → FS P gl 163 [.lst p] (· = .agg [B y.1, .lst r, I y.2.2]) := by
 refine ⟨_, aXN h1 h2, ?_⟩
 intro P gl p r C hp hr
 obtain ⟨z1, a1, a2, a3, a4, a5⟩ := h1
 obtain ⟨z2, b1, b2, b3, b4, b5⟩ := h2
 refine aS7 C (s := y1.1) (lu := y1.2.1) (e := y1.2.2) (t := y2.1) (lv := y2.2.1) (g := y2.2.2) hp rfl rfl (fun P' C' => wQ C' (by rw [b2]) b1 (by rw [a2]) a1 (c := gC d2 d1) (by rw [a3, b3]) (by omega) (by omega) (by omega) (by omega)) ?_ ?_
 ·intro h
  have h' := (gK d1 d2).1 h
  rw [if_pos h'] at hr ⊢
  exact ⟨rfl, hr, rfl⟩
 ·intro h
  have h' : ¬ gC d1 d2 < 0 := fun g => h ((gK d1 d2).2 g)
  rw [if_neg h'] at hr ⊢
  exact ⟨rfl, hr, rfl⟩

end Tryz
end Go.Proofs

