/- Contracts: products of matrices within bounds, in the reference. -/
import Derived.Test.YtlkiofkkjbodjaaGreatDoorBM15
import Derived.Test.YtlkiofkkjbodjaaGreatDoorBEvD
import Derived.Test.YtlkiofkkjbodjaaGreatDoorBN29
set_option maxHeartbeats 1000000
set_option maxRecDepth 100000
namespace Go.Proofs
open Go Go.Pe Go.Dg
namespace Tryz
set_option linter.unusedSimpArgs false
set_option linter.unusedVariables false
variable {P : Program} {gl : List (Nat × Obj)}

theorem aQK {ys zs : List aC} {d1 d2 : Nat → Dyadic} {a1 b1 a2 b2 : Nat} {m i j : Nat} (h1 : CL a1 b1 d1 ys) (h2 : CL a2 b2 d2 zs) (ha : a1 + a2 ≤ 50000) (hb : b1 + b2 + 4 ≤ 80000) (hm4 : m ≤ 4) (hyl : ys.length = m * m) (hzl : zs.length = m * m) (hi : i < m) (hj : j < m)
  (k : Nat) (hk : k < m) : ∃ (s1 s2 s3 s4 : Bool) (e1 e2 e3 e4 : Int) (u1 u2 u3 u4 : List PV), (ys.getD (i * m + k) noY).1 = s1 ∧ aA (ys.getD (i * m + k) noY).2.1 = u1 ∧ (ys.getD (i * m + k) noY).2.2 = e1 ∧ (zs.getD (k * m + j) noY).1 = s2 ∧ aA (zs.getD (k * m + j) noY).2.1 = u2 ∧ (zs.getD (k * m + j) noY).2.2 = e2 ∧
   (∀ P' gl, Cx P' gl → FS P' gl 71 [.agg [B s1, .lst u1, I e1], .agg [B s2, .lst u2, I e2]] (· = .agg [B s3, .lst u3, I e3])) ∧
   (∀ (P' : Program) (gl : List (Nat × Obj)) (s : Bool) (u : List PV) (e : Int), Cx P' gl → s = (aG (bF (fun a => d1 (i * m + a) * d2 (a * m + j)) k)).1 → u = aA (aG (bF (fun a => d1 (i * m + a) * d2 (a * m + j)) k)).2.1 → e = (aG (bF (fun a => d1 (i * m + a) * d2 (a * m + j)) k)).2.2 →
    FS P' gl 70 [.agg [B s, .lst u, I e], .agg [B s3, .lst u3, I e3]] (· = .agg [B s4, .lst u4, I e4])) ∧
   s4 = (aG (bF (fun a => d1 (i * m + a) * d2 (a * m + j)) (k + 1))).1 ∧ u4 = aA (aG (bF (fun a => d1 (i * m + a) * d2 (a * m + j)) (k + 1))).2.1 ∧ e4 = (aG (bF (fun a => d1 (i * m + a) * d2 (a * m + j)) (k + 1))).2.2 := by
 obtain ⟨ff, hff⟩ : ∃ ff : Nat → Dyadic, ff = fun a => d1 (i * m + a) * d2 (a * m + j) := ⟨_, rfl⟩
 have hM : ∀ a, a < m → Mg (a1 + a2) (b1 + b2) (ff a) := by
  intro a ha
  rw [hff]
  exact ((h1 (i * m + a) (by rw [hyl]; exact bQ hi ha)).2).mul ((h2 (a * m + j) (by rw [hzl]; exact bQ ha hj)).2)
 have m1 := Mg.bF hM k (by omega)
 have m2 := hM k hk
 obtain ⟨e1, m3⟩ := h1 (i * m + k) (by rw [hyl]; exact bQ hi hk)
 obtain ⟨e2, m4⟩ := h2 (k * m + j) (by rw [hzl]; exact bQ hk hj)
 have c1 := eJ m1
 have c2 := iC m1
 have c3 := eO m1
 have c4 := eJ m2
 have c5 := iC m2
 have c6 := eO m2
 have c7 := eJ m3
 have c8 := iC m3
 have c9 := eO m3
 have k1 := eJ m4
 have k2 := iC m4
 have k3 := eO m4
 rw [← hff]
 refine ⟨(aG (d1 (i * m + k))).1, (aG (d2 (k * m + j))).1, _, _, (aG (d1 (i * m + k))).2.2, (aG (d2 (k * m + j))).2.2, _, _, aA (aG (d1 (i * m + k))).2.1, aA (aG (d2 (k * m + j))).2.1, _, _, by rw [e1], by rw [e1], by rw [e1], by rw [e2], by rw [e2], by rw [e2],
  fun P' gl C' => aF3 C' (z1 := cZ (d1 (i * m + k))) (z2 := cZ (d2 (k * m + j))) rfl rfl rfl rfl (d := ff k) (by rw [hff]; show _ = mk _ (cE (d1 (i * m + k))) * mk _ (cE (d2 (k * m + j))); rw [cH, cH]) rfl rfl rfl (by show (cE (d1 (i * m + k))).natAbs ≤ _; omega) (by show (cE (d2 (k * m + j))).natAbs ≤ _; omega) (by omega) (by omega),
  fun P' gl s u e C' h3 h4 h5 => pO C' h4 h3 rfl rfl (d := bF ff (k + 1)) (by rw [h5]; show bF ff k + ff k = _; rw [cH]; congr 1; exact (cH _).symm) rfl rfl rfl (by rw [h5]; show (cE (bF ff k)).natAbs ≤ _; omega) (by omega) (by omega) (by omega), rfl, rfl, rfl⟩

theorem aMK (C : Cx P gl) {ys zs : List aC} {d1 d2 : Nat → Dyadic} {a1 b1 a2 b2 : Nat} {p q r : List PV} {n m : Int} (hp : p = aB ys) (hq : q = aB zs) (h1 : CL a1 b1 d1 ys) (h2 : CL a2 b2 d2 zs) (ha : a1 + a2 ≤ 50000) (hb : b1 + b2 + 4 ≤ 80000) (hn : 0 ≤ n) (hn4 : n ≤ 4)
  (hyl : (ys.length : Int) = n * n) (hzl : (zs.length : Int) = n * n) (hr : r = aB (cW (nQ n d1 d2) ys.length)) :
  FS P gl 166 [.agg [I n, .lst p], .agg [I m, .lst q]] (· = .agg [I n, .lst r]) := by
 have hnn : n * n = ((n.toNat * n.toNat : Nat) : Int) := by rw [Int.natCast_mul, Int.toNat_of_nonneg hn]
 obtain ⟨w, hw⟩ : ∃ w, w = n.toNat := ⟨_, rfl⟩
 obtain ⟨N, hN⟩ : ∃ N, N = ys.length := ⟨_, rfl⟩
 rw [← hw] at hnn
 have hw4 : w ≤ 4 := by omega
 have hNw : N = w * w := by omega
 have hww : w * w ≤ 4 * 4 := Nat.mul_le_mul hw4 hw4
 obtain ⟨u0, hu0⟩ : ∃ u, u = aB (List.replicate N noY) := ⟨_, rfl⟩
 have cR := fun (P' : Program) (C' : Cx P' gl) => pN C' hn (by omega) (by rw [hu0, hNw, hnn]; rfl : u0 = aB (List.replicate (n * n).toNat noY))
 obtain ⟨G, hG⟩ : ∃ G : Nat → List PV, G = fun k => aB (lM (nQ n d1 d2) N k) := ⟨_, rfl⟩
 have hG0 : u0 = G 0 := by rw [hG, hu0]; simp only [zF]
 have hGN : G (w * w) = r := by rw [hG, hr, ← hN, ← hNw]; simp only [aCE]
 have hGl : ∀ k, k ≤ N → (G k).length = N := by intro k hk; rw [hG]; simp only [aV]; exact aCD hk
 have hmul : ∀ a b : Int, 0 ≤ a → 0 ≤ b → a < n → b < n → (a * n + b).toNat = a.toNat * w + b.toNat ∧ a.toNat * w + b.toNat < N ∧ a * n + b = ((a.toNat * w + b.toNat : Nat) : Int) := by
  intro a b h1 h2 h3 h4
  have e1 : a * n = ((a.toNat * w : Nat) : Int) := by rw [Int.natCast_mul, hw, Int.toNat_of_nonneg h1, Int.toNat_of_nonneg hn]
  have := bQ (n := w) (i := a.toNat) (j := b.toNat) (by omega) (by omega)
  omega
 have kT : ∀ a b : Int, 0 ≤ a → 0 ≤ b → a < n → b < n → 0 ≤ a * n ∧ a * n ≤ 16 ∧ a * n + b < N := by
  intro a b h1 h2 h3 h4
  obtain ⟨g1, g2, g3⟩ := hmul a b h1 h2 h3 h4
  have := Int.mul_nonneg h1 hn
  omega
 have hpl : p.length = N := by rw [hp, aV, hN]
 have hql : q.length = N := by rw [hq, aV]; omega
 have hzN : zs.length = N := by omega
 have bT : ∀ (i j k : Int), 0 ≤ i → 0 ≤ j → 0 ≤ k → i < n → j < n → k < n → ∃ (x y : Int) (s1 s2 s3 s4 : Bool) (e1 e2 e3 e4 : Int) (u1 u2 u3 u4 : List PV), x = i * n + k ∧ y = k * n + j ∧ 0 ≤ x ∧ x < N ∧ 0 ≤ y ∧ y < N ∧
   ((ys.getD x.toNat noY).1 = s1 ∧ aA (ys.getD x.toNat noY).2.1 = u1 ∧ (ys.getD x.toNat noY).2.2 = e1 ∧ (zs.getD y.toNat noY).1 = s2 ∧ aA (zs.getD y.toNat noY).2.1 = u2 ∧ (zs.getD y.toNat noY).2.2 = e2) ∧
   (∀ P' , Cx P' gl → FS P' gl 71 [.agg [B s1, .lst u1, I e1], .agg [B s2, .lst u2, I e2]] (· = .agg [B s3, .lst u3, I e3])) ∧
   (∀ (P' : Program) (s : Bool) (u : List PV) (e : Int), Cx P' gl → s = (aG (bF (fun a => d1 (i.toNat * w + a) * d2 (a * w + j.toNat)) k.toNat)).1 → u = aA (aG (bF (fun a => d1 (i.toNat * w + a) * d2 (a * w + j.toNat)) k.toNat)).2.1 → e = (aG (bF (fun a => d1 (i.toNat * w + a) * d2 (a * w + j.toNat)) k.toNat)).2.2 →
    FS P' gl 70 [.agg [B s, .lst u, I e], .agg [B s3, .lst u3, I e3]] (· = .agg [B s4, .lst u4, I e4])) ∧
   s4 = (aG (bF (fun a => d1 (i.toNat * w + a) * d2 (a * w + j.toNat)) (k + 1).toNat)).1 ∧ u4 = aA (aG (bF (fun a => d1 (i.toNat * w + a) * d2 (a * w + j.toNat)) (k + 1).toNat)).2.1 ∧ e4 = (aG (bF (fun a => d1 (i.toNat * w + a) * d2 (a * w + j.toNat)) (k + 1).toNat)).2.2 := by
  intro i j k hi0 hj0 hk0 hi hj hk
  obtain ⟨x1, x2, x3⟩ := hmul i k hi0 hk0 hi hk
  obtain ⟨y1, y2, y3⟩ := hmul k j hk0 hj0 hk hj
  obtain ⟨s1, s2, s3, s4, e1, e2, e3, e4, u1, u2, u3, u4, g1, g2, g3, g4, g5, g6, g7, g8, g9⟩ := aQK h1 h2 ha hb hw4 (by omega) (by omega) (i := i.toNat) (j := j.toNat) (by omega) (by omega) k.toNat (by omega)
  refine ⟨i * n + k, k * n + j, s1, s2, s3, s4, e1, e2, e3, e4, u1, u2, u3, u4, rfl, rfl, by omega, by omega, by omega, by omega, ?_, fun P' C' => g7 P' gl C', fun P' => g8 P' gl, ?_⟩
  ·rw [x1, y1]; exact ⟨g1, g2, g3, g4, g5, g6⟩
  ·rw [show (k + 1).toNat = k.toNat + 1 by omega]; exact g9
 have rT : ∀ (i j : Int) (t : List PV) (s : Bool) (u : List PV) (e : Int), 0 ≤ i → 0 ≤ j → i < n → j < n → t = G (i.toNat * w + j.toNat) → s = (aG (bF (fun a => d1 (i.toNat * w + a) * d2 (a * w + j.toNat)) w)).1 → u = aA (aG (bF (fun a => d1 (i.toNat * w + a) * d2 (a * w + j.toNat)) w)).2.1 → e = (aG (bF (fun a => d1 (i.toNat * w + a) * d2 (a * w + j.toNat)) w)).2.2 →
   ∃ x : Int, x = i * n + j ∧ 0 ≤ x ∧ x < N ∧ t.set x.toNat (.agg [B s, .lst u, I e]) = G (i.toNat * w + (j + 1).toNat) := by
  intro i j t s u e hi0 hj0 hi hj ht hs hu he
  obtain ⟨x1, x2, x3⟩ := hmul i j hi0 hj0 hi hj
  refine ⟨_, rfl, by omega, by omega, ?_⟩
  have hmd := aKE (n := n) (f := d1) (g := d2) (i := i.toNat) (j := j.toNat) (by omega)
  rw [← hw] at hmd
  rw [← hmd] at hs hu he
  rw [x1, hs, hu, he, ht, show (j + 1).toNat = j.toNat + 1 by omega, ← Nat.add_assoc, hG]
  simp only
  rw [← aCF x2, ← oA]
  rfl
 clear h1 h2 hyl hzl hnn hr hu0 hG hmul
 refine gS C func166 rfl rfl rfl fun A hA hI => ?_
 iterate 2 all_goals try cbv; with_reducible repeat' first | exact ⟨⟩ | apply And.intro | intro _
 all_goals try exact oG
 refine dE hA rfl (cR P C) ?_; rintro _ _ ⟨rfl, rfl⟩; refine ⟨rfl, ?_⟩
 clear cR
 iterate 2 all_goals try cbv; with_reducible repeat' first | exact ⟨⟩ | apply And.intro | intro _
 all_goals try exact oG
 refine aZ hA [] (ι := Int × List PV) (fun x => [(7, .pv (I x.1))]) (fun x => [(3, .row 64 3 x.2)]) (fun x => (n - x.1).toNat) (fun x => 0 ≤ x.1 ∧ x.1 ≤ n ∧ x.2 = G (x.1.toNat * w)) (0, u0) (by rfl) ?_ ?_ ?_
 all_goals try exact tG
 ·exact ⟨Int.le_refl _, hn, by rw [hG0]; simp only [Int.toNat_zero, Nat.zero_mul]⟩
 rintro ⟨i, t⟩ ⟨hi0, hi1, ht⟩
 simp only at hi0 hi1 ht
 clear hG0
 have t0 : t = G (i.toNat * w + (0 : Int).toNat) := by rw [ht]; simp only [Int.toNat_zero, Nat.add_zero]
 have fI : i = n → t = r := by intro h; rw [ht, h, ← hw, hGN]
 clear ht
 iterate 2 all_goals try cbv; with_reducible repeat' first | exact ⟨⟩ | apply And.intro | intro _
 all_goals try exact oG
 ·rename_i g
  have gi : i < n := by clear bT rT fI hGl hGN t0; exact eG
  have hi2 : i + 1 ≤ n := by omega
  clear g fI
  refine aZ hA [] (ι := Int × List PV) (fun x => [(8, .pv (I x.1))]) (fun x => [(3, .row 64 3 x.2)]) (fun x => (n - x.1).toNat) (fun x => 0 ≤ x.1 ∧ x.1 ≤ n ∧ x.2 = G (i.toNat * w + x.1.toNat)) (0, t) (by rfl) ?_ ?_ ?_
  all_goals try exact tG
  ·exact ⟨Int.le_refl _, hn, t0⟩
  rintro ⟨j, t2⟩ ⟨hj0, hj1, ht2⟩
  simp only at hj0 hj1 ht2
  clear t0
  have aXP : t2.length = N := by
   rw [ht2]
   refine hGl _ ?_
   have := Nat.mul_le_mul_right w (show i.toNat + 1 ≤ w by omega)
   rw [Nat.add_mul, Nat.one_mul] at this
   omega
  have rP : j = n → t2 = G ((i + 1).toNat * w) := by intro h; rw [ht2, h, ← hw, show (i + 1).toNat = i.toNat + 1 by omega, Nat.add_mul, Nat.one_mul]
  iterate 2 all_goals try cbv; with_reducible repeat' first | exact ⟨⟩ | apply And.intro | intro _
  all_goals try exact oG
  ·rename_i g
   have gj : j < n := by clear bT rT rP hGl hGN ht2 aXP; exact eG
   have hj2 : j + 1 ≤ n := by omega
   clear g rP
   refine aZ hA [.nilc 5 1] (ι := Int × Bool × List PV × Int) (fun x => [(10, .pv (I x.1))]) (fun x => [(5, .box [.pv (B x.2.1), .pv (.lst x.2.2.1), .pv (I x.2.2.2)])]) (fun x => (n - x.1).toNat) (fun x => 0 ≤ x.1 ∧ x.1 ≤ n ∧ x.2.1 = (aG (bF (fun a => d1 (i.toNat * w + a) * d2 (a * w + j.toNat)) x.1.toNat)).1 ∧ x.2.2.1 = aA (aG (bF (fun a => d1 (i.toNat * w + a) * d2 (a * w + j.toNat)) x.1.toNat)).2.1 ∧ x.2.2.2 = (aG (bF (fun a => d1 (i.toNat * w + a) * d2 (a * w + j.toNat)) x.1.toNat)).2.2) (0, false, [], 0) (by rfl) ?_ ?_ ?_
   all_goals try exact tG
   ·refine ⟨Int.le_refl _, hn, ?_, ?_, ?_⟩ <;> simp only [Int.toNat_zero, bF, gJ] <;> rfl
   rintro ⟨k, s, u, e⟩ ⟨hk0, hk1, hs, hu, he⟩
   simp only at hk0 hk1 hs hu he
   obtain ⟨b1, b2, b3⟩ := kT i j hi0 hj0 gi gj
   have b4 : k < n → i * n + k < N := fun h => (kT i k hi0 hk0 gi h).2.2
   have b5 : k < n → 0 ≤ k * n ∧ k * n ≤ 16 ∧ k * n + j < N := fun h => kT k j hk0 hj0 h gj
   have vD : k = n → ∃ x : Int, x = i * n + j ∧ 0 ≤ x ∧ x < N ∧ t2.set x.toNat (.agg [B s, .lst u, I e]) = G (i.toNat * w + (j + 1).toNat) := by
    intro h
    have hkw : k.toNat = w := by rw [h, hw]
    rw [hkw] at hs hu he
    exact rT i j t2 s u e hi0 hj0 gi gj ht2 hs hu he
   have hst : ∀ _ : Unit, k < n → ∃ (x y : Int) (s1 s2 s3 s4 : Bool) (e1 e2 e3 e4 : Int) (u1 u2 u3 u4 : List PV), x = i * n + k ∧ y = k * n + j ∧ 0 ≤ x ∧ x < N ∧ 0 ≤ y ∧ y < N ∧
     ((ys.getD x.toNat noY).1 = s1 ∧ aA (ys.getD x.toNat noY).2.1 = u1 ∧ (ys.getD x.toNat noY).2.2 = e1 ∧ (zs.getD y.toNat noY).1 = s2 ∧ aA (zs.getD y.toNat noY).2.1 = u2 ∧ (zs.getD y.toNat noY).2.2 = e2) ∧
     (∀ P' , Cx P' gl → FS P' gl 71 [.agg [B s1, .lst u1, I e1], .agg [B s2, .lst u2, I e2]] (· = .agg [B s3, .lst u3, I e3])) ∧
     (∀ P', Cx P' gl → FS P' gl 70 [.agg [B s, .lst u, I e], .agg [B s3, .lst u3, I e3]] (· = .agg [B s4, .lst u4, I e4])) ∧
     s4 = (aG (bF (fun a => d1 (i.toNat * w + a) * d2 (a * w + j.toNat)) (k + 1).toNat)).1 ∧ u4 = aA (aG (bF (fun a => d1 (i.toNat * w + a) * d2 (a * w + j.toNat)) (k + 1).toNat)).2.1 ∧ e4 = (aG (bF (fun a => d1 (i.toNat * w + a) * d2 (a * w + j.toNat)) (k + 1).toNat)).2.2 := by
    intro _ hk
    obtain ⟨x, y, s1, s2, s3, s4, e1, e2, e3, e4, u1, u2, u3, u4, x1, y1, x2, x3, y2, y3, g1, g2, g3, g4⟩ := bT i j k hi0 hj0 hk0 gi gj hk
    exact ⟨x, y, s1, s2, s3, s4, e1, e2, e3, e4, u1, u2, u3, u4, x1, y1, x2, x3, y2, y3, g1, g2, fun P' C' => g3 P' s u e C' hs hu he, g4⟩
   clear hs hu he bT rT ht2 kT
   iterate 2 all_goals try cbv; with_reducible repeat' first | exact ⟨⟩ | apply And.intro | intro _
   all_goals try exact oG
   ·rename_i g
    have gk : k < n := by clear hst vD hGl hGN; exact eG
    have hk2 : k + 1 ≤ n := by omega
    obtain ⟨x, y, s1, s2, s3, s4, e1, e2, e3, e4, u1, u2, u3, u4, x1, y1, x2, x3, y2, y3, ⟨g1, g2, g3, g4, g5, g6⟩, g7, g8, g9⟩ := hst () gk
    have hx1 : A.add .i64 (A.mul .i64 i n) k = x := by clear hst vD hGl hGN g1 g2 g3 g4 g5 g6 g7 g8 g9; (subst hA; subst_vars; simp only [AR.std, bBG, sG, reduceCtorEq] at *; try simp (disch := omega) only [AR.std, bBG, sG, reduceCtorEq] at *)
    have hy1' : A.add .i64 (A.mul .i64 k n) j = y := by clear hst vD hGl hGN g1 g2 g3 g4 g5 g6 g7 g8 g9 hx1; (subst hA; subst_vars; simp only [AR.std, bBG, sG, reduceCtorEq] at *; try simp (disch := omega) only [AR.std, bBG, sG, reduceCtorEq] at *)
    have c1 : A.gb (A.el p (A.nat x)) 0 = s1 := by rw [← g1]; clear hst vD hGl hGN g1 g2 g3 g4 g5 g6 g7 g8 g9 hx1 hy1'; (subst hA; subst_vars; simp only [AR.std, bBG, sG, reduceCtorEq] at *; try simp (disch := omega) only [AR.std, bBG, sG, reduceCtorEq] at *)
    have c2 : A.gl (A.el p (A.nat x)) 1 = u1 := by rw [← g2]; clear hst vD hGl hGN g1 g2 g3 g4 g5 g6 g7 g8 g9 hx1 hy1' c1; (subst hA; subst_vars; simp only [AR.std, bBG, sG, reduceCtorEq] at *; try simp (disch := omega) only [AR.std, bBG, sG, reduceCtorEq] at *)
    have c3 : A.gi (A.el p (A.nat x)) 2 = e1 := by rw [← g3]; clear hst vD hGl hGN g1 g2 g3 g4 g5 g6 g7 g8 g9 hx1 hy1' c1 c2; (subst hA; subst_vars; simp only [AR.std, bBG, sG, reduceCtorEq] at *; try simp (disch := omega) only [AR.std, bBG, sG, reduceCtorEq] at *)
    have c4 : A.gb (A.el q (A.nat y)) 0 = s2 := by rw [← g4]; clear hst vD hGl hGN g1 g2 g3 g4 g5 g6 g7 g8 g9 hx1 hy1' c1 c2 c3; (subst hA; subst_vars; simp only [AR.std, bBG, sG, reduceCtorEq] at *; try simp (disch := omega) only [AR.std, bBG, sG, reduceCtorEq] at *)
    have c5 : A.gl (A.el q (A.nat y)) 1 = u2 := by rw [← g5]; clear hst vD hGl hGN g1 g2 g3 g4 g5 g6 g7 g8 g9 hx1 hy1' c1 c2 c3 c4; (subst hA; subst_vars; simp only [AR.std, bBG, sG, reduceCtorEq] at *; try simp (disch := omega) only [AR.std, bBG, sG, reduceCtorEq] at *)
    have c6 : A.gi (A.el q (A.nat y)) 2 = e2 := by rw [← g6]; clear hst vD hGl hGN g1 g2 g3 g4 g5 g6 g7 g8 g9 hx1 hy1' c1 c2 c3 c4 c5; (subst hA; subst_vars; simp only [AR.std, bBG, sG, reduceCtorEq] at *; try simp (disch := omega) only [AR.std, bBG, sG, reduceCtorEq] at *)
    clear hst vD g1 g2 g3 g4 g5 g6 g
    simp only [hx1, hy1', c1, c2, c3, c4, c5, c6]
    clear hx1 hy1' c1 c2 c3 c4 c5 c6
    refine ⟨_, g7 P C, ?_⟩
    iterate 2 all_goals try cbv; with_reducible repeat' first | exact ⟨⟩ | apply And.intro | intro _
    all_goals try exact oG
    refine aD hA rfl (g8 P C) ?_; rintro _ rfl
    clear g7 g8
    iterate 2 all_goals try cbv; with_reducible repeat' first | exact ⟨⟩ | apply And.intro | intro _
    all_goals try exact oG
    obtain ⟨y1, hy1⟩ : ∃ y, y = k + 1 := ⟨_, rfl⟩
    obtain ⟨y2, hy2⟩ : ∃ y, y = s4 := ⟨_, rfl⟩
    obtain ⟨y3, hy3⟩ : ∃ y, y = u4 := ⟨_, rfl⟩
    obtain ⟨y4, hy4⟩ : ∃ y, y = e4 := ⟨_, rfl⟩
    refine ⟨⟨(y1, y2, y3, y4), ?_⟩, ?_, ?_⟩
    rotate_left
    ·cbv
     exact nG
    ·exact eG
    ·rw [hy1, hy2, hy3, hy4]
     exact ⟨by simp only; omega, hk2, g9⟩
   ·rename_i g
    obtain ⟨x, x1, x2, x3, x4⟩ := vD (by clear hst vD hGl hGN; exact eG)
    clear hst vD g
    obtain ⟨t9, ht9⟩ : ∃ t9, t9 = t2.set x.toNat (.agg [B s, .lst u, I e]) := ⟨_, rfl⟩
    have hx1 : A.add .i64 (A.mul .i64 i n) j = x := by clear x4 ht9 hGl hGN; (subst hA; subst_vars; simp only [AR.std, bBG, sG, reduceCtorEq] at *; try simp (disch := omega) only [AR.std, bBG, sG, reduceCtorEq] at *)
    have hst : A.set t2 (A.nat (A.add .i64 (A.mul .i64 i n) j)) (.agg [B s, .lst u, I e]) = t9 := by rw [hx1, ht9]; clear hGl hGN hx1; subst hA; rfl
    rw [← ht9] at x4
    clear ht9 hx1
    simp only [hst]
    clear hst
    obtain ⟨y1, hy1⟩ : ∃ y, y = j + 1 := ⟨_, rfl⟩
    obtain ⟨y2, hy2⟩ : ∃ y, y = t9 := ⟨_, rfl⟩
    refine ⟨⟨(y1, y2), ?_⟩, ?_, ?_⟩
    rotate_left
    ·cbv
     exact nG
    ·exact eG
    ·rw [hy1, hy2]
     exact ⟨by simp only; omega, hj2, x4⟩
  ·rename_i g
   have gj : j = n := by clear bT rT rP hGl hGN ht2 aXP; exact eG
   have := rP gj
   clear rP bT rT
   iterate 2 all_goals try cbv; with_reducible repeat' first | exact ⟨⟩ | apply And.intro | intro _
   all_goals try exact oG
   obtain ⟨y1, hy1⟩ : ∃ y, y = i + 1 := ⟨_, rfl⟩
   obtain ⟨y2, hy2⟩ : ∃ y, y = t2 := ⟨_, rfl⟩
   refine ⟨⟨(y1, y2), ?_⟩, ?_, ?_⟩
   rotate_left
   ·cbv
    exact nG
   ·exact eG
   ·rw [hy1, hy2]
    exact ⟨by simp only; omega, hi2, this⟩
 ·rename_i g
  have gi : i = n := by clear bT rT fI hGl hGN t0; exact eG
  have := fI gi
  simp only [this]

end Tryz
end Go.Proofs
