/- Contracts: PolyAt in the reference. -/
import Derived.Test.YthmkdfmapdbenaaGreatDoorEM15
import Derived.Test.YthmkdfmapdbenaaGreatDoorEEvD
import Derived.Test.YthmkdfmapdbenaaGreatDoorEM9
import Derived.Test.YthmkdfmapdbenaaGreatDoorEM37
import Derived.Test.YthmkdfmapdbenaaGreatDoorEM44
import Derived.Test.YthmkdfmapdbenaaGreatDoorEPeTe
namespace Go.Proofs
open Go Go.Pe Go.Dg
namespace Tryz
set_option linter.unusedSimpArgs false
set_option linter.unusedVariables false
variable {P : Program} {gl : List (Nat × Obj)}

/-- a step of a sum of products, in the reference -/
theorem mulStepC {ys zs : List Cell3} {d1 d2 : Nat → Dyadic} {a1 b1 a2 b2 : Nat} {m i j : Nat} (h1 : CL a1 b1 d1 ys) (h2 : CL a2 b2 d2 zs) (ha : a1 + a2 ≤ 50000) (hb : b1 + b2 + 4 ≤ 80000) (hm4 : m ≤ 4) (hyl : ys.length = m * m) (hzl : zs.length = m * m) (hi : i < m) (hj : j < m)
    (k : Nat) (hk : k < m) : ∃ (s1 s2 s3 s4 : Bool) (e1 e2 e3 e4 : Int) (u1 u2 u3 u4 : List PV), (ys.getD (i * m + k) noY).1 = s1 ∧ intsL (ys.getD (i * m + k) noY).2.1 = u1 ∧ (ys.getD (i * m + k) noY).2.2 = e1 ∧ (zs.getD (k * m + j) noY).1 = s2 ∧ intsL (zs.getD (k * m + j) noY).2.1 = u2 ∧ (zs.getD (k * m + j) noY).2.2 = e2 ∧
      (∀ P' gl, Cx P' gl → FS P' gl 105 [.agg [B s1, .lst u1, I e1], .agg [B s2, .lst u2, I e2]] (· = .agg [B s3, .lst u3, I e3])) ∧
      (∀ (P' : Program) (gl : List (Nat × Obj)) (s : Bool) (u : List PV) (e : Int), Cx P' gl → s = (canY (psum (fun a => d1 (i * m + a) * d2 (a * m + j)) k)).1 → u = intsL (canY (psum (fun a => d1 (i * m + a) * d2 (a * m + j)) k)).2.1 → e = (canY (psum (fun a => d1 (i * m + a) * d2 (a * m + j)) k)).2.2 →
        FS P' gl 98 [.agg [B s, .lst u, I e], .agg [B s3, .lst u3, I e3]] (· = .agg [B s4, .lst u4, I e4])) ∧
      s4 = (canY (psum (fun a => d1 (i * m + a) * d2 (a * m + j)) (k + 1))).1 ∧ u4 = intsL (canY (psum (fun a => d1 (i * m + a) * d2 (a * m + j)) (k + 1))).2.1 ∧ e4 = (canY (psum (fun a => d1 (i * m + a) * d2 (a * m + j)) (k + 1))).2.2 := by
  obtain ⟨ff, hff⟩ : ∃ ff : Nat → Dyadic, ff = fun a => d1 (i * m + a) * d2 (a * m + j) := ⟨_, rfl⟩
  have hM : ∀ a, a < m → Mg (a1 + a2) (b1 + b2) (ff a) := by
    intro a ha
    rw [hff]
    exact ((h1 (i * m + a) (by rw [hyl]; exact place_lt hi ha)).2).mul ((h2 (a * m + j) (by rw [hzl]; exact place_lt ha hj)).2)
  have m1 := Mg.psum hM k (by omega)
  have m2 := hM k hk
  obtain ⟨e1, m3⟩ := h1 (i * m + k) (by rw [hyl]; exact place_lt hi hk)
  obtain ⟨e2, m4⟩ := h2 (k * m + j) (by rw [hzl]; exact place_lt hk hj)
  have c1 := Mg_len m1
  have c2 := Mg_cE m1
  have c3 := Mg_cE2 m1
  have c4 := Mg_len m2
  have c5 := Mg_cE m2
  have c6 := Mg_cE2 m2
  have c7 := Mg_len m3
  have c8 := Mg_cE m3
  have c9 := Mg_cE2 m3
  have k1 := Mg_len m4
  have k2 := Mg_cE m4
  have k3 := Mg_cE2 m4
  rw [← hff]
  refine ⟨(canY (d1 (i * m + k))).1, (canY (d2 (k * m + j))).1, _, _, (canY (d1 (i * m + k))).2.2, (canY (d2 (k * m + j))).2.2, _, _, intsL (canY (d1 (i * m + k))).2.1, intsL (canY (d2 (k * m + j))).2.1, _, _, by rw [e1], by rw [e1], by rw [e1], by rw [e2], by rw [e2], by rw [e2],
    fun P' gl C' => l4mul_fs C' (z1 := cZ (d1 (i * m + k))) (z2 := cZ (d2 (k * m + j))) rfl rfl rfl rfl (d := ff k) (by rw [hff]; show _ = mk _ (cE (d1 (i * m + k))) * mk _ (cE (d2 (k * m + j))); rw [mk_canon, mk_canon]) rfl rfl rfl (by show (cE (d1 (i * m + k))).natAbs ≤ _; omega) (by show (cE (d2 (k * m + j))).natAbs ≤ _; omega) (by omega) (by omega),
    fun P' gl s u e C' h3 h4 h5 => l4add_fs C' h4 h3 rfl rfl (d := psum ff (k + 1)) (by rw [h5]; show psum ff k + ff k = _; rw [mk_canon]; congr 1; exact (mk_canon _).symm) rfl rfl rfl (by rw [h5]; show (cE (psum ff k)).natAbs ≤ _; omega) (by omega) (by omega) (by omega), rfl, rfl, rfl⟩

set_option maxHeartbeats 1000000 in
set_option maxRecDepth 100000 in
theorem l8mulC_fs (C : Cx P gl) {ys zs : List Cell3} {d1 d2 : Nat → Dyadic} {a1 b1 a2 b2 : Nat} {p q r : List PV} {n m : Int} (hp : p = cells3 ys) (hq : q = cells3 zs) (h1 : CL a1 b1 d1 ys) (h2 : CL a2 b2 d2 zs) (ha : a1 + a2 ≤ 50000) (hb : b1 + b2 + 4 ≤ 80000) (hn : 0 ≤ n) (hn4 : n ≤ 4)
    (hyl : (ys.length : Int) = n * n) (hzl : (zs.length : Int) = n * n) (hr : r = cells3 (canL (mulD n d1 d2) ys.length)) :
    FS P gl 57 [.agg [I n, .lst p], .agg [I m, .lst q]] (· = .agg [I n, .lst r]) := by
  have hnn : n * n = ((n.toNat * n.toNat : Nat) : Int) := by rw [Int.natCast_mul, Int.toNat_of_nonneg hn]
  obtain ⟨w, hw⟩ : ∃ w, w = n.toNat := ⟨_, rfl⟩
  obtain ⟨N, hN⟩ : ∃ N, N = ys.length := ⟨_, rfl⟩
  rw [← hw] at hnn
  have hw4 : w ≤ 4 := by omega
  have hNw : N = w * w := by omega
  have hww : w * w ≤ 4 * 4 := Nat.mul_le_mul hw4 hw4
  obtain ⟨u0, hu0⟩ : ∃ u, u = cells3 (List.replicate N noY) := ⟨_, rfl⟩
  have hnew := fun (P' : Program) (C' : Cx P' gl) => l8new_fn C' hn (by omega) (by rw [hu0, hNw, hnn]; rfl : u0 = cells3 (List.replicate (n * n).toNat noY))
  obtain ⟨G, hG⟩ : ∃ G : Nat → List PV, G = fun k => cells3 (partL (mulD n d1 d2) N k) := ⟨_, rfl⟩
  have hG0 : u0 = G 0 := by rw [hG, hu0]; simp only [partL_zero]
  have hGN : G (w * w) = r := by rw [hG, hr, ← hN, ← hNw]; simp only [partL_all]
  have hGl : ∀ k, k ≤ N → (G k).length = N := by intro k hk; rw [hG]; simp only [cells3_len]; exact partL_len hk
  have hmul : ∀ a b : Int, 0 ≤ a → 0 ≤ b → a < n → b < n → (a * n + b).toNat = a.toNat * w + b.toNat ∧ a.toNat * w + b.toNat < N ∧ a * n + b = ((a.toNat * w + b.toNat : Nat) : Int) := by
    intro a b h1 h2 h3 h4
    have e1 : a * n = ((a.toNat * w : Nat) : Int) := by rw [Int.natCast_mul, hw, Int.toNat_of_nonneg h1, Int.toNat_of_nonneg hn]
    have := place_lt (n := w) (i := a.toNat) (j := b.toNat) (by omega) (by omega)
    omega
  have hbnd : ∀ a b : Int, 0 ≤ a → 0 ≤ b → a < n → b < n → 0 ≤ a * n ∧ a * n ≤ 16 ∧ a * n + b < N := by
    intro a b h1 h2 h3 h4
    obtain ⟨g1, g2, g3⟩ := hmul a b h1 h2 h3 h4
    have := Int.mul_nonneg h1 hn
    omega
  have hpl : p.length = N := by rw [hp, cells3_len, hN]
  have hql : q.length = N := by rw [hq, cells3_len]; omega
  have hzN : zs.length = N := by omega
  -- the step of the innermost loop
  have hstep : ∀ (i j k : Int), 0 ≤ i → 0 ≤ j → 0 ≤ k → i < n → j < n → k < n → ∃ (x y : Int) (s1 s2 s3 s4 : Bool) (e1 e2 e3 e4 : Int) (u1 u2 u3 u4 : List PV), x = i * n + k ∧ y = k * n + j ∧ 0 ≤ x ∧ x < N ∧ 0 ≤ y ∧ y < N ∧
      ((ys.getD x.toNat noY).1 = s1 ∧ intsL (ys.getD x.toNat noY).2.1 = u1 ∧ (ys.getD x.toNat noY).2.2 = e1 ∧ (zs.getD y.toNat noY).1 = s2 ∧ intsL (zs.getD y.toNat noY).2.1 = u2 ∧ (zs.getD y.toNat noY).2.2 = e2) ∧
      (∀ P' , Cx P' gl → FS P' gl 105 [.agg [B s1, .lst u1, I e1], .agg [B s2, .lst u2, I e2]] (· = .agg [B s3, .lst u3, I e3])) ∧
      (∀ (P' : Program) (s : Bool) (u : List PV) (e : Int), Cx P' gl → s = (canY (psum (fun a => d1 (i.toNat * w + a) * d2 (a * w + j.toNat)) k.toNat)).1 → u = intsL (canY (psum (fun a => d1 (i.toNat * w + a) * d2 (a * w + j.toNat)) k.toNat)).2.1 → e = (canY (psum (fun a => d1 (i.toNat * w + a) * d2 (a * w + j.toNat)) k.toNat)).2.2 →
        FS P' gl 98 [.agg [B s, .lst u, I e], .agg [B s3, .lst u3, I e3]] (· = .agg [B s4, .lst u4, I e4])) ∧
      s4 = (canY (psum (fun a => d1 (i.toNat * w + a) * d2 (a * w + j.toNat)) (k + 1).toNat)).1 ∧ u4 = intsL (canY (psum (fun a => d1 (i.toNat * w + a) * d2 (a * w + j.toNat)) (k + 1).toNat)).2.1 ∧ e4 = (canY (psum (fun a => d1 (i.toNat * w + a) * d2 (a * w + j.toNat)) (k + 1).toNat)).2.2 := by
    intro i j k hi0 hj0 hk0 hi hj hk
    obtain ⟨x1, x2, x3⟩ := hmul i k hi0 hk0 hi hk
    obtain ⟨y1, y2, y3⟩ := hmul k j hk0 hj0 hk hj
    obtain ⟨s1, s2, s3, s4, e1, e2, e3, e4, u1, u2, u3, u4, g1, g2, g3, g4, g5, g6, g7, g8, g9⟩ := mulStepC h1 h2 ha hb hw4 (by omega) (by omega) (i := i.toNat) (j := j.toNat) (by omega) (by omega) k.toNat (by omega)
    refine ⟨i * n + k, k * n + j, s1, s2, s3, s4, e1, e2, e3, e4, u1, u2, u3, u4, rfl, rfl, by omega, by omega, by omega, by omega, ?_, fun P' C' => g7 P' gl C', fun P' => g8 P' gl, ?_⟩
    · rw [x1, y1]; exact ⟨g1, g2, g3, g4, g5, g6⟩
    · rw [show (k + 1).toNat = k.toNat + 1 by omega]; exact g9
  -- a place is set
  have hset : ∀ (i j : Int) (t : List PV) (s : Bool) (u : List PV) (e : Int), 0 ≤ i → 0 ≤ j → i < n → j < n → t = G (i.toNat * w + j.toNat) → s = (canY (psum (fun a => d1 (i.toNat * w + a) * d2 (a * w + j.toNat)) w)).1 → u = intsL (canY (psum (fun a => d1 (i.toNat * w + a) * d2 (a * w + j.toNat)) w)).2.1 → e = (canY (psum (fun a => d1 (i.toNat * w + a) * d2 (a * w + j.toNat)) w)).2.2 →
      ∃ x : Int, x = i * n + j ∧ 0 ≤ x ∧ x < N ∧ t.set x.toNat (.agg [B s, .lst u, I e]) = G (i.toNat * w + (j + 1).toNat) := by
    intro i j t s u e hi0 hj0 hi hj ht hs hu he
    obtain ⟨x1, x2, x3⟩ := hmul i j hi0 hj0 hi hj
    refine ⟨_, rfl, by omega, by omega, ?_⟩
    have hmd := mulD_at (n := n) (f := d1) (g := d2) (i := i.toNat) (j := j.toNat) (by omega)
    rw [← hw] at hmd
    rw [← hmd] at hs hu he
    rw [x1, hs, hu, he, ht, show (j + 1).toNat = j.toNat + 1 by omega, ← Nat.add_assoc, hG]
    simp only
    rw [← partL_set x2, ← c3set]
    rfl
  clear h1 h2 hyl hzl hnn hr hu0 hG hmul
  obtain ⟨rfl, hG⟩ := C
  refine FS_ofT (args := fun A => [.agg [I n, .lst p], .agg [I m, .lst q]]) (R := fun A rr => rr = .agg [I n, .lst r]) Tryz.hT Tryz.mix Tryz.func57 rfl rfl (Nat.le_of_ble_eq_true rfl) ?_
  generalize hP : Tryz.prog = P
  intro A hA
  have C : Tryz.Cx P gl := ⟨hP.symm, hG⟩
  have hI : intsL = A.ints := by subst hA; rfl
  iterate 2 (all_goals try cbv; all_goals repeat' (first | with_reducible exact True.intro | with_reducible refine And.intro ?_ ?_ | intro _))
  all_goals try exact oG
  refine callN hA rfl (hnew P C) ?_; rintro _ _ ⟨rfl, rfl⟩; refine ⟨rfl, ?_⟩
  clear hnew
  iterate 2 (all_goals try cbv; all_goals repeat' (first | with_reducible exact True.intro | with_reducible refine And.intro ?_ ?_ | intro _))
  all_goals try exact oG
  refine loopI hA [] (ι := Int × List PV) (fun x => [(7, .pv (I x.1))]) (fun x => [(3, .row 41 3 x.2)]) (fun x => (n - x.1).toNat) (fun x => 0 ≤ x.1 ∧ x.1 ≤ n ∧ x.2 = G (x.1.toNat * w)) (0, u0) (by rfl) ?_ ?_ ?_
  all_goals try exact tG
  · exact ⟨Int.le_refl _, hn, by rw [hG0]; simp only [Int.toNat_zero, Nat.zero_mul]⟩
  rintro ⟨i, t⟩ ⟨hi0, hi1, ht⟩
  simp only at hi0 hi1 ht
  clear hG0
  have t0 : t = G (i.toNat * w + (0 : Int).toNat) := by rw [ht]; simp only [Int.toNat_zero, Nat.add_zero]
  have hexi : i = n → t = r := by intro h; rw [ht, h, ← hw, hGN]
  clear ht
  iterate 2 (all_goals try cbv; all_goals repeat' (first | with_reducible exact True.intro | with_reducible refine And.intro ?_ ?_ | intro _))
  all_goals try exact oG
  · rename_i g
    have gi : i < n := by clear hstep hset hexi hGl hGN t0; (subst hA; subst_vars; simp only [AR.std, natCast_eq, sG, reduceCtorEq] at *; try simp (disch := omega) only [AR.std, natCast_eq, sG, reduceCtorEq] at *); omega
    have hi2 : i + 1 ≤ n := by omega
    clear g hexi
    refine loopI hA [] (ι := Int × List PV) (fun x => [(8, .pv (I x.1))]) (fun x => [(3, .row 41 3 x.2)]) (fun x => (n - x.1).toNat) (fun x => 0 ≤ x.1 ∧ x.1 ≤ n ∧ x.2 = G (i.toNat * w + x.1.toNat)) (0, t) (by rfl) ?_ ?_ ?_
    all_goals try exact tG
    · exact ⟨Int.le_refl _, hn, t0⟩
    rintro ⟨j, t2⟩ ⟨hj0, hj1, ht2⟩
    simp only at hj0 hj1 ht2
    clear t0
    have ht2l : t2.length = N := by
      rw [ht2]
      refine hGl _ ?_
      have := Nat.mul_le_mul_right w (show i.toNat + 1 ≤ w by omega)
      rw [Nat.add_mul, Nat.one_mul] at this
      omega
    have hexj : j = n → t2 = G ((i + 1).toNat * w) := by intro h; rw [ht2, h, ← hw, show (i + 1).toNat = i.toNat + 1 by omega, Nat.add_mul, Nat.one_mul]
    iterate 2 (all_goals try cbv; all_goals repeat' (first | with_reducible exact True.intro | with_reducible refine And.intro ?_ ?_ | intro _))
    all_goals try exact oG
    · rename_i g
      have gj : j < n := by clear hstep hset hexj hGl hGN ht2 ht2l; (subst hA; subst_vars; simp only [AR.std, natCast_eq, sG, reduceCtorEq] at *; try simp (disch := omega) only [AR.std, natCast_eq, sG, reduceCtorEq] at *); omega
      have hj2 : j + 1 ≤ n := by omega
      clear g hexj
      refine loopI hA [.nilc 5 1] (ι := Int × Bool × List PV × Int) (fun x => [(10, .pv (I x.1))]) (fun x => [(5, .box [.pv (B x.2.1), .pv (.lst x.2.2.1), .pv (I x.2.2.2)])]) (fun x => (n - x.1).toNat) (fun x => 0 ≤ x.1 ∧ x.1 ≤ n ∧ x.2.1 = (canY (psum (fun a => d1 (i.toNat * w + a) * d2 (a * w + j.toNat)) x.1.toNat)).1 ∧ x.2.2.1 = intsL (canY (psum (fun a => d1 (i.toNat * w + a) * d2 (a * w + j.toNat)) x.1.toNat)).2.1 ∧ x.2.2.2 = (canY (psum (fun a => d1 (i.toNat * w + a) * d2 (a * w + j.toNat)) x.1.toNat)).2.2) (0, false, [], 0) (by rfl) ?_ ?_ ?_
      all_goals try exact tG
      · refine ⟨Int.le_refl _, hn, ?_, ?_, ?_⟩ <;> simp only [Int.toNat_zero, psum, canY_zero] <;> rfl
      rintro ⟨k, s, u, e⟩ ⟨hk0, hk1, hs, hu, he⟩
      simp only at hk0 hk1 hs hu he
      obtain ⟨b1, b2, b3⟩ := hbnd i j hi0 hj0 gi gj
      have b4 : k < n → i * n + k < N := fun h => (hbnd i k hi0 hk0 gi h).2.2
      have b5 : k < n → 0 ≤ k * n ∧ k * n ≤ 16 ∧ k * n + j < N := fun h => hbnd k j hk0 hj0 h gj
      have hexk : k = n → ∃ x : Int, x = i * n + j ∧ 0 ≤ x ∧ x < N ∧ t2.set x.toNat (.agg [B s, .lst u, I e]) = G (i.toNat * w + (j + 1).toNat) := by
        intro h
        have hkw : k.toNat = w := by rw [h, hw]
        rw [hkw] at hs hu he
        exact hset i j t2 s u e hi0 hj0 gi gj ht2 hs hu he
      have hst : ∀ _ : Unit, k < n → ∃ (x y : Int) (s1 s2 s3 s4 : Bool) (e1 e2 e3 e4 : Int) (u1 u2 u3 u4 : List PV), x = i * n + k ∧ y = k * n + j ∧ 0 ≤ x ∧ x < N ∧ 0 ≤ y ∧ y < N ∧
          ((ys.getD x.toNat noY).1 = s1 ∧ intsL (ys.getD x.toNat noY).2.1 = u1 ∧ (ys.getD x.toNat noY).2.2 = e1 ∧ (zs.getD y.toNat noY).1 = s2 ∧ intsL (zs.getD y.toNat noY).2.1 = u2 ∧ (zs.getD y.toNat noY).2.2 = e2) ∧
          (∀ P' , Cx P' gl → FS P' gl 105 [.agg [B s1, .lst u1, I e1], .agg [B s2, .lst u2, I e2]] (· = .agg [B s3, .lst u3, I e3])) ∧
          (∀ P', Cx P' gl → FS P' gl 98 [.agg [B s, .lst u, I e], .agg [B s3, .lst u3, I e3]] (· = .agg [B s4, .lst u4, I e4])) ∧
          s4 = (canY (psum (fun a => d1 (i.toNat * w + a) * d2 (a * w + j.toNat)) (k + 1).toNat)).1 ∧ u4 = intsL (canY (psum (fun a => d1 (i.toNat * w + a) * d2 (a * w + j.toNat)) (k + 1).toNat)).2.1 ∧ e4 = (canY (psum (fun a => d1 (i.toNat * w + a) * d2 (a * w + j.toNat)) (k + 1).toNat)).2.2 := by
        intro _ hk
        obtain ⟨x, y, s1, s2, s3, s4, e1, e2, e3, e4, u1, u2, u3, u4, x1, y1, x2, x3, y2, y3, g1, g2, g3, g4⟩ := hstep i j k hi0 hj0 hk0 gi gj hk
        exact ⟨x, y, s1, s2, s3, s4, e1, e2, e3, e4, u1, u2, u3, u4, x1, y1, x2, x3, y2, y3, g1, g2, fun P' C' => g3 P' s u e C' hs hu he, g4⟩
      clear hs hu he hstep hset ht2 hbnd
      iterate 2 (all_goals try cbv; all_goals repeat' (first | with_reducible exact True.intro | with_reducible refine And.intro ?_ ?_ | intro _))
      all_goals try exact oG
      · rename_i g
        have gk : k < n := by clear hst hexk hGl hGN; (subst hA; subst_vars; simp only [AR.std, natCast_eq, sG, reduceCtorEq] at *; try simp (disch := omega) only [AR.std, natCast_eq, sG, reduceCtorEq] at *); omega
        have hk2 : k + 1 ≤ n := by omega
        obtain ⟨x, y, s1, s2, s3, s4, e1, e2, e3, e4, u1, u2, u3, u4, x1, y1, x2, x3, y2, y3, ⟨g1, g2, g3, g4, g5, g6⟩, g7, g8, g9⟩ := hst () gk
        have hx1 : A.add .i64 (A.mul .i64 i n) k = x := by clear hst hexk hGl hGN g1 g2 g3 g4 g5 g6 g7 g8 g9; (subst hA; subst_vars; simp only [AR.std, natCast_eq, sG, reduceCtorEq] at *; try simp (disch := omega) only [AR.std, natCast_eq, sG, reduceCtorEq] at *)
        have hy1' : A.add .i64 (A.mul .i64 k n) j = y := by clear hst hexk hGl hGN g1 g2 g3 g4 g5 g6 g7 g8 g9 hx1; (subst hA; subst_vars; simp only [AR.std, natCast_eq, sG, reduceCtorEq] at *; try simp (disch := omega) only [AR.std, natCast_eq, sG, reduceCtorEq] at *)
        have c1 : A.gb (A.el p (A.nat x)) 0 = s1 := by rw [← g1]; clear hst hexk hGl hGN g1 g2 g3 g4 g5 g6 g7 g8 g9 hx1 hy1'; (subst hA; subst_vars; simp only [AR.std, natCast_eq, sG, reduceCtorEq] at *; try simp (disch := omega) only [AR.std, natCast_eq, sG, reduceCtorEq] at *)
        have c2 : A.gl (A.el p (A.nat x)) 1 = u1 := by rw [← g2]; clear hst hexk hGl hGN g1 g2 g3 g4 g5 g6 g7 g8 g9 hx1 hy1' c1; (subst hA; subst_vars; simp only [AR.std, natCast_eq, sG, reduceCtorEq] at *; try simp (disch := omega) only [AR.std, natCast_eq, sG, reduceCtorEq] at *)
        have c3 : A.gi (A.el p (A.nat x)) 2 = e1 := by rw [← g3]; clear hst hexk hGl hGN g1 g2 g3 g4 g5 g6 g7 g8 g9 hx1 hy1' c1 c2; (subst hA; subst_vars; simp only [AR.std, natCast_eq, sG, reduceCtorEq] at *; try simp (disch := omega) only [AR.std, natCast_eq, sG, reduceCtorEq] at *)
        have c4 : A.gb (A.el q (A.nat y)) 0 = s2 := by rw [← g4]; clear hst hexk hGl hGN g1 g2 g3 g4 g5 g6 g7 g8 g9 hx1 hy1' c1 c2 c3; (subst hA; subst_vars; simp only [AR.std, natCast_eq, sG, reduceCtorEq] at *; try simp (disch := omega) only [AR.std, natCast_eq, sG, reduceCtorEq] at *)
        have c5 : A.gl (A.el q (A.nat y)) 1 = u2 := by rw [← g5]; clear hst hexk hGl hGN g1 g2 g3 g4 g5 g6 g7 g8 g9 hx1 hy1' c1 c2 c3 c4; (subst hA; subst_vars; simp only [AR.std, natCast_eq, sG, reduceCtorEq] at *; try simp (disch := omega) only [AR.std, natCast_eq, sG, reduceCtorEq] at *)
        have c6 : A.gi (A.el q (A.nat y)) 2 = e2 := by rw [← g6]; clear hst hexk hGl hGN g1 g2 g3 g4 g5 g6 g7 g8 g9 hx1 hy1' c1 c2 c3 c4 c5; (subst hA; subst_vars; simp only [AR.std, natCast_eq, sG, reduceCtorEq] at *; try simp (disch := omega) only [AR.std, natCast_eq, sG, reduceCtorEq] at *)
        clear hst hexk g1 g2 g3 g4 g5 g6 g
        simp only [hx1, hy1', c1, c2, c3, c4, c5, c6]
        clear hx1 hy1' c1 c2 c3 c4 c5 c6
        refine ⟨_, g7 P C, ?_⟩
        iterate 2 (all_goals try cbv; all_goals repeat' (first | with_reducible exact True.intro | with_reducible refine And.intro ?_ ?_ | intro _))
        all_goals try exact oG
        refine callS hA rfl (g8 P C) ?_; rintro _ rfl
        clear g7 g8
        iterate 2 (all_goals try cbv; all_goals repeat' (first | with_reducible exact True.intro | with_reducible refine And.intro ?_ ?_ | intro _))
        all_goals try exact oG
        obtain ⟨y1, hy1⟩ : ∃ y, y = k + 1 := ⟨_, rfl⟩
        obtain ⟨y2, hy2⟩ : ∃ y, y = s4 := ⟨_, rfl⟩
        obtain ⟨y3, hy3⟩ : ∃ y, y = u4 := ⟨_, rfl⟩
        obtain ⟨y4, hy4⟩ : ∃ y, y = e4 := ⟨_, rfl⟩
        refine ⟨⟨(y1, y2, y3, y4), ?_⟩, ?_, ?_⟩
        rotate_left
        · cbv
          exact nG
        · (subst hA; subst_vars; simp only [AR.std, natCast_eq, sG, reduceCtorEq] at *; try simp (disch := omega) only [AR.std, natCast_eq, sG, reduceCtorEq] at *); omega
        · rw [hy1, hy2, hy3, hy4]
          exact ⟨by simp only; omega, hk2, g9⟩
      · rename_i g
        obtain ⟨x, x1, x2, x3, x4⟩ := hexk (by clear hst hexk hGl hGN; (subst hA; subst_vars; simp only [AR.std, natCast_eq, sG, reduceCtorEq] at *; try simp (disch := omega) only [AR.std, natCast_eq, sG, reduceCtorEq] at *); omega)
        clear hst hexk g
        obtain ⟨t9, ht9⟩ : ∃ t9, t9 = t2.set x.toNat (.agg [B s, .lst u, I e]) := ⟨_, rfl⟩
        have hx1 : A.add .i64 (A.mul .i64 i n) j = x := by clear x4 ht9 hGl hGN; (subst hA; subst_vars; simp only [AR.std, natCast_eq, sG, reduceCtorEq] at *; try simp (disch := omega) only [AR.std, natCast_eq, sG, reduceCtorEq] at *)
        have hst : A.set t2 (A.nat (A.add .i64 (A.mul .i64 i n) j)) (.agg [B s, .lst u, I e]) = t9 := by rw [hx1, ht9]; clear hGl hGN hx1; subst hA; rfl
        rw [← ht9] at x4
        clear ht9 hx1
        simp only [hst]
        clear hst
        obtain ⟨y1, hy1⟩ : ∃ y, y = j + 1 := ⟨_, rfl⟩
        obtain ⟨y2, hy2⟩ : ∃ y, y = t9 := ⟨_, rfl⟩
        refine ⟨⟨(y1, y2), ?_⟩, ?_, ?_⟩
        rotate_left
        · cbv
          exact nG
        · (subst hA; subst_vars; simp only [AR.std, natCast_eq, sG, reduceCtorEq] at *; try simp (disch := omega) only [AR.std, natCast_eq, sG, reduceCtorEq] at *); omega
        · rw [hy1, hy2]
          exact ⟨by simp only; omega, hj2, x4⟩
    · rename_i g
      have gj : j = n := by clear hstep hset hexj hGl hGN ht2 ht2l; (subst hA; subst_vars; simp only [AR.std, natCast_eq, sG, reduceCtorEq] at *; try simp (disch := omega) only [AR.std, natCast_eq, sG, reduceCtorEq] at *); omega
      have := hexj gj
      clear hexj hstep hset
      iterate 2 (all_goals try cbv; all_goals repeat' (first | with_reducible exact True.intro | with_reducible refine And.intro ?_ ?_ | intro _))
      all_goals try exact oG
      obtain ⟨y1, hy1⟩ : ∃ y, y = i + 1 := ⟨_, rfl⟩
      obtain ⟨y2, hy2⟩ : ∃ y, y = t2 := ⟨_, rfl⟩
      refine ⟨⟨(y1, y2), ?_⟩, ?_, ?_⟩
      rotate_left
      · cbv
        exact nG
      · (subst hA; subst_vars; simp only [AR.std, natCast_eq, sG, reduceCtorEq] at *; try simp (disch := omega) only [AR.std, natCast_eq, sG, reduceCtorEq] at *); omega
      · rw [hy1, hy2]
        exact ⟨by simp only; omega, hi2, this⟩
  · rename_i g
    have gi : i = n := by clear hstep hset hexi hGl hGN t0; (subst hA; subst_vars; simp only [AR.std, natCast_eq, sG, reduceCtorEq] at *; try simp (disch := omega) only [AR.std, natCast_eq, sG, reduceCtorEq] at *); omega
    have := hexi gi
    simp only [this]

end Tryz
end Go.Proofs

namespace Go.Proofs
open Go Go.Pe Go.Dg
namespace Tryz
set_option linter.unusedSimpArgs false
set_option linter.unusedVariables false
variable {P : Program} {gl : List (Nat × Obj)}

theorem CL.xm {a b : Nat} {dd : Nat → Dyadic} {ys : List Cell3} (h : CL a b dd ys) : XL dd ((a + b) / 16 + 1) (max a b) ys := by
  intro k hk
  obtain ⟨e, m⟩ := h k hk
  rw [e]
  refine ⟨cZ (dd k), rfl, rfl, (mk_canon _).symm, Mg_len m, ?_⟩
  show (cE (dd k)).natAbs ≤ _
  have h1 := Mg_cE m
  have h2 := Mg_cE2 m
  omega

set_option maxHeartbeats 1000000 in
set_option maxRecDepth 100000 in
theorem l8scale_fs (C : Cx P gl) {ys : List Cell3} {d : Nat → Dyadic} {c : Dyadic} {p q r : List PV} {n e : Int} {s : Bool} (hp : p = cells3 ys) (h1 : CL 0 1 d ys) (hm : Mg 3000 4600 c) (hs : s = (canY c).1) (hq : q = intsL (canY c).2.1) (he : e = (canY c).2.2) (hn : 0 ≤ n) (hn4 : n ≤ 100)
    (hyl : (ys.length : Int) = n * n) (hr : r = cells3 (canL (fun k => d k * c) ys.length)) :
    FS P gl 90 [.agg [I n, .lst p], .agg [B s, .lst q, I e]] (· = .agg [I n, .lst r]) := by
  have hnn : 0 ≤ n * n ∧ n * n ≤ 10000 := by
    have h3 : n * n ≤ 100 * n := Int.mul_le_mul_of_nonneg_right hn4 hn
    have h4 := Int.mul_nonneg hn hn
    omega
  have hyl2 : ys.length ≤ 10000 := by omega
  obtain ⟨u0, hu0⟩ : ∃ u, u = cells3 (List.replicate ys.length noY) := ⟨_, rfl⟩
  have hnew := fun (P' : Program) (C' : Cx P' gl) => l8new_fn C' hn hn4 (by rw [hu0, show ys.length = (n * n).toNat by omega] : u0 = cells3 (List.replicate (n * n).toNat noY))
  have hpl : p.length = ys.length := by rw [hp, cells3_len]
  have hstep : ∀ (i : Int) (t : List PV), 0 ≤ i → i < ys.length → t = cells3 (canL (fun k => d k * c) i.toNat ++ List.replicate (ys.length - i.toNat) noY) → ∃ (s1 s2 : Bool) (e1 e2 : Int) (u1 u2 t2 : List PV), ((ys.getD i.toNat noY).1 = s1 ∧ intsL (ys.getD i.toNat noY).2.1 = u1 ∧ (ys.getD i.toNat noY).2.2 = e1) ∧
      (∀ P', Cx P' gl → FS P' gl 105 [.agg [B s1, .lst u1, I e1], .agg [B s, .lst q, I e]] (· = .agg [B s2, .lst u2, I e2])) ∧
      t2 = t.set i.toNat (.agg [B s2, .lst u2, I e2]) ∧ t2 = cells3 (canL (fun k => d k * c) (i.toNat + 1) ++ List.replicate (ys.length - (i.toNat + 1)) noY) := by
    intro i t h2 h3 ht
    have hlt : i.toNat < ys.length := by omega
    obtain ⟨c1, m1⟩ := h1 i.toNat hlt
    have a1 := Mg_len m1
    have a2 := Mg_cE m1
    have a3 := Mg_cE2 m1
    have b1 := Mg_len hm
    have b2 := Mg_cE hm
    have b3 := Mg_cE2 hm
    refine ⟨(canY (d i.toNat)).1, (canY (d i.toNat * c)).1, (canY (d i.toNat)).2.2, (canY (d i.toNat * c)).2.2, intsL (canY (d i.toNat)).2.1, intsL (canY (d i.toNat * c)).2.1, _, ⟨by rw [c1], by rw [c1], by rw [c1]⟩, fun P' C' => ?_, rfl, ?_⟩
    · rw [hs, hq, he]
      exact l4mul_fs C' (z1 := cZ (d i.toNat)) (z2 := cZ c) rfl rfl rfl rfl (by show _ = mk _ (cE (d i.toNat)) * mk _ (cE c); rw [mk_canon, mk_canon]) rfl rfl rfl (by show (cE (d i.toNat)).natAbs ≤ _; omega) (by show (cE c).natAbs ≤ _; omega) (by omega) (by omega)
    · show t.set i.toNat (cell3 (canY (d i.toNat * c))) = _
      rw [ht, c3set, canL_succ, List.append_assoc]
      congr 1
      rw [List.set_append_right _ _ (by rw [canL_len]; exact Nat.le_refl _), canL_len, Nat.sub_self, show ys.length - i.toNat = (ys.length - (i.toNat + 1)) + 1 by omega, List.replicate_succ]
      rfl
  have hend : ∀ t : List PV, t = cells3 (canL (fun k => d k * c) ys.length ++ List.replicate (ys.length - ys.length) noY) → t = r := by
    intro t h
    rw [h, hr, Nat.sub_self, List.replicate_zero, List.append_nil]
  have hlen : ∀ (i : Int) (t : List PV), 0 ≤ i → i ≤ ys.length → t = cells3 (canL (fun k => d k * c) i.toNat ++ List.replicate (ys.length - i.toNat) noY) → t.length = ys.length := by
    intro i t h2 h3 ht
    rw [ht, cells3_len, List.length_append, canL_len, List.length_replicate]; omega
  clear hyl hnn h1 hr hs hq he
  obtain ⟨rfl, hG⟩ := C
  refine FS_ofT (args := fun A => [.agg [I n, .lst p], .agg [B s, .lst q, I e]]) (R := fun A rr => rr = .agg [I n, .lst r]) Tryz.hT Tryz.mix Tryz.func90 rfl rfl (Nat.le_of_ble_eq_true rfl) ?_
  generalize hP : Tryz.prog = P
  intro A hA
  have C : Tryz.Cx P gl := ⟨hP.symm, hG⟩
  have hI : intsL = A.ints := by subst hA; rfl
  iterate 2 (all_goals try cbv; all_goals repeat' (first | with_reducible exact True.intro | with_reducible refine And.intro ?_ ?_ | intro _))
  all_goals try exact oG
  refine callN hA rfl (hnew P C) ?_; rintro _ _ ⟨rfl, rfl⟩; refine ⟨rfl, ?_⟩
  clear hnew
  iterate 2 (all_goals try cbv; all_goals repeat' (first | with_reducible exact True.intro | with_reducible refine And.intro ?_ ?_ | intro _))
  all_goals try exact oG
  refine loopI hA [] (ι := Int × List PV) (fun x => [(6, .pv (I x.1))]) (fun x => [(3, .row 41 3 x.2)]) (fun x => (ys.length - x.1).toNat) (fun x => 0 ≤ x.1 ∧ x.1 ≤ ys.length ∧ x.2 = cells3 (canL (fun k => d k * c) x.1.toNat ++ List.replicate (ys.length - x.1.toNat) noY)) (0, u0) (by rfl) ?_ ?_ ?_
  all_goals try exact tG
  · exact ⟨Int.le_refl _, by omega, by rw [hu0]; rfl⟩
  rintro ⟨i, t⟩ ⟨hi0, hi1, ht⟩
  simp only at hi0 hi1 ht
  have htl := hlen i t hi0 hi1 ht
  have hout : ∀ _ : Unit, i = ys.length → t = r := by
    intro _ h
    have e : i.toNat = ys.length := by omega
    rw [e] at ht
    exact hend t ht
  have hst : ∀ _ : Unit, i < ys.length → _ := fun _ h => hstep i t hi0 h ht
  clear ht hstep hend hlen hu0
  iterate 2 (all_goals try cbv; all_goals repeat' (first | with_reducible exact True.intro | with_reducible refine And.intro ?_ ?_ | intro _))
  all_goals try exact oG
  · rename_i g
    have gi : i < ys.length := by clear hst hout; (subst hA; subst_vars; simp only [AR.std, natCast_eq, sG, reduceCtorEq] at *; try simp (disch := omega) only [AR.std, natCast_eq, sG, reduceCtorEq] at *); omega
    have hlt : i.toNat < ys.length := by omega
    have hge1 : i + 1 ≤ ys.length := by omega
    obtain ⟨s1, s2, e1, e2, u1, u2, t2, ⟨g1, g2, g3⟩, c1, x1, x2⟩ := hst () gi
    have k1 : A.gb (A.el p (A.nat i)) 0 = s1 := by rw [← g1]; clear hst hout g1 g2 g3 c1 x1 x2 g; (subst hA; subst_vars; simp only [AR.std, natCast_eq, sG, reduceCtorEq] at *; try simp (disch := omega) only [AR.std, natCast_eq, sG, reduceCtorEq] at *)
    have k2 : A.gl (A.el p (A.nat i)) 1 = u1 := by rw [← g2]; clear hst hout g1 g2 g3 c1 x1 x2 g k1; (subst hA; subst_vars; simp only [AR.std, natCast_eq, sG, reduceCtorEq] at *; try simp (disch := omega) only [AR.std, natCast_eq, sG, reduceCtorEq] at *)
    have k3 : A.gi (A.el p (A.nat i)) 2 = e1 := by rw [← g3]; clear hst hout g1 g2 g3 c1 x1 x2 g k1 k2; (subst hA; subst_vars; simp only [AR.std, natCast_eq, sG, reduceCtorEq] at *; try simp (disch := omega) only [AR.std, natCast_eq, sG, reduceCtorEq] at *)
    have hset : A.set t (A.nat i) (.agg [B s2, .lst u2, I e2]) = t2 := by rw [x1]; subst hA; rfl
    clear hst hout g1 g2 g3 g x1
    iterate 2 (all_goals try cbv; all_goals repeat' (first | with_reducible exact True.intro | with_reducible refine And.intro ?_ ?_ | intro _))
    all_goals try exact oG
    all_goals try simp only [k1, k2, k3]
    refine ⟨_, c1 P C, ?_⟩
    clear c1 k1 k2 k3
    iterate 2 (all_goals try cbv; all_goals repeat' (first | with_reducible exact True.intro | with_reducible refine And.intro ?_ ?_ | intro _))
    all_goals try exact oG
    simp only [hset]
    clear hset
    obtain ⟨y1, hy1⟩ : ∃ y, y = i + 1 := ⟨_, rfl⟩
    obtain ⟨y2, hy2⟩ : ∃ y, y = t2 := ⟨_, rfl⟩
    refine ⟨⟨(y1, y2), ?_⟩, ?_, ?_⟩
    rotate_left
    · cbv
      exact nG
    · (subst hA; subst_vars; simp only [AR.std, natCast_eq, sG, reduceCtorEq] at *; try simp (disch := omega) only [AR.std, natCast_eq, sG, reduceCtorEq] at *); omega
    · rw [hy1, hy2]
      refine ⟨by simp only; omega, hge1, ?_⟩
      simp only
      rw [show (i + 1).toNat = i.toNat + 1 by omega]; exact x2
  · rename_i g
    have e := hout () (by clear hst hout; (subst hA; subst_vars; simp only [AR.std, natCast_eq, sG, reduceCtorEq] at *; try simp (disch := omega) only [AR.std, natCast_eq, sG, reduceCtorEq] at *); omega)
    rw [e]

theorem l8new_fs (C : Cx P gl) {n : Int} {u : List PV} (hn : 0 ≤ n) (hn4 : n ≤ 100) (hu : u = cells3 (List.replicate (n * n).toNat noY)) :
    FS P gl 89 [I n] (· = .agg [I n, .lst u]) := FS_ofFN (l8new_fn C hn hn4 hu) (by rintro _ _ ⟨rfl, rfl⟩; rfl)

set_option maxHeartbeats 2000000 in
set_option maxRecDepth 100000 in
theorem specPolyAt_fs (C : Cx P gl) {ys zs : List Cell3} {p q r : List PV} {n n' : Int} {w : Bool} (hq : q = cells3 zs) (hp : p = cells3 ys) (hw : w = true ↔ (matOk n ys ∧ zs.length ≤ 12 ∧ allY zs) ∧ ∀ k, k < ys.length → fits (polS n (dvY ys) (dvY zs) zs.length k))
    (h1 : w = true → r = cells3 (canL (polS n (dvY ys) (dvY zs) zs.length) ys.length) ∧ n' = n) (h2 : w = false → r = [] ∧ n' = 0)
    (hl : ys.length ≤ 2000000) (hy : ∀ y ∈ ys, y.2.1.length ≤ 2000000) (hm : zs.length ≤ 2000000) (hz : ∀ y ∈ zs, y.2.1.length ≤ 2000000) :
    FS P gl 44 [.lst q, .agg [I n, .lst p]] (· = .tup [.agg [I n', .lst r], B w]) := by
  obtain ⟨b, hb⟩ := bool_of (matOk n ys)
  obtain ⟨b2, hb2⟩ := bool_of (allY zs)
  have am := fun (P' : Program) (C' : Cx P' gl) => specMatOk_fs C' (n := n) (b := b) hp hb hl hy
  obtain ⟨qf, hqf⟩ : ∃ qf, qf = if b2 = true then q else [] := ⟨_, rfl⟩
  have af := fun (P' : Program) (C' : Cx P' gl) => l9fits_fs C' (q := qf) (b := b2) hq hb2 hm hz (fun h => by rw [hqf, if_pos h]) (fun h => by rw [hqf, if_neg (by rw [h]; decide)])
  obtain ⟨lb, hlb⟩ : ∃ lb, lb = decide ((12 : Int) < (zs.length : Nat)) := ⟨_, rfl⟩
  have hql : q.length = zs.length := by rw [hq, cells3_len]
  have hok : (matOk n ys ∧ zs.length ≤ 12 ∧ allY zs) ↔ (b = true ∧ lb = false ∧ b2 = true) := by
    rw [hb, hlb, hb2, decide_eq_false_iff_not]
    exact ⟨fun ⟨a, c, d⟩ => ⟨a, by omega, d⟩, fun ⟨a, c, d⟩ => ⟨a, by omega, d⟩⟩
  by_cases ok : matOk n ys ∧ zs.length ≤ 12 ∧ allY zs
  · obtain ⟨rfl, rfl, rfl⟩ := hok.1 ok
    obtain ⟨ok1, hz12, hza⟩ := id ok
    obtain ⟨n1, n4, hyl, hya⟩ := ok1
    have hyl2 := matLen n1 n4 hyl
    have hnn : n.toNat * n.toNat = ys.length := by
      have : n * n = ((n.toNat * n.toNat : Nat) : Int) := by rw [Int.natCast_mul, Int.toNat_of_nonneg (by omega)]
      omega
    have hCy := allY_CL hya
    have hCz := allY_CL hza
    have hmh := Mg.hor (n := n) (d := dvY ys) (c := dvY zs) (m := zs.length) (by omega) (fun k hk => (hCy k (by omega)).2) (fun j hj => (hCz j hj).2)
    obtain ⟨q0, hq0⟩ : ∃ q0, q0 = cells3 (canL (horD n (dvY ys) (dvY zs) zs.length 0) ys.length) := ⟨_, rfl⟩
    have hq00 : q0 = cells3 (List.replicate (n * n).toNat noY) := by
      rw [hq0, ← hyl, Int.toNat_natCast]
      congr 1
      refine List.ext_getElem (by simp [canL_len]) fun a g1 g2 => ?_
      rw [canL_len] at g1
      have := canL_get (dd := horD n (dvY ys) (dvY zs) zs.length 0) g1
      rw [List.getD, List.getElem?_eq_getElem (by rw [canL_len]; exact g1)] at this
      simp only [Option.getD_some] at this
      rw [this, List.getElem_replicate]
      exact canY_zero
    have hnew := fun (P' : Program) (C' : Cx P' gl) => l8new_fs C' (n := n) (by omega) (by omega) hq00
    obtain ⟨qi, hqi⟩ : ∃ qi, qi = cells3 (canL (idD n.toNat) ys.length) := ⟨_, rfl⟩
    have hid := fun (P' : Program) (C' : Cx P' gl) => l8id_fs C' (n := n) (r := qi) (by omega) n4 (by rw [hqi, hnn])
    have hstep : ∀ (i : Int) (v : List PV), 0 ≤ i → i < zs.length → v = cells3 (canL (horD n (dvY ys) (dvY zs) zs.length ((zs.length : Int) - 1 - i).toNat) ys.length) → ∃ (s : Bool) (e : Int) (u x y v2 : List PV), ((zs.getD i.toNat noY).1 = s ∧ intsL (zs.getD i.toNat noY).2.1 = u ∧ (zs.getD i.toNat noY).2.2 = e) ∧
        (∀ P', Cx P' gl → FS P' gl 57 [.agg [I n, .lst v], .agg [I n, .lst p]] (· = .agg [I n, .lst x])) ∧ (∀ P', Cx P' gl → FS P' gl 90 [.agg [I n, .lst qi], .agg [B s, .lst u, I e]] (· = .agg [I n, .lst y])) ∧
        (∀ P', Cx P' gl → FS P' gl 51 [.agg [I n, .lst x], .agg [I n, .lst y], B false] (· = .agg [I n, .lst v2])) ∧ v2 = cells3 (canL (horD n (dvY ys) (dvY zs) zs.length ((zs.length : Int) - 1 - (i - 1)).toNat) ys.length) := by
      intro i v g1 g2 hv
      obtain ⟨t, ht⟩ : ∃ t : Nat, t = ((zs.length : Int) - 1 - i).toNat := ⟨_, rfl⟩
      have ht1 : ((zs.length : Int) - 1 - (i - 1)).toNat = t + 1 := by omega
      have hti : zs.length - 1 - t = i.toNat := by omega
      rw [← ht] at hv
      rw [ht1]
      have hlt : i.toNat < zs.length := by omega
      obtain ⟨c1, m1⟩ := hCz i.toNat hlt
      have hCh : CL (3000 * 11) (4605 * 11) (horD n (dvY ys) (dvY zs) zs.length t) (canL (horD n (dvY ys) (dvY zs) zs.length t) ys.length) := canL_CL fun k hk => (hmh t (by omega) k (by omega)).mono (by omega) (by omega)
      have hCm : CL 36000 55300 (mulD n (horD n (dvY ys) (dvY zs) zs.length t) (dvY ys)) (canL (mulD n (horD n (dvY ys) (dvY zs) zs.length t) (dvY ys)) ys.length) := canL_CL fun k hk => (Mg.mulD (by omega) (fun k hk => (hmh t (by omega) k hk)) (fun k hk => (hCy k (by omega)).2) (by omega)).mono (by omega) (by omega)
      have hCs : CL 36000 55300 (fun k => idD n.toNat k * dvY zs i.toNat) (canL (fun k => idD n.toNat k * dvY zs i.toNat) ys.length) := canL_CL fun k hk => ((Mg.idD n.toNat k).mul m1).mono (by omega) (by omega)
      refine ⟨_, _, _, cells3 (canL (mulD n (horD n (dvY ys) (dvY zs) zs.length t) (dvY ys)) ys.length), cells3 (canL (fun k => idD n.toNat k * dvY zs i.toNat) ys.length), _, ⟨rfl, rfl, rfl⟩,
        fun P' C' => l8mulC_fs C' hv hp hCh hCy (by decide) (by decide) (by omega) n4 (by rw [canL_len]; exact hyl) hyl (by rw [canL_len]),
        fun P' C' => l8scale_fs C' hqi (canL_CL fun k hk => Mg.idD _ _) m1 (by rw [c1]) (by rw [c1]) (by rw [c1]) (by omega) (by omega) (by rw [canL_len]; exact hyl) (by rw [canL_len]),
        fun P' C' => l8addAdd_fs C' rfl rfl (CL.xm hCm) (CL.xm hCs) (by decide) (by decide) (by omega) (by omega) (by rw [canL_len]; exact hyl) (by rw [canL_len]; exact hyl) rfl, ?_⟩
      rw [canL_len]
      congr 1
      show canL (fun k => mulD n (horD n (dvY ys) (dvY zs) zs.length t) (dvY ys) k + idD n.toNat k * dvY zs i.toNat) ys.length = canL (fun k => mulD n (horD n (dvY ys) (dvY zs) zs.length t) (dvY ys) k + idD n.toNat k * dvY zs (zs.length - 1 - t)) ys.length
      rw [hti]
    have hsum : horD n (dvY ys) (dvY zs) zs.length zs.length = polS n (dvY ys) (dvY zs) zs.length := funext fun k => hor_sum _ _ _ _ _
    obtain ⟨v9, hv9⟩ : ∃ v9, v9 = cells3 (canL (polS n (dvY ys) (dvY zs) zs.length) ys.length) := ⟨_, rfl⟩
    have hend : ∀ v : List PV, v = cells3 (canL (horD n (dvY ys) (dvY zs) zs.length zs.length) ys.length) → v = v9 := fun v h => by rw [h, hv9, hsum]
    have hwm : w = true ↔ matOk n (canL (polS n (dvY ys) (dvY zs) zs.length) ys.length) := by
      constructor
      · intro h
        exact ⟨n1, n4, by rw [canL_len]; exact hyl, canL_ok.2 (hw.1 h).2⟩
      · intro h
        exact hw.2 ⟨ok, canL_ok.1 h.2.2.2⟩
    have ft := fun (P' : Program) (C' : Cx P' gl) => l8fits_fs C' (n := n) (n' := n') (q := r) (b := w) (L := 10000) hv9 (canL_W fun k hk => by
      have := Mg_len (hmh zs.length (Nat.le_refl _) k (by omega))
      rw [hsum] at this
      omega) (by omega) (by rw [canL_len]; omega) hwm (fun h => by rw [hv9]; exact h1 h) h2
    have hm0 : ((zs.length : Int) - 1 - ((zs.length : Int) - 1)).toNat = 0 := by omega
    have hqf2 : qf = q := by rw [hqf]; rfl
    obtain ⟨m1, hm1⟩ : ∃ m1 : Int, m1 = (zs.length : Int) - 1 := ⟨_, rfl⟩
    have hq1 : q0 = cells3 (canL (horD n (dvY ys) (dvY zs) zs.length ((zs.length : Int) - 1 - m1).toNat) ys.length) := by rw [hm1, hm0, hq0]
    have hb0 : ∀ _ : Unit, -1 ≤ m1 ∧ m1 < (zs.length : Int) := fun _ => by omega
    clear h1 h2 hw hb hb2 hp hy hz hyl hya hza hok ok hyl2 hnn hCy hCz hmh hq0 hq00 hqi hsum hv9 hwm hm0 hqf2 hqf
    obtain ⟨rfl, hG⟩ := C
    refine FS_ofC (args := fun A => [.lst q, .agg [I n, .lst p]]) (R := fun A rr => rr = .tup [.agg [I n', .lst r], B w]) Tryz.hT Tryz.mix Tryz.func44 rfl rfl (Nat.le_of_ble_eq_true rfl) ?_
    generalize hP : Tryz.prog = P
    intro A hA
    have C : Tryz.Cx P gl := ⟨hP.symm, hG⟩
    have hI : intsL = A.ints := by subst hA; rfl
    have q1 : A.bnot true = false := by subst hA; rfl
    have q3 : ∀ x, A.pick false true x = x := fun x => by subst hA; cases x <;> rfl
    have q5 : A.lt 12 (A.cast (A.len q)) = false := by
      rw [hlb, ← hql]; subst hA; rfl
    have q6 : A.sub .i64 (A.cast (A.len q)) 1 = m1 := by
      rw [hm1, ← hql]
      have : A.cast (A.len q) = (q.length : Nat) := by subst hA; rfl
      rw [this]
      subst hA
      exact wrapi (by omega) (by omega)
    clear hlb
    iterate 2 (all_goals try cbv; all_goals repeat' (first | with_reducible exact True.intro | with_reducible refine And.intro ?_ ?_ | intro _))
    all_goals try exact oG
    refine callS hA rfl (af P C) ?_; rintro _ rfl
    iterate 2 (all_goals try cbv; all_goals repeat' (first | with_reducible exact True.intro | with_reducible refine And.intro ?_ ?_ | intro _))
    all_goals try exact oG
    refine callS hA rfl (am P C) ?_; rintro _ rfl
    iterate 2 (all_goals try cbv; all_goals repeat' (first | with_reducible exact True.intro | with_reducible refine And.intro ?_ ?_ | intro _))
    all_goals try exact oG
    all_goals try simp only [q1, q3, q5]
    iterate 2 (all_goals try cbv; all_goals repeat' (first | with_reducible exact True.intro | with_reducible refine And.intro ?_ ?_ | intro _))
    all_goals try exact oG
    all_goals try simp only [q1, q3, q5]
    iterate 2 (all_goals try cbv; all_goals repeat' (first | with_reducible exact True.intro | with_reducible refine And.intro ?_ ?_ | intro _))
    all_goals try exact oG
    clear am af q1 q3 q5
    refine callS hA rfl (hnew P C) ?_; rintro _ rfl
    clear hnew
    iterate 2 (all_goals try cbv; all_goals repeat' (first | with_reducible exact True.intro | with_reducible refine And.intro ?_ ?_ | intro _))
    all_goals try exact oG
    all_goals try simp only [q6]
    refine loopI hA [] (ι := Int × List PV) (fun x => [(9, .pv (I x.1))]) (fun x => [(2, .box [.pv (I n), .pv (.lst x.2)])]) (fun x => (x.1 + 1).toNat) (fun x => -1 ≤ x.1 ∧ x.1 < zs.length ∧ x.2 = cells3 (canL (horD n (dvY ys) (dvY zs) zs.length ((zs.length : Int) - 1 - x.1).toNat) ys.length)) (m1, q0) (by rfl) ?_ ?_ ?_
    all_goals try exact tG
    · exact ⟨(hb0 ()).1, (hb0 ()).2, hq1⟩
    rintro ⟨i, v⟩ ⟨hi0, hi1, hv⟩
    simp only at hi0 hi1 hv
    have hout : ∀ _ : Unit, i = -1 → v = v9 := by
      intro _ h
      have e : ((zs.length : Int) - 1 - i).toNat = zs.length := by omega
      rw [e] at hv
      exact hend v hv
    have hs : ∀ _ : Unit, 0 ≤ i → _ := fun _ h => hstep i v h hi1 hv
    have hltU : ∀ _ : Unit, 0 ≤ i → i.toNat < zs.length ∧ -1 ≤ i - 1 ∧ i - 1 < (zs.length : Int) ∧ (i - 1 + 1).toNat < (i + 1).toNat := fun _ h => by omega
    clear hv hstep hend hq1 q6 hb0 hi1
    iterate 2 (all_goals try cbv; all_goals repeat' (first | with_reducible exact True.intro | with_reducible refine And.intro ?_ ?_ | intro _))
    all_goals try exact oG
    · rename_i g
      have gi : 0 ≤ i := by clear hs hout hltU; (subst hA; subst_vars; simp only [AR.std, natCast_eq, sG, reduceCtorEq] at *; try simp (disch := omega) only [AR.std, natCast_eq, sG, reduceCtorEq] at *); omega
      obtain ⟨hlt, hl2, hl3, hl4⟩ := hltU () gi
      clear hltU
      obtain ⟨s, e, u, x, y, v2, ⟨g1, g2, g3⟩, c1, c2, c3, x1⟩ := hs () gi
      have k1 : A.gb (A.el q (A.nat i)) 0 = s := by rw [← g1]; clear hs hout g1 g2 g3 c1 c2 c3 x1 g; (subst hA; subst_vars; simp only [AR.std, natCast_eq, sG, reduceCtorEq] at *; try simp (disch := omega) only [AR.std, natCast_eq, sG, reduceCtorEq] at *)
      have k2 : A.gl (A.el q (A.nat i)) 1 = u := by rw [← g2]; clear hs hout g1 g2 g3 c1 c2 c3 x1 g k1; (subst hA; subst_vars; simp only [AR.std, natCast_eq, sG, reduceCtorEq] at *; try simp (disch := omega) only [AR.std, natCast_eq, sG, reduceCtorEq] at *)
      have k3 : A.gi (A.el q (A.nat i)) 2 = e := by rw [← g3]; clear hs hout g1 g2 g3 c1 c2 c3 x1 g k1 k2; (subst hA; subst_vars; simp only [AR.std, natCast_eq, sG, reduceCtorEq] at *; try simp (disch := omega) only [AR.std, natCast_eq, sG, reduceCtorEq] at *)
      clear hs hout g1 g2 g3 g
      refine ⟨_, c1 P C, ?_⟩
      iterate 2 (all_goals try cbv; all_goals repeat' (first | with_reducible exact True.intro | with_reducible refine And.intro ?_ ?_ | intro _))
      all_goals try exact oG
      refine ⟨_, hid P C, ?_⟩
      iterate 2 (all_goals try cbv; all_goals repeat' (first | with_reducible exact True.intro | with_reducible refine And.intro ?_ ?_ | intro _))
      all_goals try exact oG
      all_goals try simp only [k1, k2, k3]
      refine callS hA rfl (c2 P C) ?_; rintro _ rfl
      iterate 2 (all_goals try cbv; all_goals repeat' (first | with_reducible exact True.intro | with_reducible refine And.intro ?_ ?_ | intro _))
      all_goals try exact oG
      refine callS hA rfl (c3 P C) ?_; rintro _ rfl
      clear c1 c2 c3 k1 k2 k3
      iterate 2 (all_goals try cbv; all_goals repeat' (first | with_reducible exact True.intro | with_reducible refine And.intro ?_ ?_ | intro _))
      all_goals try exact oG
      obtain ⟨y1, hy1⟩ : ∃ y, y = i - 1 := ⟨_, rfl⟩
      obtain ⟨y2, hy2⟩ : ∃ y, y = v2 := ⟨_, rfl⟩
      refine ⟨⟨(y1, y2), ?_⟩, ?_, ?_⟩
      rotate_left
      · cbv
        exact nG
      · show (y1 + 1).toNat < (i + 1).toNat
        rw [hy1]; exact hl4
      · rw [hy1, hy2]
        exact ⟨hl2, hl3, x1⟩
    · rename_i g
      have e := hout () (by clear hs hout hltU; (subst hA; subst_vars; simp only [AR.std, natCast_eq, sG, reduceCtorEq] at *; try simp (disch := omega) only [AR.std, natCast_eq, sG, reduceCtorEq] at *); omega)
      subst e
      clear hs hout g hltU
      iterate 2 (all_goals try cbv; all_goals repeat' (first | with_reducible exact True.intro | with_reducible refine And.intro ?_ ?_ | intro _))
      all_goals try exact oG
      refine callS hA rfl (ft P C) ?_; rintro _ rfl
      iterate 2 (all_goals try cbv; all_goals repeat' (first | with_reducible exact True.intro | with_reducible refine And.intro ?_ ?_ | intro _))
      all_goals try exact oG
  · have hwf : w = false := by
      cases hwc : w with
      | false => rfl
      | true => exact absurd (hw.1 hwc).1 ok
    obtain ⟨e1, e2⟩ := h2 hwf
    have hno : b = true → lb = false → b2 = true → False := fun h1 h2 h3 => ok (hok.2 ⟨h1, h2, h3⟩)
    clear h1 h2 hw hb hb2 hp hy hz hok ok hqf
    rw [e1, e2, hwf]
    clear e1 e2 hwf
    obtain ⟨rfl, hG⟩ := C
    refine FS_ofC (args := fun A => [.lst q, .agg [I n, .lst p]]) (R := fun A rr => rr = .tup [.agg [I 0, .lst []], B false]) Tryz.hT Tryz.mix Tryz.func44 rfl rfl (Nat.le_of_ble_eq_true rfl) ?_
    generalize hP : Tryz.prog = P
    intro A hA
    have C : Tryz.Cx P gl := ⟨hP.symm, hG⟩
    have hI : intsL = A.ints := by subst hA; rfl
    have q5 : A.lt 12 (A.cast (A.len q)) = lb := by
      rw [hlb, ← hql]; subst hA; rfl
    clear hlb
    iterate 2 (all_goals try cbv; all_goals repeat' (first | with_reducible exact True.intro | with_reducible refine And.intro ?_ ?_ | intro _))
    all_goals try exact oG
    refine callS hA rfl (af P C) ?_; rintro _ rfl
    iterate 2 (all_goals try cbv; all_goals repeat' (first | with_reducible exact True.intro | with_reducible refine And.intro ?_ ?_ | intro _))
    all_goals try exact oG
    refine callS hA rfl (am P C) ?_; rintro _ rfl
    iterate 2 (all_goals try cbv; all_goals repeat' (first | with_reducible exact True.intro | with_reducible refine And.intro ?_ ?_ | intro _))
    all_goals try exact oG
    all_goals try simp only [q5]
    iterate 2 (all_goals try cbv; all_goals repeat' (first | with_reducible exact True.intro | with_reducible refine And.intro ?_ ?_ | intro _))
    all_goals try exact oG
    all_goals try simp only [q5]
    iterate 2 (all_goals try cbv; all_goals repeat' (first | with_reducible exact True.intro | with_reducible refine And.intro ?_ ?_ | intro _))
    all_goals try exact oG
    all_goals (
      exfalso
      rename_i g
      simp only [q5] at g
      clear am af hI q5
      subst hA
      revert g hno
      cases b <;> cases lb <;> cases b2 <;> intro hno g <;> first | exact hno rfl rfl rfl | exact absurd g (by decide))

end Tryz
end Go.Proofs

