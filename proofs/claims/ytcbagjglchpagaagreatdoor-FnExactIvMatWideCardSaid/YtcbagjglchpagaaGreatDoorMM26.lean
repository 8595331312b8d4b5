/- Contracts: the greatest sum of sizes of numbers within bounds, in the reference. -/
import Derived.Test.YtcbagjglchpagaaGreatDoorMM18
import Derived.Test.YtcbagjglchpagaaGreatDoorMEvD
namespace Go.Proofs
open Go Go.Pe Go.Dg
namespace Tryz
set_option linter.unusedSimpArgs false
set_option linter.unusedVariables false
variable {P : Program} {gl : List (Nat × Obj)}

/-- a step of a sum of sizes, in the reference -/
theorem colStepC {ys : List Cell3} {d : Nat → Dyadic} {a0 b0 : Nat} {m j : Nat} (h1 : CL a0 b0 d ys) (hL : a0 ≤ 50000) (hE : b0 ≤ 90000) (hm4 : m ≤ 4) (hyl : ys.length = m * m) (hj : j < m)
    (i : Nat) (hi : i < m) : ∃ (s1 s4 : Bool) (e1 e4 : Int) (u1 u4 : List PV), (ys.getD (i * m + j) noY).1 = s1 ∧ intsL (ys.getD (i * m + j) noY).2.1 = u1 ∧ (ys.getD (i * m + j) noY).2.2 = e1 ∧
      (∀ P' gl, Cx P' gl → FS P' gl 183 [.agg [B s1, .lst u1, I e1]] (· = .agg [B false, .lst u1, I e1])) ∧
      (∀ (P' : Program) (gl : List (Nat × Obj)) (s : Bool) (u : List PV) (e : Int), Cx P' gl → s = (canY (psum (fun a => absD (d (a * m + j))) i)).1 → u = intsL (canY (psum (fun a => absD (d (a * m + j))) i)).2.1 → e = (canY (psum (fun a => absD (d (a * m + j))) i)).2.2 →
        FS P' gl 124 [.agg [B s, .lst u, I e], .agg [B false, .lst u1, I e1]] (· = .agg [B s4, .lst u4, I e4])) ∧
      s4 = (canY (psum (fun a => absD (d (a * m + j))) (i + 1))).1 ∧ u4 = intsL (canY (psum (fun a => absD (d (a * m + j))) (i + 1))).2.1 ∧ e4 = (canY (psum (fun a => absD (d (a * m + j))) (i + 1))).2.2 := by
  obtain ⟨ff, hff⟩ : ∃ ff : Nat → Dyadic, ff = fun a => absD (d (a * m + j)) := ⟨_, rfl⟩
  have hX : ∀ a, a < m → Mg a0 b0 (ff a) := by
    intro a ha
    rw [hff]
    exact (h1 (a * m + j) (by rw [hyl]; exact place_lt ha hj)).2.abs
  have mp := Mg.psum hX i (by omega)
  have b1 := Mg_len mp
  have b2 := Mg_cE mp
  have b3 := Mg_cE2 mp
  obtain ⟨e0, m0⟩ := h1 (i * m + j) (by rw [hyl]; exact place_lt hi hj)
  have c1 := Mg_len m0
  have c2 := Mg_cE m0
  have c3 := Mg_cE2 m0
  rw [← hff, e0]
  refine ⟨_, _, _, _, _, _, rfl, rfl, rfl, fun P' gl C' => l8abs_fs C' rfl (by omega),
    fun P' gl s u e C' h3 h4 h5 => l4add_fs C' h4 h3 (z2 := ((cZ (d (i * m + j))).natAbs : Int)) (by rw [Int.natAbs_natCast]; rfl) (decide_eq_false (by omega)).symm (d := psum ff (i + 1)) (by rw [h5]; show psum ff i + ff i = mk (cZ (psum ff i)) (cE (psum ff i)) + mk _ (cE (d (i * m + j))); rw [mk_canon]; congr 1; rw [hff]; simp only; rw [← absD_mk, mk_canon]) rfl rfl rfl (by rw [h5]; show (cE (psum ff i)).natAbs ≤ _; omega) (by show (cE (d (i * m + j))).natAbs ≤ _; omega) (by omega) (by rw [Int.natAbs_natCast]; omega), rfl, rfl, rfl⟩

/-- a step of the greatest of some numbers, in the reference -/
theorem maxStepC {f : Nat → Dyadic} {a0 b0 m : Nat} (hX : ∀ k, k < m → Mg a0 b0 (f k)) (hL : a0 ≤ 50000) (hE : b0 ≤ 95000) (k : Nat) (hk : k < m) : ∃ (s4 : Bool) (e4 : Int) (u4 : List PV),
      (∀ (P' : Program) (gl : List (Nat × Obj)) (s t : Bool) (u v : List PV) (e g : Int), Cx P' gl → s = (canY (pmax f k)).1 → u = intsL (canY (pmax f k)).2.1 → e = (canY (pmax f k)).2.2 → t = (canY (f k)).1 → v = intsL (canY (f k)).2.1 → g = (canY (f k)).2.2 →
        FS P' gl 110 [.agg [B s, .lst u, I e], .agg [B t, .lst v, I g]] (· = .agg [B s4, .lst u4, I e4])) ∧
      s4 = (canY (pmax f (k + 1))).1 ∧ u4 = intsL (canY (pmax f (k + 1))).2.1 ∧ e4 = (canY (pmax f (k + 1))).2.2 := by
  have mp := Mg.pmax hX k (by omega)
  have b1 := Mg_len mp
  have b2 := Mg_cE mp
  have b2' := Mg_cE2 mp
  have mq := hX k hk
  have b3 := Mg_len mq
  have b4 := Mg_cE mq
  have b4' := Mg_cE2 mq
  refine ⟨_, _, _, fun P' gl s t u v e g C' h1 h2 h3 h4 h5 h6 => ?_, rfl, rfl, rfl⟩
  have hcm : canY (pmax f (k + 1)) = if cmpD (pmax f k) (f k) < 0 then canY (f k) else canY (pmax f k) := canY_max _ _
  have he : mk (cZ (pmax f k)) e = pmax f k := by rw [h3]; exact mk_canon _
  have hg : mk (cZ (f k)) g = f k := by rw [h6]; exact mk_canon _
  refine l7more_fs C' h2 h1 h5 h4 ?_ ?_ (by rw [h3]; show (cE (pmax f k)).natAbs ≤ _; omega) (by rw [h6]; show (cE (f k)).natAbs ≤ _; omega) (by omega) (by omega)
  · rw [he, hg]
    intro hc
    rw [hcm, if_pos hc, h4, h5, h6]
    exact ⟨rfl, rfl, rfl⟩
  · rw [he, hg]
    intro hc
    rw [hcm, if_neg hc, h1, h2, h3]
    exact ⟨rfl, rfl, rfl⟩

set_option maxHeartbeats 1000000 in
set_option maxRecDepth 100000 in
theorem l8normC_fs (C : Cx P gl) {ys : List Cell3} {d : Nat → Dyadic} {a0 b0 : Nat} {p r : List PV} {n f : Int} {u0 : Bool} (hp : p = cells3 ys) (h1 : CL a0 b0 d ys) (hL : a0 ≤ 50000) (hE : b0 ≤ 90000) (hn : 0 ≤ n) (hn4 : n ≤ 4)
    (hyl : (ys.length : Int) = n * n) (hu : u0 = (canY (normD n.toNat d)).1) (hr : r = intsL (canY (normD n.toNat d)).2.1) (hf : f = (canY (normD n.toNat d)).2.2) :
    FS P gl 126 [.agg [I n, .lst p]] (· = .agg [B u0, .lst r, I f]) := by
  have hnn : n * n = ((n.toNat * n.toNat : Nat) : Int) := by rw [Int.natCast_mul, Int.toNat_of_nonneg hn]
  obtain ⟨w, hw⟩ : ∃ w, w = n.toNat := ⟨_, rfl⟩
  obtain ⟨N, hN⟩ : ∃ N, N = ys.length := ⟨_, rfl⟩
  rw [← hw] at hnn hu hr hf
  have hw4 : w ≤ 4 := by omega
  have hNw : N = w * w := by omega
  have hww : w * w ≤ 4 * 4 := Nat.mul_le_mul hw4 hw4
  have hbnd : ∀ a b : Int, 0 ≤ a → 0 ≤ b → a < n → b < n → (a * n + b).toNat = a.toNat * w + b.toNat ∧ 0 ≤ a * n ∧ a * n ≤ 16 ∧ a * n + b < N := by
    intro a b h1 h2 h3 h4
    have e1 : a * n = ((a.toNat * w : Nat) : Int) := by rw [Int.natCast_mul, hw, Int.toNat_of_nonneg h1, Int.toNat_of_nonneg hn]
    have := place_lt (n := w) (i := a.toNat) (j := b.toNat) (by omega) (by omega)
    omega
  have hpl : p.length = N := by rw [hp, cells3_len, hN]
  -- a step of a column
  have hstep : ∀ (i j : Int), 0 ≤ i → 0 ≤ j → i < n → j < n → ∃ (x : Int) (s1 s4 : Bool) (e1 e4 : Int) (u1 u4 : List PV), x = i * n + j ∧ 0 ≤ x ∧ x < N ∧
      ((ys.getD x.toNat noY).1 = s1 ∧ intsL (ys.getD x.toNat noY).2.1 = u1 ∧ (ys.getD x.toNat noY).2.2 = e1) ∧
      (∀ P' , Cx P' gl → FS P' gl 183 [.agg [B s1, .lst u1, I e1]] (· = .agg [B false, .lst u1, I e1])) ∧
      (∀ (P' : Program) (s : Bool) (u : List PV) (e : Int), Cx P' gl → s = (canY (psum (fun a => absD (d (a * w + j.toNat))) i.toNat)).1 → u = intsL (canY (psum (fun a => absD (d (a * w + j.toNat))) i.toNat)).2.1 → e = (canY (psum (fun a => absD (d (a * w + j.toNat))) i.toNat)).2.2 →
        FS P' gl 124 [.agg [B s, .lst u, I e], .agg [B false, .lst u1, I e1]] (· = .agg [B s4, .lst u4, I e4])) ∧
      s4 = (canY (psum (fun a => absD (d (a * w + j.toNat))) (i + 1).toNat)).1 ∧ u4 = intsL (canY (psum (fun a => absD (d (a * w + j.toNat))) (i + 1).toNat)).2.1 ∧ e4 = (canY (psum (fun a => absD (d (a * w + j.toNat))) (i + 1).toNat)).2.2 := by
    intro i j hi0 hj0 hi hj
    obtain ⟨x1, x2, x3, x4⟩ := hbnd i j hi0 hj0 hi hj
    obtain ⟨s1, s4, e1, e4, u1, u4, g1, g2, g3, g7, g8, g9⟩ := colStepC h1 hL hE hw4 (by omega) (j := j.toNat) (by omega) i.toNat (by omega)
    refine ⟨i * n + j, s1, s4, e1, e4, u1, u4, rfl, by omega, x4, ?_, fun P' C' => g7 P' gl C', fun P' => g8 P' gl, ?_⟩
    · rw [x1]; exact ⟨g1, g2, g3⟩
    · rw [show (i + 1).toNat = i.toNat + 1 by omega]; exact g9
  have hcol : ∀ j, j < w → Mg a0 (b0 + 4) (colD w d j) := fun j hj => Mg.colD hw4 (fun k hk => (h1 k (by omega)).2) hj
  -- a step of the greatest
  have hmax : ∀ (j : Int), 0 ≤ j → j < n → ∃ (s4 : Bool) (e4 : Int) (u4 : List PV),
      (∀ (P' : Program) (s t : Bool) (u v : List PV) (e g : Int), Cx P' gl → s = (canY (pmax (colD w d) j.toNat)).1 → u = intsL (canY (pmax (colD w d) j.toNat)).2.1 → e = (canY (pmax (colD w d) j.toNat)).2.2 → t = (canY (psum (fun a => absD (d (a * w + j.toNat))) w)).1 → v = intsL (canY (psum (fun a => absD (d (a * w + j.toNat))) w)).2.1 → g = (canY (psum (fun a => absD (d (a * w + j.toNat))) w)).2.2 →
        FS P' gl 110 [.agg [B s, .lst u, I e], .agg [B t, .lst v, I g]] (· = .agg [B s4, .lst u4, I e4])) ∧
      s4 = (canY (pmax (colD w d) (j + 1).toNat)).1 ∧ u4 = intsL (canY (pmax (colD w d) (j + 1).toNat)).2.1 ∧ e4 = (canY (pmax (colD w d) (j + 1).toNat)).2.2 := by
    intro j hj0 hj
    obtain ⟨s4, e4, u4, g1, g2⟩ := maxStepC hcol hL (by omega) j.toNat (by omega)
    refine ⟨s4, e4, u4, fun P' => g1 P' gl, ?_⟩
    rw [show (j + 1).toNat = j.toNat + 1 by omega]; exact g2
  have hfin : ∀ (s : Bool) (u : List PV) (e : Int), s = (canY (pmax (colD w d) w)).1 → u = intsL (canY (pmax (colD w d) w)).2.1 → e = (canY (pmax (colD w d) w)).2.2 → s = u0 ∧ u = r ∧ e = f := by
    intro s u e g1 g2 g3
    rw [g1, g2, g3, hu, hr, hf]
    exact ⟨rfl, rfl, rfl⟩
  clear h1 hyl hnn hr hu hf hcol
  obtain ⟨rfl, hG⟩ := C
  refine FS_ofT (args := fun A => [.agg [I n, .lst p]]) (R := fun A rr => rr = .agg [B u0, .lst r, I f]) Tryz.hT Tryz.mix Tryz.func126 rfl rfl (Nat.le_of_ble_eq_true rfl) ?_
  generalize hP : Tryz.prog = P
  intro A hA
  have C : Tryz.Cx P gl := ⟨hP.symm, hG⟩
  have hI : intsL = A.ints := by subst hA; rfl
  iterate 2 (all_goals try cbv; all_goals repeat' (first | with_reducible exact True.intro | with_reducible refine And.intro ?_ ?_ | intro _))
  all_goals try exact oG
  refine loopI hA [.nilc 2 1] (ι := Int × Bool × List PV × Int) (fun x => [(4, .pv (I x.1))]) (fun x => [(2, .box [.pv (B x.2.1), .pv (.lst x.2.2.1), .pv (I x.2.2.2)])]) (fun x => (n - x.1).toNat) (fun x => 0 ≤ x.1 ∧ x.1 ≤ n ∧ x.2.1 = (canY (pmax (colD w d) x.1.toNat)).1 ∧ x.2.2.1 = intsL (canY (pmax (colD w d) x.1.toNat)).2.1 ∧ x.2.2.2 = (canY (pmax (colD w d) x.1.toNat)).2.2) (0, false, [], 0) (by rfl) ?_ ?_ ?_
  all_goals try exact tG
  · refine ⟨Int.le_refl _, hn, ?_, ?_, ?_⟩ <;> simp only [Int.toNat_zero, pmax, canY_zero] <;> rfl
  rintro ⟨j, s, u, e⟩ ⟨hj0, hj1, hs, hu, he⟩
  simp only at hj0 hj1 hs hu he
  have hexj : j = n → s = u0 ∧ u = r ∧ e = f := by
    intro h
    have : j.toNat = w := by omega
    rw [this] at hs hu he
    exact hfin s u e hs hu he
  have hmx : ∀ _ : Unit, j < n → ∃ (s4 : Bool) (e4 : Int) (u4 : List PV),
      (∀ (P' : Program) (t : Bool) (v : List PV) (g : Int), Cx P' gl → t = (canY (psum (fun a => absD (d (a * w + j.toNat))) w)).1 → v = intsL (canY (psum (fun a => absD (d (a * w + j.toNat))) w)).2.1 → g = (canY (psum (fun a => absD (d (a * w + j.toNat))) w)).2.2 →
        FS P' gl 110 [.agg [B s, .lst u, I e], .agg [B t, .lst v, I g]] (· = .agg [B s4, .lst u4, I e4])) ∧
      s4 = (canY (pmax (colD w d) (j + 1).toNat)).1 ∧ u4 = intsL (canY (pmax (colD w d) (j + 1).toNat)).2.1 ∧ e4 = (canY (pmax (colD w d) (j + 1).toNat)).2.2 := by
    intro _ hj
    obtain ⟨s4, e4, u4, g1, g2⟩ := hmax j hj0 hj
    exact ⟨s4, e4, u4, fun P' t v g C' k1 k2 k3 => g1 P' s t u v e g C' hs hu he k1 k2 k3, g2⟩
  clear hs hu he hmax hfin
  iterate 2 (all_goals try cbv; all_goals repeat' (first | with_reducible exact True.intro | with_reducible refine And.intro ?_ ?_ | intro _))
  all_goals try exact oG
  · rename_i g
    have gj : j < n := by clear hexj hmx hstep hbnd; (subst hA; subst_vars; simp only [AR.std, natCast_eq, sG, reduceCtorEq] at *; try simp (disch := omega) only [AR.std, natCast_eq, sG, reduceCtorEq] at *); omega
    have hj2 : j + 1 ≤ n := by omega
    obtain ⟨s4, e4, u4, hm4, hm5⟩ := hmx () gj
    clear g hexj hmx
    refine loopI hA [.nilc 3 1] (ι := Int × Bool × List PV × Int) (fun x => [(6, .pv (I x.1))]) (fun x => [(3, .box [.pv (B x.2.1), .pv (.lst x.2.2.1), .pv (I x.2.2.2)])]) (fun x => (n - x.1).toNat) (fun x => 0 ≤ x.1 ∧ x.1 ≤ n ∧ x.2.1 = (canY (psum (fun a => absD (d (a * w + j.toNat))) x.1.toNat)).1 ∧ x.2.2.1 = intsL (canY (psum (fun a => absD (d (a * w + j.toNat))) x.1.toNat)).2.1 ∧ x.2.2.2 = (canY (psum (fun a => absD (d (a * w + j.toNat))) x.1.toNat)).2.2) (0, false, [], 0) (by rfl) ?_ ?_ ?_
    all_goals try exact tG
    · refine ⟨Int.le_refl _, hn, ?_, ?_, ?_⟩ <;> simp only [Int.toNat_zero, psum, canY_zero] <;> rfl
    rintro ⟨i, t, v, g⟩ ⟨hi0, hi1, ht, hv, hg⟩
    simp only at hi0 hi1 ht hv hg
    have b4 : i < n → 0 ≤ i * n ∧ i * n ≤ 16 ∧ i * n + j < N := fun h => (hbnd i j hi0 hj0 h gj).2
    have hexi : i = n → ∀ P', Cx P' gl → FS P' gl 110 [.agg [B s, .lst u, I e], .agg [B t, .lst v, I g]] (· = .agg [B s4, .lst u4, I e4]) := by
      intro h P' C'
      have : i.toNat = w := by omega
      rw [this] at ht hv hg
      exact hm4 P' t v g C' ht hv hg
    have hst : ∀ _ : Unit, i < n → ∃ (x : Int) (s1 s4 : Bool) (e1 e4 : Int) (u1 u4 : List PV), x = i * n + j ∧ 0 ≤ x ∧ x < N ∧
        ((ys.getD x.toNat noY).1 = s1 ∧ intsL (ys.getD x.toNat noY).2.1 = u1 ∧ (ys.getD x.toNat noY).2.2 = e1) ∧
        (∀ P' , Cx P' gl → FS P' gl 183 [.agg [B s1, .lst u1, I e1]] (· = .agg [B false, .lst u1, I e1])) ∧
        (∀ P', Cx P' gl → FS P' gl 124 [.agg [B t, .lst v, I g], .agg [B false, .lst u1, I e1]] (· = .agg [B s4, .lst u4, I e4])) ∧
        s4 = (canY (psum (fun a => absD (d (a * w + j.toNat))) (i + 1).toNat)).1 ∧ u4 = intsL (canY (psum (fun a => absD (d (a * w + j.toNat))) (i + 1).toNat)).2.1 ∧ e4 = (canY (psum (fun a => absD (d (a * w + j.toNat))) (i + 1).toNat)).2.2 := by
      intro _ hi
      obtain ⟨x, s1, s4, e1, e4, u1, u4, x1, x2, x3, g1, g2, g3, g4⟩ := hstep i j hi0 hj0 hi gj
      exact ⟨x, s1, s4, e1, e4, u1, u4, x1, x2, x3, g1, g2, fun P' C' => g3 P' t v g C' ht hv hg, g4⟩
    clear ht hv hg hstep hbnd hm4
    iterate 2 (all_goals try cbv; all_goals repeat' (first | with_reducible exact True.intro | with_reducible refine And.intro ?_ ?_ | intro _))
    all_goals try exact oG
    · rename_i g0
      have gi : i < n := by clear hst hexi hm5; (subst hA; subst_vars; simp only [AR.std, natCast_eq, sG, reduceCtorEq] at *; try simp (disch := omega) only [AR.std, natCast_eq, sG, reduceCtorEq] at *); omega
      have hi2 : i + 1 ≤ n := by omega
      obtain ⟨x, s1, s5, e1, e5, u1, u5, x1, x2, x3, ⟨g1, g2, g3⟩, g7, g8, g9⟩ := hst () gi
      have hx1 : A.add .i64 (A.mul .i64 i n) j = x := by clear hst hexi hm5 g1 g2 g3 g7 g8 g9; (subst hA; subst_vars; simp only [AR.std, natCast_eq, sG, reduceCtorEq] at *; try simp (disch := omega) only [AR.std, natCast_eq, sG, reduceCtorEq] at *)
      have c1 : A.gb (A.el p (A.nat x)) 0 = s1 := by rw [← g1]; clear hst hexi hm5 g1 g2 g3 g7 g8 g9 hx1; (subst hA; subst_vars; simp only [AR.std, natCast_eq, sG, reduceCtorEq] at *; try simp (disch := omega) only [AR.std, natCast_eq, sG, reduceCtorEq] at *)
      have c2 : A.gl (A.el p (A.nat x)) 1 = u1 := by rw [← g2]; clear hst hexi hm5 g1 g2 g3 g7 g8 g9 hx1 c1; (subst hA; subst_vars; simp only [AR.std, natCast_eq, sG, reduceCtorEq] at *; try simp (disch := omega) only [AR.std, natCast_eq, sG, reduceCtorEq] at *)
      have c3 : A.gi (A.el p (A.nat x)) 2 = e1 := by rw [← g3]; clear hst hexi hm5 g1 g2 g3 g7 g8 g9 hx1 c1 c2; (subst hA; subst_vars; simp only [AR.std, natCast_eq, sG, reduceCtorEq] at *; try simp (disch := omega) only [AR.std, natCast_eq, sG, reduceCtorEq] at *)
      clear hst hexi g1 g2 g3 g0
      simp only [hx1, c1, c2, c3]
      clear hx1 c1 c2 c3
      refine ⟨_, g7 P C, ?_⟩
      iterate 2 (all_goals try cbv; all_goals repeat' (first | with_reducible exact True.intro | with_reducible refine And.intro ?_ ?_ | intro _))
      all_goals try exact oG
      refine callS hA rfl (g8 P C) ?_; rintro _ rfl
      clear g7 g8
      iterate 2 (all_goals try cbv; all_goals repeat' (first | with_reducible exact True.intro | with_reducible refine And.intro ?_ ?_ | intro _))
      all_goals try exact oG
      obtain ⟨y1, hy1⟩ : ∃ y, y = i + 1 := ⟨_, rfl⟩
      obtain ⟨y2, hy2⟩ : ∃ y, y = s5 := ⟨_, rfl⟩
      obtain ⟨y3, hy3⟩ : ∃ y, y = u5 := ⟨_, rfl⟩
      obtain ⟨y4, hy4⟩ : ∃ y, y = e5 := ⟨_, rfl⟩
      refine ⟨⟨(y1, y2, y3, y4), ?_⟩, ?_, ?_⟩
      rotate_left
      · cbv
        exact nG
      · (subst hA; subst_vars; simp only [AR.std, natCast_eq, sG, reduceCtorEq] at *; try simp (disch := omega) only [AR.std, natCast_eq, sG, reduceCtorEq] at *); omega
      · rw [hy1, hy2, hy3, hy4]
        exact ⟨by simp only; omega, hi2, g9⟩
    · rename_i g0
      have hm6 := hexi (by clear hst hexi hm5; (subst hA; subst_vars; simp only [AR.std, natCast_eq, sG, reduceCtorEq] at *; try simp (disch := omega) only [AR.std, natCast_eq, sG, reduceCtorEq] at *); omega)
      clear hst hexi g0
      refine callS hA rfl (hm6 P C) ?_; rintro _ rfl
      clear hm6
      iterate 2 (all_goals try cbv; all_goals repeat' (first | with_reducible exact True.intro | with_reducible refine And.intro ?_ ?_ | intro _))
      all_goals try exact oG
      obtain ⟨y1, hy1⟩ : ∃ y, y = j + 1 := ⟨_, rfl⟩
      obtain ⟨y2, hy2⟩ : ∃ y, y = s4 := ⟨_, rfl⟩
      obtain ⟨y3, hy3⟩ : ∃ y, y = u4 := ⟨_, rfl⟩
      obtain ⟨y4, hy4⟩ : ∃ y, y = e4 := ⟨_, rfl⟩
      refine ⟨⟨(y1, y2, y3, y4), ?_⟩, ?_, ?_⟩
      rotate_left
      · cbv
        exact nG
      · (subst hA; subst_vars; simp only [AR.std, natCast_eq, sG, reduceCtorEq] at *; try simp (disch := omega) only [AR.std, natCast_eq, sG, reduceCtorEq] at *); omega
      · rw [hy1, hy2, hy3, hy4]
        exact ⟨by simp only; omega, hj2, hm5⟩
  · rename_i g
    obtain ⟨g1, g2, g3⟩ := hexj (by clear hexj hmx hstep hbnd; (subst hA; subst_vars; simp only [AR.std, natCast_eq, sG, reduceCtorEq] at *; try simp (disch := omega) only [AR.std, natCast_eq, sG, reduceCtorEq] at *); omega)
    rw [g1, g2, g3]

end Tryz
end Go.Proofs
