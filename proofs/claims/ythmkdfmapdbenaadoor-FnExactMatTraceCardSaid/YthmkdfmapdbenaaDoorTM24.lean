/- Contracts: the sum of a diagonal in the reference. -/
import Derived.Test.YthmkdfmapdbenaaDoorTM9
import Derived.Test.YthmkdfmapdbenaaDoorTEvD
namespace Go.Proofs
open Go Go.Pe Go.Dg
namespace Tryd
set_option linter.unusedSimpArgs false
set_option linter.unusedVariables false
variable {P : Program} {gl : List (Nat × Obj)}

/-- a step of the sum of a diagonal, in the reference -/
theorem traceStep {ys : List Cell3} {d : Nat → Dyadic} {L E : Nat} {m : Nat} (h1 : XL d L E ys) (hL : L ≤ 100) (hE : E ≤ 3000) (hm4 : m ≤ 4) (hyl : ys.length = m * m)
    (i : Nat) (hi : i < m) : ∃ (s1 s4 : Bool) (e1 e4 : Int) (u1 u4 : List PV), (ys.getD (i * m + i) noY).1 = s1 ∧ intsL (ys.getD (i * m + i) noY).2.1 = u1 ∧ (ys.getD (i * m + i) noY).2.2 = e1 ∧
      (∀ (P' : Program) (gl : List (Nat × Obj)) (s : Bool) (u : List PV) (e : Int), Cx P' gl → s = (canY (psum (fun a => d (a * m + a)) i)).1 → u = intsL (canY (psum (fun a => d (a * m + a)) i)).2.1 → e = (canY (psum (fun a => d (a * m + a)) i)).2.2 →
        FS P' gl 29 [.agg [B s, .lst u, I e], .agg [B s1, .lst u1, I e1]] (· = .agg [B s4, .lst u4, I e4])) ∧
      s4 = (canY (psum (fun a => d (a * m + a)) (i + 1))).1 ∧ u4 = intsL (canY (psum (fun a => d (a * m + a)) (i + 1))).2.1 ∧ e4 = (canY (psum (fun a => d (a * m + a)) (i + 1))).2.2 := by
  obtain ⟨ff, hff⟩ : ∃ ff : Nat → Dyadic, ff = fun a => d (a * m + a) := ⟨_, rfl⟩
  have hX : ∀ a, a < m → ∃ y, X (ff a) L E y := by
    intro a ha
    rw [hff]
    exact ⟨_, h1 (a * m + a) (by rw [hyl]; exact place_lt ha ha)⟩
  have hk4 : i * (E / 8 + 2) ≤ 4 * 377 := Nat.mul_le_mul (by omega) (by omega)
  obtain ⟨yp, hyp⟩ := X_psum hX i (by omega)
  have b1 := X_can hyp
  have b2 := X_cE hyp
  obtain ⟨z1, a1, a2, a3, a4, a5⟩ := h1 (i * m + i) (by rw [hyl]; exact place_lt hi hi)
  rw [← hff]
  refine ⟨_, _, _, _, _, _, rfl, rfl, rfl,
    fun P' gl s u e C' h3 h4 h5 => l4add_fs C' h4 h3 (by rw [a2]) a1 (d := psum ff (i + 1)) (by rw [h5]; show psum ff i + ff i = mk (cZ (psum ff i)) (cE (psum ff i)) + _; rw [mk_canon]; congr 1; rw [hff]; simp only; rw [a3]) rfl rfl rfl (by rw [h5]; show (cE (psum ff i)).natAbs ≤ _; omega) (by omega) (by omega) (by omega), rfl, rfl, rfl⟩

set_option maxHeartbeats 1000000 in
set_option maxRecDepth 100000 in
theorem l8trace_fs (C : Cx P gl) {ys : List Cell3} {d : Nat → Dyadic} {L E : Nat} {p r : List PV} {n f : Int} {u0 : Bool} (hp : p = cells3 ys) (h1 : XL d L E ys) (hL : L ≤ 100) (hE : E ≤ 3000) (hn : 0 ≤ n) (hn4 : n ≤ 4)
    (hyl : (ys.length : Int) = n * n) (hu : u0 = (canY (traceD n.toNat d)).1) (hr : r = intsL (canY (traceD n.toNat d)).2.1) (hf : f = (canY (traceD n.toNat d)).2.2) :
    FS P gl 16 [.agg [I n, .lst p]] (· = .agg [B u0, .lst r, I f]) := by
  have hnn : n * n = ((n.toNat * n.toNat : Nat) : Int) := by rw [Int.natCast_mul, Int.toNat_of_nonneg hn]
  obtain ⟨w, hw⟩ : ∃ w, w = n.toNat := ⟨_, rfl⟩
  obtain ⟨N, hN⟩ : ∃ N, N = ys.length := ⟨_, rfl⟩
  rw [← hw] at hnn hu hr hf
  have hw4 : w ≤ 4 := by omega
  have hNw : N = w * w := by omega
  have hbnd : ∀ a : Int, 0 ≤ a → a < n → (a * n + a).toNat = a.toNat * w + a.toNat ∧ 0 ≤ a * n ∧ a * n ≤ 16 ∧ a * n + a < N := by
    intro a h1 h3
    have hww : w * w ≤ 4 * 4 := Nat.mul_le_mul hw4 hw4
    have e1 : a * n = ((a.toNat * w : Nat) : Int) := by rw [Int.natCast_mul, hw, Int.toNat_of_nonneg h1, Int.toNat_of_nonneg hn]
    have := place_lt (n := w) (i := a.toNat) (j := a.toNat) (by omega) (by omega)
    omega
  have hpl : p.length = N := by rw [hp, cells3_len, hN]
  have hstep : ∀ i : Int, 0 ≤ i → i < n → ∃ (x : Int) (s1 s4 : Bool) (e1 e4 : Int) (u1 u4 : List PV), x = i * n + i ∧ 0 ≤ x ∧ x < N ∧
      ((ys.getD x.toNat noY).1 = s1 ∧ intsL (ys.getD x.toNat noY).2.1 = u1 ∧ (ys.getD x.toNat noY).2.2 = e1) ∧
      (∀ (P' : Program) (s : Bool) (u : List PV) (e : Int), Cx P' gl → s = (canY (psum (fun a => d (a * w + a)) i.toNat)).1 → u = intsL (canY (psum (fun a => d (a * w + a)) i.toNat)).2.1 → e = (canY (psum (fun a => d (a * w + a)) i.toNat)).2.2 →
        FS P' gl 29 [.agg [B s, .lst u, I e], .agg [B s1, .lst u1, I e1]] (· = .agg [B s4, .lst u4, I e4])) ∧
      s4 = (canY (psum (fun a => d (a * w + a)) (i + 1).toNat)).1 ∧ u4 = intsL (canY (psum (fun a => d (a * w + a)) (i + 1).toNat)).2.1 ∧ e4 = (canY (psum (fun a => d (a * w + a)) (i + 1).toNat)).2.2 := by
    intro i hi0 hi
    obtain ⟨x1, x2, x3, x4⟩ := hbnd i hi0 hi
    obtain ⟨s1, s4, e1, e4, u1, u4, g1, g2, g3, g8, g9⟩ := traceStep h1 hL hE hw4 (by omega) i.toNat (by omega)
    refine ⟨i * n + i, s1, s4, e1, e4, u1, u4, rfl, by omega, x4, ?_, fun P' => g8 P' gl, ?_⟩
    · rw [x1]; exact ⟨g1, g2, g3⟩
    · rw [show (i + 1).toNat = i.toNat + 1 by omega]; exact g9
  have hfin : ∀ (s : Bool) (u : List PV) (e : Int), s = (canY (psum (fun a => d (a * w + a)) w)).1 → u = intsL (canY (psum (fun a => d (a * w + a)) w)).2.1 → e = (canY (psum (fun a => d (a * w + a)) w)).2.2 → s = u0 ∧ u = r ∧ e = f := by
    intro s u e g1 g2 g3
    rw [g1, g2, g3, hu, hr, hf]
    exact ⟨rfl, rfl, rfl⟩
  clear h1 hyl hnn hr hu hf
  obtain ⟨rfl, hG⟩ := C
  refine FS_ofT (args := fun A => [.agg [I n, .lst p]]) (R := fun A rr => rr = .agg [B u0, .lst r, I f]) Tryd.hT Tryd.mix Tryd.func16 rfl rfl (Nat.le_of_ble_eq_true rfl) ?_
  generalize hP : Tryd.prog = P
  intro A hA
  have C : Tryd.Cx P gl := ⟨hP.symm, hG⟩
  have hI : intsL = A.ints := by subst hA; rfl
  iterate 2 (all_goals try cbv; all_goals repeat' (first | with_reducible exact True.intro | with_reducible refine And.intro ?_ ?_ | intro _))
  all_goals try exact oG
  refine loopI hA [.nilc 2 1] (ι := Int × Bool × List PV × Int) (fun x => [(4, .pv (I x.1))]) (fun x => [(2, .box [.pv (B x.2.1), .pv (.lst x.2.2.1), .pv (I x.2.2.2)])]) (fun x => (n - x.1).toNat) (fun x => 0 ≤ x.1 ∧ x.1 ≤ n ∧ x.2.1 = (canY (psum (fun a => d (a * w + a)) x.1.toNat)).1 ∧ x.2.2.1 = intsL (canY (psum (fun a => d (a * w + a)) x.1.toNat)).2.1 ∧ x.2.2.2 = (canY (psum (fun a => d (a * w + a)) x.1.toNat)).2.2) (0, false, [], 0) (by rfl) ?_ ?_ ?_
  all_goals try exact tG
  · refine ⟨Int.le_refl _, hn, ?_, ?_, ?_⟩ <;> simp only [Int.toNat_zero, psum, canY_zero] <;> rfl
  rintro ⟨i, t, v, g⟩ ⟨hi0, hi1, ht, hv, hg⟩
  simp only at hi0 hi1 ht hv hg
  have b4 : i < n → 0 ≤ i * n ∧ i * n ≤ 16 ∧ i * n + i < N := fun h => (hbnd i hi0 h).2
  have hexi : i = n → t = u0 ∧ v = r ∧ g = f := by
    intro h
    have : i.toNat = w := by omega
    rw [this] at ht hv hg
    exact hfin t v g ht hv hg
  have hst : ∀ _ : Unit, i < n → ∃ (x : Int) (s1 s4 : Bool) (e1 e4 : Int) (u1 u4 : List PV), x = i * n + i ∧ 0 ≤ x ∧ x < N ∧
      ((ys.getD x.toNat noY).1 = s1 ∧ intsL (ys.getD x.toNat noY).2.1 = u1 ∧ (ys.getD x.toNat noY).2.2 = e1) ∧
      (∀ P', Cx P' gl → FS P' gl 29 [.agg [B t, .lst v, I g], .agg [B s1, .lst u1, I e1]] (· = .agg [B s4, .lst u4, I e4])) ∧
      s4 = (canY (psum (fun a => d (a * w + a)) (i + 1).toNat)).1 ∧ u4 = intsL (canY (psum (fun a => d (a * w + a)) (i + 1).toNat)).2.1 ∧ e4 = (canY (psum (fun a => d (a * w + a)) (i + 1).toNat)).2.2 := by
    intro _ hi
    obtain ⟨x, s1, s4, e1, e4, u1, u4, x1, x2, x3, g1, g3, g4⟩ := hstep i hi0 hi
    exact ⟨x, s1, s4, e1, e4, u1, u4, x1, x2, x3, g1, fun P' C' => g3 P' t v g C' ht hv hg, g4⟩
  clear ht hv hg hstep hbnd hfin
  iterate 2 (all_goals try cbv; all_goals repeat' (first | with_reducible exact True.intro | with_reducible refine And.intro ?_ ?_ | intro _))
  all_goals try exact oG
  · rename_i g0
    have gi : i < n := by clear hst hexi; (subst hA; subst_vars; simp only [AR.std, natCast_eq, sG, reduceCtorEq] at *; try simp (disch := omega) only [AR.std, natCast_eq, sG, reduceCtorEq] at *); omega
    have hi2 : i + 1 ≤ n := by omega
    obtain ⟨x, s1, s5, e1, e5, u1, u5, x1, x2, x3, ⟨g1, g2, g3⟩, g8, g9⟩ := hst () gi
    have hx1 : A.add .i64 (A.mul .i64 i n) i = x := by clear hst hexi g1 g2 g3 g8 g9; (subst hA; subst_vars; simp only [AR.std, natCast_eq, sG, reduceCtorEq] at *; try simp (disch := omega) only [AR.std, natCast_eq, sG, reduceCtorEq] at *)
    have c1 : A.gb (A.el p (A.nat x)) 0 = s1 := by rw [← g1]; clear hst hexi g1 g2 g3 g8 g9 hx1; (subst hA; subst_vars; simp only [AR.std, natCast_eq, sG, reduceCtorEq] at *; try simp (disch := omega) only [AR.std, natCast_eq, sG, reduceCtorEq] at *)
    have c2 : A.gl (A.el p (A.nat x)) 1 = u1 := by rw [← g2]; clear hst hexi g1 g2 g3 g8 g9 hx1 c1; (subst hA; subst_vars; simp only [AR.std, natCast_eq, sG, reduceCtorEq] at *; try simp (disch := omega) only [AR.std, natCast_eq, sG, reduceCtorEq] at *)
    have c3 : A.gi (A.el p (A.nat x)) 2 = e1 := by rw [← g3]; clear hst hexi g1 g2 g3 g8 g9 hx1 c1 c2; (subst hA; subst_vars; simp only [AR.std, natCast_eq, sG, reduceCtorEq] at *; try simp (disch := omega) only [AR.std, natCast_eq, sG, reduceCtorEq] at *)
    clear hst hexi g1 g2 g3 g0
    simp only [hx1, c1, c2, c3]
    clear hx1 c1 c2 c3
    refine callS hA rfl (g8 P C) ?_; rintro _ rfl
    clear g8
    iterate 2 (all_goals try cbv; all_goals repeat' (first | with_reducible exact True.intro | with_reducible refine And.intro ?_ ?_ | intro _))
    all_goals try exact oG
    obtain ⟨y1, hy1⟩ : ∃ y, y = i + 1 := ⟨_, rfl⟩
    obtain ⟨y2, hy2⟩ : ∃ y, y = s5 := ⟨_, rfl⟩
    obtain ⟨y3, hy3⟩ : ∃ y, y = u5 := ⟨_, rfl⟩
    obtain ⟨y4, hy4⟩ : ∃ y, y = e5 := ⟨_, rfl⟩
    refine ⟨⟨(y1, y2, y3, y4), ?_⟩, ?_, ?_⟩
    rotate_left
    · cbv
      exact nG
    · (subst hA; subst_vars; simp only [AR.std, natCast_eq, sG, reduceCtorEq] at *; try simp (disch := omega) only [AR.std, natCast_eq, sG, reduceCtorEq] at *); omega
    · rw [hy1, hy2, hy3, hy4]
      exact ⟨by simp only; omega, hi2, g9⟩
  · rename_i g0
    obtain ⟨g1, g2, g3⟩ := hexi (by clear hst hexi; (subst hA; subst_vars; simp only [AR.std, natCast_eq, sG, reduceCtorEq] at *; try simp (disch := omega) only [AR.std, natCast_eq, sG, reduceCtorEq] at *); omega)
    rw [g1, g2, g3]

end Tryd
end Go.Proofs
