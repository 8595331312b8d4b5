/- Contracts: matrices without a row and a column, determinants, in the reference. -/
import Derived.Test.YtlkiofkkjbodjaaGreatDoorDN24
import Derived.Test.YtlkiofkkjbodjaaGreatDoorDM15
import Derived.Test.YtlkiofkkjbodjaaGreatDoorDEvD
set_option maxHeartbeats 1000000
set_option maxRecDepth 100000
namespace Go.Proofs
open Go Go.Pe Go.Dg
namespace Tryz
set_option linter.unusedSimpArgs false
set_option linter.unusedVariables false
variable {P : Program} {gl : List (Nat × Obj)}

theorem l9minor_fs (C : Cx P gl) {ys : List Cell3} {p r : List PV} {n a c n1 : Int} (hp : p = cells3 ys) (hn : 1 ≤ n) (hn4 : n ≤ 4) (ha : 0 ≤ a) (ha4 : a < n) (hc : 0 ≤ c) (hc4 : c < n)
  (hyl : (ys.length : Int) = n * n) (hn1 : n1 = n - 1) (hr : r = cells3 (minorL n.toNat a.toNat c.toNat ys)) :
  FS P gl 139 [.agg [I n, .lst p], I a, I c] (· = .agg [I n1, .lst r]) := by
 obtain ⟨w, hw⟩ : ∃ w, w = n.toNat := ⟨_, rfl⟩
 obtain ⟨N, hN⟩ : ∃ N, N = ys.length := ⟨_, rfl⟩
 rw [← hw] at hr
 have hnn : n * n = ((w * w : Nat) : Int) := by rw [hw, Int.natCast_mul, Int.toNat_of_nonneg (by omega)]
 have hw4 : w ≤ 4 := by omega
 have hmul : ∀ i j : Int, 0 ≤ i → 0 ≤ j → i < n → j < n → (i * n + j).toNat = i.toNat * w + j.toNat ∧ 0 ≤ i * n ∧ i * n ≤ 16 ∧ i * n + j < N := by
  intro i j h1 h2 h3 h4
  have hww : w * w ≤ 4 * 4 := Nat.mul_le_mul hw4 hw4
  have e1 : i * n = ((i.toNat * w : Nat) : Int) := by rw [Int.natCast_mul, hw, Int.toNat_of_nonneg h1, Int.toNat_of_nonneg (by omega)]
  have := place_lt (n := w) (i := i.toNat) (j := j.toNat) (by omega) (by omega)
  omega
 have hpl : p.length = N := by rw [hp, cells3_len, hN]
 have hstep : ∀ (i j : Int) (q : List PV), 0 ≤ i → 0 ≤ j → i < n → j < n → q = cells3 (minorP w a.toNat c.toNat (i.toNat * w + j.toNat) ys) → ∃ (x : Int) (s : Bool) (e : Int) (u q2 : List PV), x = i * n + j ∧ 0 ≤ x ∧ x < N ∧
   ((ys.getD x.toNat noY).1 = s ∧ intsL (ys.getD x.toNat noY).2.1 = u ∧ (ys.getD x.toNat noY).2.2 = e) ∧
   (i ≠ a ∧ j ≠ c → q2 = q ++ [.agg [B s, .lst u, I e]]) ∧ (¬(i ≠ a ∧ j ≠ c) → q2 = q) ∧ q2 = cells3 (minorP w a.toNat c.toNat (i.toNat * w + (j + 1).toNat) ys) := by
  intro i j q h1 h2 h3 h4 hq
  obtain ⟨m1, m2, m3, m4⟩ := hmul i j h1 h2 h3 h4
  refine ⟨i * n + j, _, _, _, _, rfl, by omega, m4, ⟨rfl, rfl, rfl⟩, ?_, ?_, rfl⟩
  ·intro h
   rw [show (j + 1).toNat = j.toNat + 1 by omega, ← Nat.add_assoc, minorP_succ (by omega), if_pos (by omega), ← c3app, ← hq, m1]
   rfl
  ·intro h
   rw [show (j + 1).toNat = j.toNat + 1 by omega, ← Nat.add_assoc, minorP_succ (by omega), if_neg (by omega), List.append_nil, hq]
 have hrow : ∀ i : Int, 0 ≤ i → i.toNat * w + w = (i + 1).toNat * w := by
  intro i h
  rw [show (i + 1).toNat = i.toNat + 1 by omega, Nat.add_mul, Nat.one_mul]
 have hlen : ∀ (i j : Int) (q : List PV), 0 ≤ i → 0 ≤ j → i < n → j ≤ n → q = cells3 (minorP w a.toNat c.toNat (i.toNat * w + j.toNat) ys) → q.length ≤ 20 := by
  intro i j q h1 h2 h3 h4 hq
  rw [hq, cells3_len]
  refine Nat.le_trans (minorP_len _ _ _ _ _) ?_
  have : i.toNat * w ≤ 3 * 4 := Nat.mul_le_mul (by omega) (by omega)
  omega
 have hend : ∀ q : List PV, q = cells3 (minorP w a.toNat c.toNat (n.toNat * w) ys) → q = r := by
  intro q h
  rw [h, hr, ← hw, minorP_all]
 have hbnd : ∀ i j : Int, 0 ≤ i → 0 ≤ j → i < n → j < n → 0 ≤ i * n ∧ i * n ≤ 16 ∧ i * n + j < N := fun i j h1 h2 h3 h4 => (hmul i j h1 h2 h3 h4).2
 clear hr hyl hnn hmul
 refine gS C func139 rfl rfl rfl fun A hA hI => ?_
 have hsub : A.sub .i64 n 1 = n1 := by rw [hn1]; subst hA; exact wrapi (by omega) (by omega)
 iterate 2 all_goals try cbv; with_reducible repeat' first | exact ⟨⟩ | apply And.intro | intro _
 all_goals try exact oG
 simp only [hsub]
 clear hsub hn1
 refine loopI hA [.cell 2 1 64 3] (ι := Int × List PV) (fun x => [(8, .pv (I x.1))]) (fun x => [(3, .row 64 3 x.2)]) (fun x => (n - x.1).toNat) (fun x => 0 ≤ x.1 ∧ x.1 ≤ n ∧ x.2 = cells3 (minorP w a.toNat c.toNat (x.1.toNat * w) ys)) (0, []) (by rfl) ?_ ?_ ?_
 all_goals try exact tG
 ·exact ⟨Int.le_refl _, by omega, by rw [show (0 : Int).toNat * w = 0 by simp, minorP_zero]; rfl⟩
 rintro ⟨i, q⟩ ⟨hi0, hi1, hq⟩
 simp only at hi0 hi1 hq
 have hq0 : q = cells3 (minorP w a.toNat c.toNat (i.toNat * w + (0 : Int).toNat) ys) := hq
 have hout : i = n → q = r := by
  intro h
  rw [h] at hq
  exact hend q hq
 clear hq hend
 iterate 2 all_goals try cbv; with_reducible repeat' first | exact ⟨⟩ | apply And.intro | intro _
 all_goals try exact oG
 ·rename_i g
  have gi : i < n := by clear hstep hrow hlen hq0 hout hbnd hp; exact eG
  have hi2 : i + 1 ≤ n := by omega
  have hro := hrow i hi0
  have hst := fun j q h1 h2 => hstep i j q hi0 h1 gi h2
  have hle := fun j q h1 h2 => hlen i j q hi0 h1 gi h2
  have hbn := fun j h1 h2 => hbnd i j hi0 h1 gi h2
  clear g hout hstep hrow hlen hbnd
  refine loopI hA [] (ι := Int × List PV) (fun x => [(9, .pv (I x.1))]) (fun x => [(3, .row 64 3 x.2)]) (fun x => (n - x.1).toNat) (fun x => 0 ≤ x.1 ∧ x.1 ≤ n ∧ x.2 = cells3 (minorP w a.toNat c.toNat (i.toNat * w + x.1.toNat) ys)) (0, q) (by rfl) ?_ ?_ ?_
  all_goals try exact tG
  ·exact ⟨Int.le_refl _, by omega, hq0⟩
  rintro ⟨j, q2⟩ ⟨hj0, hj1, hq2⟩
  simp only at hj0 hj1 hq2
  have hq2l := hle j q2 hj0 hj1 hq2
  have b4 : j < n → 0 ≤ i * n ∧ i * n ≤ 16 ∧ i * n + j < N := fun h => hbn j hj0 h
  have hx : ∀ _ : Unit, j = n → q2 = cells3 (minorP w a.toNat c.toNat ((i + 1).toNat * w) ys) := by
   intro _ h
   rw [hq2, h, ← hw, hro]
  have hs : ∀ _ : Unit, j < n → ∃ (x : Int) (s : Bool) (e : Int) (u q3 : List PV), x = i * n + j ∧ 0 ≤ x ∧ x < N ∧
   ((ys.getD x.toNat noY).1 = s ∧ intsL (ys.getD x.toNat noY).2.1 = u ∧ (ys.getD x.toNat noY).2.2 = e) ∧
   (i ≠ a ∧ j ≠ c → q3 = q2 ++ [.agg [B s, .lst u, I e]]) ∧ (¬(i ≠ a ∧ j ≠ c) → q3 = q2) ∧ q3 = cells3 (minorP w a.toNat c.toNat (i.toNat * w + (j + 1).toNat) ys) := fun _ h => hst j q2 hj0 h hq2
  clear hq2 hst hle hq0 hro hbn
  iterate 2 all_goals try cbv; with_reducible repeat' first | exact ⟨⟩ | apply And.intro | intro _
  all_goals try exact oG
  iterate 2 all_goals try cbv; with_reducible repeat' first | exact ⟨⟩ | apply And.intro | intro _
  all_goals try exact oG
  all_goals try exact okA_of hA (by intro x hx; rw [List.mem_singleton.1 hx]; exact ⟨rfl, rfl⟩)
  all_goals try exact cap_of hA (by simp only [List.length_singleton]; omega)
  ·rename_i g g2
   have gj : j < n := by clear hx hs hp; clear g2; exact eG
   have gp : i ≠ a ∧ j ≠ c := by clear hx hs hp g; (subst hA; subst_vars; simp only [AR.std, natCast_eq, sG, reduceCtorEq] at *; try simp (disch := omega) only [AR.std, natCast_eq, sG, reduceCtorEq] at *); first | assumption | omega
   obtain ⟨x, s, e, u, q3, x1, x2, x3, ⟨f1, f2, f3⟩, c2, _, c4⟩ := hs () gj
   have hj2 : j + 1 ≤ n := by omega
   have c5 := c2 gp
   have hx1 : A.add .i64 (A.mul .i64 i n) j = x := by clear hx hs f1 f2 f3 c2 c4 c5 g g2; (subst hA; subst_vars; simp only [AR.std, natCast_eq, sG, reduceCtorEq] at *; try simp (disch := omega) only [AR.std, natCast_eq, sG, reduceCtorEq] at *)
   have k1 : A.gb (A.el p (A.nat x)) 0 = s := by rw [← f1]; clear hx hs f1 f2 f3 c2 c4 c5 g g2 hx1; (subst hA; subst_vars; simp only [AR.std, natCast_eq, sG, reduceCtorEq] at *; try simp (disch := omega) only [AR.std, natCast_eq, sG, reduceCtorEq] at *)
   have k2 : A.gl (A.el p (A.nat x)) 1 = u := by rw [← f2]; clear hx hs f1 f2 f3 c2 c4 c5 g g2 hx1 k1; (subst hA; subst_vars; simp only [AR.std, natCast_eq, sG, reduceCtorEq] at *; try simp (disch := omega) only [AR.std, natCast_eq, sG, reduceCtorEq] at *)
   have k3 : A.gi (A.el p (A.nat x)) 2 = e := by rw [← f3]; clear hx hs f1 f2 f3 c2 c4 c5 g g2 hx1 k1 k2; (subst hA; subst_vars; simp only [AR.std, natCast_eq, sG, reduceCtorEq] at *; try simp (disch := omega) only [AR.std, natCast_eq, sG, reduceCtorEq] at *)
   have hra : A.app q2 [.agg [B s, .lst u, I e]] = q3 := by rw [c5]; subst hA; rfl
   clear hx hs g g2 c2 c5 f1 f2 f3
   simp only [hx1, k1, k2, k3, hra]
   clear hx1 k1 k2 k3 hra
   obtain ⟨y1, hy1⟩ : ∃ y, y = j + 1 := ⟨_, rfl⟩
   obtain ⟨y2, hy2⟩ : ∃ y, y = q3 := ⟨_, rfl⟩
   refine ⟨⟨(y1, y2), ?_⟩, ?_, ?_⟩
   rotate_left
   ·cbv
    exact nG
   ·exact eG
   ·rw [hy1, hy2]
    exact ⟨by simp only; omega, hj2, c4⟩
  ·rename_i g g2
   have gj : j < n := by clear hx hs hp; clear g2; exact eG
   have gp : ¬(i ≠ a ∧ j ≠ c) := by clear hx hs hp g; exact eG
   obtain ⟨x, s, e, u, q3, x1, x2, x3, _, _, c3, c4⟩ := hs () gj
   have hj2 : j + 1 ≤ n := by omega
   have c5 := c3 gp
   rw [c5] at c4
   clear hx hs g g2 c3 c5
   iterate 2 all_goals try cbv; with_reducible repeat' first | exact ⟨⟩ | apply And.intro | intro _
   all_goals try exact oG
   obtain ⟨y1, hy1⟩ : ∃ y, y = j + 1 := ⟨_, rfl⟩
   obtain ⟨y2, hy2⟩ : ∃ y, y = q2 := ⟨_, rfl⟩
   refine ⟨⟨(y1, y2), ?_⟩, ?_, ?_⟩
   rotate_left
   ·cbv
    exact nG
   ·exact eG
   ·rw [hy1, hy2]
    exact ⟨by simp only; omega, hj2, c4⟩
  ·rename_i g
   have gj : j = n := by clear hx hs hp; exact eG
   have hq' := hx () gj
   clear hx hs
   iterate 2 all_goals try cbv; with_reducible repeat' first | exact ⟨⟩ | apply And.intro | intro _
   all_goals try exact oG
   obtain ⟨y1, hy1⟩ : ∃ y, y = i + 1 := ⟨_, rfl⟩
   obtain ⟨y2, hy2⟩ : ∃ y, y = q2 := ⟨_, rfl⟩
   refine ⟨⟨(y1, y2), ?_⟩, ?_, ?_⟩
   rotate_left
   ·cbv
    exact nG
   ·exact eG
   ·rw [hy1, hy2]
    exact ⟨by simp only; omega, hi2, hq'⟩
 ·rename_i g
  have e := hout (by clear hstep hrow hlen hq0 hout hbnd hp; exact eG)
  simp only [e]

theorem l9det1_fs (C : Cx P gl) {ys : List Cell3} {p r : List PV} {s : Bool} {e : Int} (hp : p = cells3 ys) (hyl : ys.length = 1) (h1 : (ys.getD 0 noY).1 = s) (h2 : intsL (ys.getD 0 noY).2.1 = r) (h3 : (ys.getD 0 noY).2.2 = e) :
  FS P gl 68 [.agg [I 1, .lst p]] (· = .agg [B s, .lst r, I e]) := by
 have hpl : p.length = 1 := by rw [hp, cells3_len, hyl]
 refine gS C func68 rfl rfl rfl fun A hA hI => ?_
 have k1 : A.gb (A.el p (A.nat 0)) 0 = s := by rw [← h1]; clear h1 h2 h3; (subst hA; subst_vars; simp only [AR.std, natCast_eq, sG, reduceCtorEq] at *; try simp (disch := omega) only [AR.std, natCast_eq, sG, reduceCtorEq] at *)
 have k2 : A.gl (A.el p (A.nat 0)) 1 = r := by rw [← h2]; clear h1 h2 h3; (subst hA; subst_vars; simp only [AR.std, natCast_eq, sG, reduceCtorEq] at *; try simp (disch := omega) only [AR.std, natCast_eq, sG, reduceCtorEq] at *)
 have k3 : A.gi (A.el p (A.nat 0)) 2 = e := by rw [← h3]; clear h1 h2 h3; (subst hA; subst_vars; simp only [AR.std, natCast_eq, sG, reduceCtorEq] at *; try simp (disch := omega) only [AR.std, natCast_eq, sG, reduceCtorEq] at *)
 clear h1 h2 h3
 iterate 2 all_goals try cbv; with_reducible repeat' first | exact ⟨⟩ | apply And.intro | intro _
 all_goals try exact oG
 all_goals try simp only [k1, k2, k3]

noncomputable def dsum (w : Nat) (d : Nat → Dyadic) (j : Nat) : Dyadic := psum (fun a => sgnD a (d a * detD (w - 1) (minorD w 0 a d))) j

theorem dsum_zero (w : Nat) (d : Nat → Dyadic) : dsum w d 0 = 0 := rfl
theorem dsum_succ (w : Nat) (d : Nat → Dyadic) (j : Nat) : dsum w d (j + 1) = dsum w d j + sgnD j (d j * detD (w - 1) (minorD w 0 j d)) := rfl

theorem detStepR {gl : List (Nat × Obj)} {ys : List Cell3} {d : Nat → Dyadic} {w : Nat} (h : CL 3000 4600 d ys) (hw1 : 2 ≤ w) (hw4 : w ≤ 4) (hyl : ys.length = w * w)
  (IH : ∀ j, j < w → ∀ (P : Program) (q u : List PV) (n1 : Int) (s : Bool) (e : Int), Cx P gl → n1 = (w : Int) - 1 → q = cells3 (minorL w 0 j ys) → s = (canY (detD (w - 1) (minorD w 0 j d))).1 → u = intsL (canY (detD (w - 1) (minorD w 0 j d))).2.1 → e = (canY (detD (w - 1) (minorD w 0 j d))).2.2 →
   FS P gl 68 [.agg [I n1, .lst q]] (· = .agg [B s, .lst u, I e]))
  (j : Nat) (hj : j < w) : ∃ (s1 s2 s3 s4 s5 s6 : Bool) (e1 e2 e3 e5 n1 : Int) (u1 u2 u3 u5 q : List PV), ((ys.getD j noY).1 = s1 ∧ intsL (ys.getD j noY).2.1 = u1 ∧ (ys.getD j noY).2.2 = e1) ∧ n1 = (w : Int) - 1 ∧ q = cells3 (minorL w 0 j ys) ∧
   (∀ P', Cx P' gl → FS P' gl 68 [.agg [I n1, .lst q]] (· = .agg [B s2, .lst u2, I e2])) ∧
   (∀ P', Cx P' gl → FS P' gl 71 [.agg [B s1, .lst u1, I e1], .agg [B s2, .lst u2, I e2]] (· = .agg [B s3, .lst u3, I e3])) ∧
   (∀ P', Cx P' gl → FS P' gl 140 [.agg [B s3, .lst u3, I e3]] (· = .agg [B s6, .lst u3, I e3])) ∧ (j % 2 = 1 → s4 = s6) ∧ (¬ j % 2 = 1 → s4 = s3) ∧
   (∀ (P' : Program) (s : Bool) (u : List PV) (e : Int), Cx P' gl → s = (canY (dsum w d j)).1 → u = intsL (canY (dsum w d j)).2.1 → e = (canY (dsum w d j)).2.2 →
    FS P' gl 70 [.agg [B s, .lst u, I e], .agg [B s4, .lst u3, I e3]] (· = .agg [B s5, .lst u5, I e5])) ∧
   s5 = (canY (dsum w d (j + 1))).1 ∧ u5 = intsL (canY (dsum w d (j + 1))).2.1 ∧ e5 = (canY (dsum w d (j + 1))).2.2 := by
 have hm : ∀ k, k < w * w → Mg 3000 4600 (d k) := fun k hk => (h k (by omega)).2
 have hjl : j < w * w := Nat.lt_of_lt_of_le hj (Nat.le_mul_of_pos_right _ (by omega))
 obtain ⟨c1, m1⟩ := h j (by omega)
 have hmin : ∀ i, i < w → Mg 9000 13813 (detD (w - 1) (minorD w 0 i d)) := by
  intro i hi
  refine (Mg.det (a := 3000) (b := 4600) (n := w - 1) (by omega) fun k hk => hm _ (idxL_get ?_)).mono (by omega) (by omega)
  rw [idxL_len hw4 (by omega) hi]; exact hk
 have hterm : ∀ i, i < w → Mg 12000 18413 (sgnD i (d i * detD (w - 1) (minorD w 0 i d))) := fun i hi =>
  Mg.sgn (((hm i (Nat.lt_of_lt_of_le hi (Nat.le_mul_of_pos_right _ (by omega)))).mul (hmin i hi)).mono (by omega) (by omega))
 have hsum : ∀ i, i ≤ w → Mg 12000 18417 (dsum w d i) := fun i hi => (Mg.psum hterm i hi).mono (Nat.le_refl _) (by omega)
 obtain ⟨dm, hdm⟩ : ∃ x, x = detD (w - 1) (minorD w 0 j d) := ⟨_, rfl⟩
 obtain ⟨dp, hdp⟩ : ∃ x, x = d j * dm := ⟨_, rfl⟩
 have hIH := IH j hj
 have m2 := hmin j hj
 rw [← hdm] at hIH m2
 have m3 : Mg 12000 18413 dp := by rw [hdp]; exact (m1.mul m2).mono (by omega) (by omega)
 have m4 := hsum j (by omega)
 have a1 := Mg_len m1
 have a2 := Mg_cE m1
 have a3 := Mg_cE2 m1
 have b1 := Mg_len m2
 have b2 := Mg_cE m2
 have b3 := Mg_cE2 m2
 have f1 := Mg_len m3
 have f2 := Mg_cE m3
 have f3 := Mg_cE2 m3
 have k1 := Mg_len m4
 have k2 := Mg_cE m4
 have k3 := Mg_cE2 m4
 have hss : dsum w d (j + 1) = dsum w d j + sgnD j dp := by rw [dsum_succ, hdp, hdm]
 refine ⟨(canY (d j)).1, (canY dm).1, (canY dp).1, if j % 2 = 1 then decide (0 < cZ dp) else (canY dp).1, _, decide (0 < cZ dp), (canY (d j)).2.2, (canY dm).2.2, (canY dp).2.2, _, _, intsL (canY (d j)).2.1, intsL (canY dm).2.1, intsL (canY dp).2.1, _, _, ⟨by rw [c1], by rw [c1], by rw [c1]⟩, rfl, rfl,
  fun P' C' => hIH P' _ _ _ _ _ C' rfl rfl rfl rfl rfl,
  fun P' C' => l4mul_fs C' (z1 := cZ (d j)) (z2 := cZ dm) rfl rfl rfl rfl (by rw [hdp]; show _ = mk _ (cE (d j)) * mk _ (cE dm); rw [mk_canon, mk_canon]) rfl rfl rfl (by show (cE (d j)).natAbs ≤ _; omega) (by show (cE dm).natAbs ≤ _; omega) (by omega) (by omega),
  fun P' C' => l4neg_fs C' (z := cZ dp) rfl rfl rfl (by omega), fun h => if_pos h, fun h => if_neg h, fun P' s u e C' g1 g2 g3 => ?_, rfl, rfl, rfl⟩
 rw [hss]
 by_cases hj2 : j % 2 = 1
 ·rw [if_pos hj2]
  exact l4add_fs C' (z1 := cZ (dsum w d j)) (z2 := -cZ dp) (by rw [g2]; rfl) (by rw [g1]; rfl) (by rw [Int.natAbs_neg]; rfl) (by rw [decide_eq_decide]; omega) (by rw [g3, sgnD, if_pos hj2]; show _ = mk _ (cE (dsum w d j)) + mk _ (cE dp); rw [mk_canon, ← mk_neg, mk_canon]) rfl rfl rfl (by rw [g3]; show (cE (dsum w d j)).natAbs ≤ _; omega) (by show (cE dp).natAbs ≤ _; omega) (by omega) (by rw [Int.natAbs_neg]; omega)
 ·rw [if_neg hj2]
  exact l4add_fs C' (z1 := cZ (dsum w d j)) (z2 := cZ dp) (by rw [g2]; rfl) (by rw [g1]; rfl) rfl rfl (by rw [g3, sgnD, if_neg hj2]; show _ = mk _ (cE (dsum w d j)) + mk _ (cE dp); rw [mk_canon, mk_canon]) rfl rfl rfl (by rw [g3]; show (cE (dsum w d j)).natAbs ≤ _; omega) (by show (cE dp).natAbs ≤ _; omega) (by omega) (by omega)

theorem l9detN_fs (C : Cx P gl) {ys : List Cell3} {d : Nat → Dyadic} {p r : List PV} {n f : Int} {u0 : Bool} (hp : p = cells3 ys) (h : CL 3000 4600 d ys) (hn : 2 ≤ n) (hn4 : n ≤ 4) (hyl : (ys.length : Int) = n * n)
  (IH : ∀ j, j < n.toNat → ∀ (P : Program) (q u : List PV) (n1 : Int) (s : Bool) (e : Int), Cx P gl → n1 = (n.toNat : Int) - 1 → q = cells3 (minorL n.toNat 0 j ys) → s = (canY (detD (n.toNat - 1) (minorD n.toNat 0 j d))).1 → u = intsL (canY (detD (n.toNat - 1) (minorD n.toNat 0 j d))).2.1 → e = (canY (detD (n.toNat - 1) (minorD n.toNat 0 j d))).2.2 →
   FS P gl 68 [.agg [I n1, .lst q]] (· = .agg [B s, .lst u, I e]))
  (hu : u0 = (canY (dsum n.toNat d n.toNat)).1) (hr : r = intsL (canY (dsum n.toNat d n.toNat)).2.1) (hf : f = (canY (dsum n.toNat d n.toNat)).2.2) :
  FS P gl 68 [.agg [I n, .lst p]] (· = .agg [B u0, .lst r, I f]) := by
 obtain ⟨w, hw⟩ : ∃ w, w = n.toNat := ⟨_, rfl⟩
 have hnn : n * n = ((w * w : Nat) : Int) := by rw [hw, Int.natCast_mul, Int.toNat_of_nonneg (by omega)]
 rw [← hw] at IH hu hr hf
 have hnl : n ≤ n * n := by
  have := Int.mul_le_mul_of_nonneg_right (by omega : 1 ≤ n) (by omega : 0 ≤ n)
  omega
 obtain ⟨N, hN⟩ : ∃ N, N = ys.length := ⟨_, rfl⟩
 have hNn : n ≤ N := by omega
 have hpl : p.length = N := by rw [hp, cells3_len, hN]
 have hstep : ∀ i : Int, 0 ≤ i → i < n → ∃ (s1 s2 s3 s4 s5 s6 : Bool) (e1 e2 e3 e5 n1 : Int) (u1 u2 u3 u5 q : List PV), ((ys.getD i.toNat noY).1 = s1 ∧ intsL (ys.getD i.toNat noY).2.1 = u1 ∧ (ys.getD i.toNat noY).2.2 = e1) ∧
   (∀ P', Cx P' gl → FS P' gl 139 [.agg [I n, .lst p], I 0, I i] (· = .agg [I n1, .lst q])) ∧ (∀ P', Cx P' gl → FS P' gl 68 [.agg [I n1, .lst q]] (· = .agg [B s2, .lst u2, I e2])) ∧
   (∀ P', Cx P' gl → FS P' gl 71 [.agg [B s1, .lst u1, I e1], .agg [B s2, .lst u2, I e2]] (· = .agg [B s3, .lst u3, I e3])) ∧
   (∀ P', Cx P' gl → FS P' gl 140 [.agg [B s3, .lst u3, I e3]] (· = .agg [B s6, .lst u3, I e3])) ∧ (i.toNat % 2 = 1 → s4 = s6) ∧ (¬ i.toNat % 2 = 1 → s4 = s3) ∧
   (∀ (P' : Program) (s : Bool) (u : List PV) (e : Int), Cx P' gl → s = (canY (dsum w d i.toNat)).1 → u = intsL (canY (dsum w d i.toNat)).2.1 → e = (canY (dsum w d i.toNat)).2.2 →
    FS P' gl 70 [.agg [B s, .lst u, I e], .agg [B s4, .lst u3, I e3]] (· = .agg [B s5, .lst u5, I e5])) ∧
   s5 = (canY (dsum w d (i + 1).toNat)).1 ∧ u5 = intsL (canY (dsum w d (i + 1).toNat)).2.1 ∧ e5 = (canY (dsum w d (i + 1).toNat)).2.2 := by
  intro i hi0 hi
  obtain ⟨s1, s2, s3, s4, s5, s6, e1, e2, e3, e5, n1, u1, u2, u3, u5, q, g1, g2, g3, g4, g5, g6, g7, g8, g9, g10⟩ := detStepR h (by omega) (by omega) (by omega) IH i.toNat (by omega)
  refine ⟨s1, s2, s3, s4, s5, s6, e1, e2, e3, e5, n1, u1, u2, u3, u5, q, g1, fun P' C' => l9minor_fs C' hp (by omega) hn4 (Int.le_refl _) (by omega) hi0 hi hyl (by omega) (by rw [g3, ← hw]; rfl), g4, g5, g6, g7, g8, g9, ?_⟩
  rw [show (i + 1).toNat = i.toNat + 1 by omega]; exact g10
 have hfin : ∀ (s : Bool) (u : List PV) (e : Int), s = (canY (dsum w d w)).1 → u = intsL (canY (dsum w d w)).2.1 → e = (canY (dsum w d w)).2.2 → s = u0 ∧ u = r ∧ e = f := by
  intro s u e g1 g2 g3
  rw [g1, g2, g3, hu, hr, hf]
  exact ⟨rfl, rfl, rfl⟩
 have hlt0 : ∀ (_ : Unit) (i : Int), 0 ≤ i → i < n → i.toNat < ys.length := fun _ i h1 h2 => by omega
 clear h IH hyl hu hr hf hnn hnl
 refine gS C func68 rfl rfl rfl fun A hA hI => ?_
 iterate 2 all_goals try cbv; with_reducible repeat' first | exact ⟨⟩ | apply And.intro | intro _
 all_goals try exact oG
 refine loopI hA [.nilc 2 1] (ι := Int × Bool × List PV × Int) (fun x => [(4, .pv (I x.1))]) (fun x => [(2, .box [.pv (B x.2.1), .pv (.lst x.2.2.1), .pv (I x.2.2.2)])]) (fun x => (n - x.1).toNat) (fun x => 0 ≤ x.1 ∧ x.1 ≤ n ∧ x.2.1 = (canY (dsum w d x.1.toNat)).1 ∧ x.2.2.1 = intsL (canY (dsum w d x.1.toNat)).2.1 ∧ x.2.2.2 = (canY (dsum w d x.1.toNat)).2.2) (0, false, [], 0) (by rfl) ?_ ?_ ?_
 all_goals try exact tG
 ·refine ⟨Int.le_refl _, by omega, ?_, ?_, ?_⟩ <;> simp only [Int.toNat_zero, dsum_zero, canY_zero] <;> rfl
 rintro ⟨i, s, u, e⟩ ⟨hi0, hi1, hs, hu, he⟩
 simp only at hi0 hi1 hs hu he
 have hexi : i = n → s = u0 ∧ u = r ∧ e = f := by
  intro h
  have : i.toNat = w := by omega
  rw [this] at hs hu he
  exact hfin s u e hs hu he
 have hsx : ∀ _ : Unit, i < n → ∃ (s1 s2 s3 s4 s5 s6 : Bool) (e1 e2 e3 e5 n1 : Int) (u1 u2 u3 u5 q : List PV), ((ys.getD i.toNat noY).1 = s1 ∧ intsL (ys.getD i.toNat noY).2.1 = u1 ∧ (ys.getD i.toNat noY).2.2 = e1) ∧
   (∀ P', Cx P' gl → FS P' gl 139 [.agg [I n, .lst p], I 0, I i] (· = .agg [I n1, .lst q])) ∧ (∀ P', Cx P' gl → FS P' gl 68 [.agg [I n1, .lst q]] (· = .agg [B s2, .lst u2, I e2])) ∧
   (∀ P', Cx P' gl → FS P' gl 71 [.agg [B s1, .lst u1, I e1], .agg [B s2, .lst u2, I e2]] (· = .agg [B s3, .lst u3, I e3])) ∧
   (∀ P', Cx P' gl → FS P' gl 140 [.agg [B s3, .lst u3, I e3]] (· = .agg [B s6, .lst u3, I e3])) ∧ (i.toNat % 2 = 1 → s4 = s6) ∧ (¬ i.toNat % 2 = 1 → s4 = s3) ∧
   (∀ P', Cx P' gl → FS P' gl 70 [.agg [B s, .lst u, I e], .agg [B s4, .lst u3, I e3]] (· = .agg [B s5, .lst u5, I e5])) ∧
   s5 = (canY (dsum w d (i + 1).toNat)).1 ∧ u5 = intsL (canY (dsum w d (i + 1).toNat)).2.1 ∧ e5 = (canY (dsum w d (i + 1).toNat)).2.2 := by
  intro _ hi
  obtain ⟨s1, s2, s3, s4, s5, s6, e1, e2, e3, e5, n1, u1, u2, u3, u5, q, g1, g2, g4, g5, g6, g7, g8, g9, g10⟩ := hstep i hi0 hi
  exact ⟨s1, s2, s3, s4, s5, s6, e1, e2, e3, e5, n1, u1, u2, u3, u5, q, g1, g2, g4, g5, g6, g7, g8, fun P' C' => g9 P' s u e C' hs hu he, g10⟩
 clear hs hu he hstep hfin
 iterate 2 all_goals try cbv; with_reducible repeat' first | exact ⟨⟩ | apply And.intro | intro _
 all_goals try exact oG
 ·rename_i g0
  have gi : i < n := by clear hexi hsx hp hlt0; exact eG
  obtain ⟨s1, s2, s3, s4, s5, s6, e1, e2, e3, e5, n1, u1, u2, u3, u5, q, ⟨g1, g2, g3⟩, g4, g5, g6, g7, g8, g9, g10, g11⟩ := hsx () gi
  have hi2 : i + 1 ≤ n := by omega
  have hlt := hlt0 () i hi0 gi
  have c1 : A.gb (A.el p (A.nat i)) 0 = s1 := by rw [← g1]; clear hexi hsx hlt0 g0 g1 g2 g3 g4 g5 g6 g7 g8 g9 g10 g11; (subst hA; subst_vars; simp only [AR.std, natCast_eq, sG, reduceCtorEq] at *; try simp (disch := omega) only [AR.std, natCast_eq, sG, reduceCtorEq] at *)
  have c2 : A.gl (A.el p (A.nat i)) 1 = u1 := by rw [← g2]; clear hexi hsx hlt0 g0 g1 g2 g3 g4 g5 g6 g7 g8 g9 g10 g11 c1; (subst hA; subst_vars; simp only [AR.std, natCast_eq, sG, reduceCtorEq] at *; try simp (disch := omega) only [AR.std, natCast_eq, sG, reduceCtorEq] at *)
  have c3 : A.gi (A.el p (A.nat i)) 2 = e1 := by rw [← g3]; clear hexi hsx hlt0 g0 g1 g2 g3 g4 g5 g6 g7 g8 g9 g10 g11 c1 c2; (subst hA; subst_vars; simp only [AR.std, natCast_eq, sG, reduceCtorEq] at *; try simp (disch := omega) only [AR.std, natCast_eq, sG, reduceCtorEq] at *)
  have codd : A.eq (A.rem .i64 i 2) 1 = decide (i.toNat % 2 = 1) := by
   clear hexi hsx hlt0 g0 g1 g2 g3 g4 g5 g6 g7 g8 g9 g10 g11 c1 c2 c3
   subst hA
   show (Int.tmod i 2 == 1) = _
   rw [Int.tmod_eq_emod_of_nonneg hi0, Bool.eq_iff_iff, beq_iff_eq, decide_eq_true_eq]; omega
  obtain ⟨od, hod⟩ : ∃ od, od = decide (i.toNat % 2 = 1) := ⟨_, rfl⟩
  rw [← hod] at codd
  have g8' : od = true → s4 = s6 := fun h => g8 (of_decide_eq_true (hod ▸ h))
  have g9' : od = false → s4 = s3 := fun h => g9 (of_decide_eq_false (hod ▸ h))
  clear hexi hsx hlt0 g0 g1 g2 g3 g8 g9 hod
  iterate 2 all_goals try cbv; with_reducible repeat' first | exact ⟨⟩ | apply And.intro | intro _
  all_goals try exact oG
  all_goals simp only [c1, c2, c3]
  refine ⟨_, g4 P C, ?_⟩
  iterate 2 all_goals try cbv; with_reducible repeat' first | exact ⟨⟩ | apply And.intro | intro _
  all_goals try exact oG
  refine ⟨_, g5 P C, ?_⟩
  iterate 2 all_goals try cbv; with_reducible repeat' first | exact ⟨⟩ | apply And.intro | intro _
  all_goals try exact oG
  refine ⟨_, g6 P C, ?_⟩
  iterate 2 all_goals try cbv; with_reducible repeat' first | exact ⟨⟩ | apply And.intro | intro _
  all_goals try exact oG
  all_goals try simp only [codd]
  ·rename_i g
   rw [codd] at g
   have g8 := g8' g
   subst g8
   clear g8' g9' c1 c2 c3 codd g
   iterate 2 all_goals try cbv; with_reducible repeat' first | exact ⟨⟩ | apply And.intro | intro _
   all_goals try exact oG
   refine callS hA rfl (g7 P C) ?_; rintro _ rfl
   iterate 2 all_goals try cbv; with_reducible repeat' first | exact ⟨⟩ | apply And.intro | intro _
   all_goals try exact oG
   refine callS hA rfl (g10 P C) ?_; rintro _ rfl
   clear g4 g5 g6 g7 g10
   iterate 2 all_goals try cbv; with_reducible repeat' first | exact ⟨⟩ | apply And.intro | intro _
   all_goals try exact oG
   obtain ⟨y1, hy1⟩ : ∃ y, y = i + 1 := ⟨_, rfl⟩
   obtain ⟨y2, hy2⟩ : ∃ y, y = s5 := ⟨_, rfl⟩
   obtain ⟨y3, hy3⟩ : ∃ y, y = u5 := ⟨_, rfl⟩
   obtain ⟨y4, hy4⟩ : ∃ y, y = e5 := ⟨_, rfl⟩
   refine ⟨⟨(y1, y2, y3, y4), ?_⟩, ?_, ?_⟩
   rotate_left
   ·cbv
    exact nG
   ·exact eG
   ·rw [hy1, hy2, hy3, hy4]
    exact ⟨by simp only; omega, hi2, g11⟩
  ·rename_i g
   rw [codd] at g
   have g9 := g9' g
   subst g9
   clear g8' g9' c1 c2 c3 codd g
   iterate 2 all_goals try cbv; with_reducible repeat' first | exact ⟨⟩ | apply And.intro | intro _
   all_goals try exact oG
   refine callS hA rfl (g10 P C) ?_; rintro _ rfl
   clear g4 g5 g6 g7 g10
   iterate 2 all_goals try cbv; with_reducible repeat' first | exact ⟨⟩ | apply And.intro | intro _
   all_goals try exact oG
   obtain ⟨y1, hy1⟩ : ∃ y, y = i + 1 := ⟨_, rfl⟩
   obtain ⟨y2, hy2⟩ : ∃ y, y = s5 := ⟨_, rfl⟩
   obtain ⟨y3, hy3⟩ : ∃ y, y = u5 := ⟨_, rfl⟩
   obtain ⟨y4, hy4⟩ : ∃ y, y = e5 := ⟨_, rfl⟩
   refine ⟨⟨(y1, y2, y3, y4), ?_⟩, ?_, ?_⟩
   rotate_left
   ·cbv
    exact nG
   ·exact eG
   ·rw [hy1, hy2, hy3, hy4]
    exact ⟨by simp only; omega, hi2, g11⟩
 ·rename_i g0
  obtain ⟨g1, g2, g3⟩ := hexi (by clear hexi hsx hp hlt0; exact eG)
  rw [g1, g2, g3]

theorem l9det_fs' : ∀ (m : Nat), m + 1 ≤ 4 → ∀ {gl : List (Nat × Obj)} {ys : List Cell3} {d : Nat → Dyadic}, CL 3000 4600 d ys → ys.length = (m + 1) * (m + 1) →
  ∀ (P : Program) (p r : List PV) (n : Int) (s : Bool) (e : Int), Cx P gl → n = ((m + 1 : Nat) : Int) → p = cells3 ys → s = (canY (detD (m + 1) d)).1 → r = intsL (canY (detD (m + 1) d)).2.1 → e = (canY (detD (m + 1) d)).2.2 → FS P gl 68 [.agg [I n, .lst p]] (· = .agg [B s, .lst r, I e])
 | 0, _, gl, ys, d, h, hy, P, p, r, n, s, e, C, hn, hp, hs, hr, he => by
  obtain rfl : n = 1 := hn
  have e1 : detD (0 + 1) d = d 0 := detD_one d
  rw [e1] at hs hr he
  have c1 := (h 0 (by omega)).1
  exact l9det1_fs C hp (by omega) (by rw [c1, hs]) (by rw [c1, hr]) (by rw [c1, he])
 | m + 1, hm, gl, ys, d, h, hy, P, p, r, n, s, e, C, hn, hp, hs, hr, he => by
  have hnt : n.toNat = m + 1 + 1 := by omega
  refine l9detN_fs C (d := d) hp h (by omega) (by omega) (by rw [hy, hn]; exact Int.natCast_mul _ _) ?_ (by rw [hnt]; exact hs) (by rw [hnt]; exact hr) (by rw [hnt]; exact he)
  rw [hnt]
  intro j hj P' q u n1 s' e' C' h1 h2 h3 h4 h5
  exact l9det_fs' m (by omega) (minor_CL (r := 0) (c := j) h hy) (by rw [minorL_len, idxL_len hm (by omega) hj]; rfl) P' q u n1 s' e' C' (by omega) h2 h3 h4 h5

theorem l8det_fs (C : Cx P gl) {ys : List Cell3} {d : Nat → Dyadic} {p r : List PV} {n f : Int} {u0 : Bool} (hp : p = cells3 ys) (h : CL 3000 4600 d ys) (hn : 1 ≤ n) (hn4 : n ≤ 4) (hyl : (ys.length : Int) = n * n)
  (hu : u0 = (canY (detD n.toNat d)).1) (hr : r = intsL (canY (detD n.toNat d)).2.1) (hf : f = (canY (detD n.toNat d)).2.2) :
  FS P gl 68 [.agg [I n, .lst p]] (· = .agg [B u0, .lst r, I f]) := by
 have hnn : n * n = ((n.toNat * n.toNat : Nat) : Int) := by rw [Int.natCast_mul, Int.toNat_of_nonneg (by omega)]
 obtain ⟨m, hm⟩ : ∃ m, n.toNat = m + 1 := ⟨n.toNat - 1, by omega⟩
 rw [hm] at hu hr hf hnn
 exact l9det_fs' m (by omega) h (by omega) P p r n u0 f C (by omega) hp hu hr hf

end Tryz
end Go.Proofs
