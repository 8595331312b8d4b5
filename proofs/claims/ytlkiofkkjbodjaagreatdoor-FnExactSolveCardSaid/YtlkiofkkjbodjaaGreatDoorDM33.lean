/- Contracts: matrices without a row and a column, in the program. -/
import Derived.Test.YtlkiofkkjbodjaaGreatDoorDM5
import Derived.Test.YtlkiofkkjbodjaaGreatDoorDN11
import Derived.Test.YtlkiofkkjbodjaaGreatDoorDEvD
set_option maxHeartbeats 1000000
set_option maxRecDepth 100000
namespace Go.Proofs
open Go Go.Pe Go.Dg
namespace Tryz
set_option linter.unusedSimpArgs false
set_option linter.unusedVariables false
variable {P : Program} {gl : List (Nat × Obj)}

theorem gridMinor_fs (C : Cx P gl) {ys : List Cell3} {p r : List PV} {n a c n1 : Int} (hp : p = cells3 ys) (hn : 1 ≤ n) (hn4 : n ≤ 4) (ha : 0 ≤ a) (ha4 : a < n) (hc : 0 ≤ c) (hc4 : c < n)
  (hyl : (ys.length : Int) = n * n) (hn1 : n1 = n - 1) (hr : r = cells3 (minorL n.toNat a.toNat c.toNat ys)) :
  FS P gl 152 [.agg [I n, .lst p], I a, I c] (· = .agg [I n1, .lst r]) := by
 obtain ⟨w, hw⟩ : ∃ w, w = n.toNat := ⟨_, rfl⟩
 rw [← hw] at hr
 have hnn : n * n = ((w * w : Nat) : Int) := by rw [hw, Int.natCast_mul, Int.toNat_of_nonneg (by omega)]
 have hw4 : w ≤ 4 := by omega
 have hmul : ∀ i j : Int, 0 ≤ i → 0 ≤ j → i < n → j < n → (i * n + j).toNat = i.toNat * w + j.toNat ∧ i * n + j < ys.length := by
  intro i j h1 h2 h3 h4
  have e1 : i * n = ((i.toNat * w : Nat) : Int) := by rw [Int.natCast_mul, hw, Int.toNat_of_nonneg h1, Int.toNat_of_nonneg (by omega)]
  have := place_lt (n := w) (i := i.toNat) (j := j.toNat) (by omega) (by omega)
  omega
 have hstep : ∀ (i j : Int) (q : List PV), 0 ≤ i → 0 ≤ j → i < n → j < n → q = cells3 (minorP w a.toNat c.toNat (i.toNat * w + j.toNat) ys) → ∃ (s : Bool) (e : Int) (u q2 : List PV), (∀ P', Cx P' gl → FS P' gl 82 [.agg [I n, .lst p], I i, I j] (· = .agg [B s, .lst u, I e])) ∧
   (i ≠ a ∧ j ≠ c → q2 = q ++ [.agg [B s, .lst u, I e]]) ∧ (¬(i ≠ a ∧ j ≠ c) → q2 = q) ∧ q2 = cells3 (minorP w a.toNat c.toNat (i.toNat * w + (j + 1).toNat) ys) := by
  intro i j q h1 h2 h3 h4 hq
  obtain ⟨m1, m2⟩ := hmul i j h1 h2 h3 h4
  refine ⟨_, _, _, _, fun P' C' => gridAt_fs C' hp h1 h2 (by omega) hn4 (by omega) (by omega) m2 rfl rfl, ?_, ?_, rfl⟩
  ·intro h
   rw [show (j + 1).toNat = j.toNat + 1 by omega, ← Nat.add_assoc, minorP_succ (by omega), if_pos (by omega), ← c3app, ← hq, m1]
   rfl
  ·intro h
   rw [show (j + 1).toNat = j.toNat + 1 by omega, ← Nat.add_assoc, minorP_succ (by omega), if_neg (by omega), List.append_nil, hq]
 have hrow : ∀ i : Int, 0 ≤ i → i.toNat * w + w = (i + 1).toNat * w := by
  intro i h
  rw [show (i + 1).toNat = i.toNat + 1 by omega, Nat.add_mul, Nat.one_mul]
 have hlen : ∀ (i j : Int) (q : List PV), 0 ≤ i → 0 ≤ j → i < n → j ≤ n → q = cells3 (minorP w a.toNat c.toNat (i.toNat * w + j.toNat) ys) → q.length ≤ 20 := by
  intro i j q h1 h2 h3 h4 hq
  rw [hq, cells3_len]
  refine Nat.le_trans (minorP_len _ _ _ _ _) ?_
  have : i.toNat * w ≤ 3 * 4 := Nat.mul_le_mul (by omega) (by omega)
  omega
 have hend : ∀ q : List PV, q = cells3 (minorP w a.toNat c.toNat (n.toNat * w) ys) → q = r := by
  intro q h
  rw [h, hr, ← hw, minorP_all]
 clear hr hyl hnn hmul hp
 refine gS C func152 rfl rfl rfl fun A hA hI => ?_
 have hsub : A.sub .i64 n 1 = n1 := by rw [hn1]; subst hA; exact wrapi (by omega) (by omega)
 iterate 2 all_goals try cbv; with_reducible repeat' first | exact ⟨⟩ | apply And.intro | intro _
 all_goals try exact oG
 simp only [hsub]
 clear hsub hn1
 refine loopI hA [.cell 2 1 121 3] (ι := Int × List PV) (fun x => [(16, .pv (I x.1))]) (fun x => [(3, .row 121 3 x.2)]) (fun x => (n - x.1).toNat) (fun x => 0 ≤ x.1 ∧ x.1 ≤ n ∧ x.2 = cells3 (minorP w a.toNat c.toNat (x.1.toNat * w) ys)) (0, []) (by rfl) ?_ ?_ ?_
 all_goals try exact tG
 ·exact ⟨Int.le_refl _, by omega, by rw [show (0 : Int).toNat * w = 0 by simp, minorP_zero]; rfl⟩
 rintro ⟨i, q⟩ ⟨hi0, hi1, hq⟩
 simp only at hi0 hi1 hq
 have hq0 : q = cells3 (minorP w a.toNat c.toNat (i.toNat * w + (0 : Int).toNat) ys) := hq
 have hout : i = n → q = r := by
  intro h
  rw [h] at hq
  exact hend q hq
 clear hq hend
 iterate 2 all_goals try cbv; with_reducible repeat' first | exact ⟨⟩ | apply And.intro | intro _
 all_goals try exact oG
 ·rename_i g
  have gi : i < n := by clear hstep hrow hlen hq0 hout; exact eG
  have hi2 : i + 1 ≤ n := by omega
  have hro := hrow i hi0
  have hst := fun j q h1 h2 => hstep i j q hi0 h1 gi h2
  have hle := fun j q h1 h2 => hlen i j q hi0 h1 gi h2
  clear g hout hstep hrow hlen
  refine loopI hA [] (ι := Int × List PV) (fun x => [(21, .pv (I x.1))]) (fun x => [(3, .row 121 3 x.2)]) (fun x => (n - x.1).toNat) (fun x => 0 ≤ x.1 ∧ x.1 ≤ n ∧ x.2 = cells3 (minorP w a.toNat c.toNat (i.toNat * w + x.1.toNat) ys)) (0, q) (by rfl) ?_ ?_ ?_
  all_goals try exact tG
  ·exact ⟨Int.le_refl _, by omega, hq0⟩
  rintro ⟨j, q2⟩ ⟨hj0, hj1, hq2⟩
  simp only at hj0 hj1 hq2
  have hq2l := hle j q2 hj0 hj1 hq2
  have hx : ∀ _ : Unit, j = n → q2 = cells3 (minorP w a.toNat c.toNat ((i + 1).toNat * w) ys) := by
   intro _ h
   rw [hq2, h, ← hw, hro]
  have hs : ∀ _ : Unit, j < n → ∃ (s : Bool) (e : Int) (u q3 : List PV), (∀ P', Cx P' gl → FS P' gl 82 [.agg [I n, .lst p], I i, I j] (· = .agg [B s, .lst u, I e])) ∧
   (i ≠ a ∧ j ≠ c → q3 = q2 ++ [.agg [B s, .lst u, I e]]) ∧ (¬(i ≠ a ∧ j ≠ c) → q3 = q2) ∧ q3 = cells3 (minorP w a.toNat c.toNat (i.toNat * w + (j + 1).toNat) ys) := fun _ h => hst j q2 hj0 h hq2
  clear hq2 hst hle hq0 hro
  iterate 2 all_goals try cbv; with_reducible repeat' first | exact ⟨⟩ | apply And.intro | intro _
  all_goals try exact oG
  iterate 2 all_goals try cbv; with_reducible repeat' first | exact ⟨⟩ | apply And.intro | intro _
  all_goals try exact oG
  ·rename_i g g2
   have gj : j < n := by clear hx hs; clear g2; exact eG
   have gp : i ≠ a ∧ j ≠ c := by clear hx hs g; (subst hA; subst_vars; simp only [AR.std, natCast_eq, sG, reduceCtorEq] at *; try simp (disch := omega) only [AR.std, natCast_eq, sG, reduceCtorEq] at *); first | assumption | omega
   obtain ⟨s, e, u, q3, c1, c2, _, c4⟩ := hs () gj
   have hj2 : j + 1 ≤ n := by omega
   have c5 := c2 gp
   clear hx hs g g2 c2
   refine ⟨_, c1 P C, ?_⟩
   have hra : A.app q2 [.agg [B s, .lst u, I e]] = q3 := by rw [c5]; subst hA; rfl
   clear c1 c5
   iterate 2 all_goals try cbv; with_reducible repeat' first | exact ⟨⟩ | apply And.intro | intro _
   all_goals try exact oG
   all_goals try exact okA_of hA (by intro x hx; rw [List.mem_singleton.1 hx]; exact ⟨rfl, rfl⟩)
   all_goals try exact cap_of hA (by simp only [List.length_singleton]; omega)
   simp only [hra]
   clear hra
   obtain ⟨y1, hy1⟩ : ∃ y, y = j + 1 := ⟨_, rfl⟩
   obtain ⟨y2, hy2⟩ : ∃ y, y = q3 := ⟨_, rfl⟩
   refine ⟨⟨(y1, y2), ?_⟩, ?_, ?_⟩
   rotate_left
   ·cbv
    exact nG
   ·exact eG
   ·rw [hy1, hy2]
    exact ⟨by simp only; omega, hj2, c4⟩
  ·rename_i g g2
   have gj : j < n := by clear hx hs; clear g2; exact eG
   have gp : ¬(i ≠ a ∧ j ≠ c) := by clear hx hs g; exact eG
   obtain ⟨s, e, u, q3, c1, _, c3, c4⟩ := hs () gj
   have hj2 : j + 1 ≤ n := by omega
   have c5 := c3 gp
   rw [c5] at c4
   clear hx hs g g2 c3 c1 c5
   iterate 2 all_goals try cbv; with_reducible repeat' first | exact ⟨⟩ | apply And.intro | intro _
   all_goals try exact oG
   obtain ⟨y1, hy1⟩ : ∃ y, y = j + 1 := ⟨_, rfl⟩
   obtain ⟨y2, hy2⟩ : ∃ y, y = q2 := ⟨_, rfl⟩
   refine ⟨⟨(y1, y2), ?_⟩, ?_, ?_⟩
   rotate_left
   ·cbv
    exact nG
   ·exact eG
   ·rw [hy1, hy2]
    exact ⟨by simp only; omega, hj2, c4⟩
  ·rename_i g
   have gj : j = n := by clear hx hs; exact eG
   have hq' := hx () gj
   clear hx hs
   iterate 2 all_goals try cbv; with_reducible repeat' first | exact ⟨⟩ | apply And.intro | intro _
   all_goals try exact oG
   obtain ⟨y1, hy1⟩ : ∃ y, y = i + 1 := ⟨_, rfl⟩
   obtain ⟨y2, hy2⟩ : ∃ y, y = q2 := ⟨_, rfl⟩
   refine ⟨⟨(y1, y2), ?_⟩, ?_, ?_⟩
   rotate_left
   ·cbv
    exact nG
   ·exact eG
   ·rw [hy1, hy2]
    exact ⟨by simp only; omega, hi2, hq'⟩
 ·rename_i g
  have e := hout (by clear hstep hrow hlen hq0 hout; exact eG)
  simp only [e]

theorem signed_fs (C : Cx P gl) {z e k : Int} {p : List PV} {s s' : Bool} (hp : p = intsL (dg z.natAbs)) (hs : s = decide (z < 0)) (hk : 0 ≤ k) (hk2 : k ≤ 100) (hs' : s' = if k.toNat % 2 = 1 then decide (0 < z) else s) (hl : (dg z.natAbs).length ≤ 1000000000) :
  FS P gl 153 [.agg [B s, .lst p, I e], I k] (· = .agg [B s', .lst p, I e]) := by
 obtain ⟨s2, hs2⟩ : ∃ s2, s2 = decide (0 < z) := ⟨_, rfl⟩
 have hn := fun (P' : Program) (C' : Cx P' gl) => negated_fs C' (e := e) hp hs hs2 hl
 rw [← hs2] at hs'
 obtain ⟨b, hb⟩ : ∃ b, b = decide (k.toNat % 2 = 1) := ⟨_, rfl⟩
 have h1 : b = true → s' = s2 := by intro h; rw [hb, decide_eq_true_eq] at h; rw [hs', if_pos h]
 have h2 : b = false → s' = s := by intro h; rw [hb, decide_eq_false_iff_not] at h; rw [hs', if_neg h]
 clear hp hs hs' hs2
 refine gS C func153 rfl rfl rfl fun A hA hI => ?_
 have hbb : A.eq (A.rem .i64 k 2) 1 = b := by
  rw [hb]; subst hA
  show (Int.tmod k 2 == 1) = _
  rw [Int.tmod_eq_emod_of_nonneg hk, Bool.eq_iff_iff, beq_iff_eq, decide_eq_true_eq]; omega
 clear hb
 iterate 2 all_goals try cbv; with_reducible repeat' first | exact ⟨⟩ | apply And.intro | intro _
 all_goals try exact oG
 all_goals try simp only [hbb]
 ·rename_i g
  rw [hbb] at g
  rw [h1 g]
  iterate 2 all_goals try cbv; with_reducible repeat' first | exact ⟨⟩ | apply And.intro | intro _
  all_goals try exact oG
  refine callS hA rfl (hn P C) ?_; rintro _ rfl
  iterate 2 all_goals try cbv; with_reducible repeat' first | exact ⟨⟩ | apply And.intro | intro _
  all_goals try exact oG
 ·rename_i g
  rw [hbb] at g
  rw [h2 g]

theorem xSigned {d : Dyadic} {L E : Nat} {y : Cell3} (h : X d L E y) (hL : L ≤ 1000000) (k : Nat) (hk : k ≤ 100) : ∃ y', X (sgnD k d) L E y' ∧
  ∀ (P : Program) (gl : List (Nat × Obj)) (p r : List PV) (k' : Int), Cx P gl → k' = k → p = intsL y.2.1 → r = intsL y'.2.1 → FS P gl 153 [.agg [B y.1, .lst p, I y.2.2], I k'] (· = .agg [B y'.1, .lst r, I y'.2.2]) := by
 obtain ⟨z, h1, h2, h3, h4, h5⟩ := h
 by_cases hk1 : k % 2 = 1
 ·refine ⟨(decide (0 < z), y.2.1, y.2.2), ?_, ?_⟩
  ·rw [sgnD, if_pos hk1]
   exact ⟨-z, by show decide (0 < z) = _; rw [decide_eq_decide]; omega, by rw [Int.natAbs_neg]; exact h2, by rw [h3, mk_neg], by rw [Int.natAbs_neg]; exact h4, h5⟩
  ·intro P gl p r k' C hkk hp hr
   rw [hr, ← hp]
   exact signed_fs C (by rw [hp, h2]) h1 (by omega) (by omega) (by rw [if_pos (by omega)]) (by omega)
 ·refine ⟨y, ?_, ?_⟩
  ·rw [sgnD, if_neg hk1]
   exact ⟨z, h1, h2, h3, h4, h5⟩
  ·intro P gl p r k' C hkk hp hr
   rw [hr, ← hp]
   exact signed_fs C (by rw [hp, h2]) h1 (by omega) (by omega) (by rw [if_neg (by omega)]) (by omega)

end Tryz
end Go.Proofs
