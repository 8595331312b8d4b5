/- Contracts: exact numbers. -/
import Derived.Test.YtcbagjglchpagaaGreatDoorMN10
namespace Go.Proofs
open Go Go.Pe Go.Dg
namespace Tryz
set_option linter.unusedSimpArgs false
set_option linter.unusedVariables false
variable {P : Program} {gl : List (Nat × Obj)}

set_option maxHeartbeats 1000000 in
set_option maxRecDepth 100000 in
theorem negated_fs (C : Cx P gl) {z e : Int} {p : List PV} {s s' : Bool} (hp : p = intsL (dg z.natAbs)) (hs : s = decide (z < 0)) (hs' : s' = decide (0 < z)) (hl : (dg z.natAbs).length ≤ 1000000000) :
    FS P gl 184 [.agg [B s, .lst p, I e]] (· = .agg [B s', .lst p, I e]) := by
  have h0 : s' = (!s && decide ((dg z.natAbs).length ≠ 0)) := by
    have h : decide ((dg z.natAbs).length ≠ 0) = decide (z ≠ 0) := by rw [decide_eq_decide, ne_eq, dg_len0]; omega
    rw [h, hs, hs', Bool.eq_iff_iff]
    simp only [Bool.and_eq_true, Bool.not_eq_true', decide_eq_true_eq, decide_eq_false_iff_not]
    omega
  clear hs hs'
  obtain ⟨rfl, hG⟩ := C
  refine FS_ofT (args := fun A => [.agg [B s, .lst p, I e]]) (R := fun A rr => rr = .agg [B s', .lst p, I e]) Tryz.hT Tryz.mix Tryz.func184 rfl rfl (Nat.le_of_ble_eq_true rfl) ?_
  generalize hP : Tryz.prog = P
  intro A hA
  have C : Tryz.Cx P gl := ⟨hP.symm, hG⟩
  have hI : intsL = A.ints := by subst hA; rfl
  iterate 2 (all_goals try cbv; all_goals repeat' (first | with_reducible exact True.intro | with_reducible refine And.intro ?_ ?_ | intro _))
  all_goals try exact oH
  have e0 := len_d hA hp
  have e1 : A.pick (A.bnot s) (decide ((dg z.natAbs).length ≠ 0)) false = s' := by subst hA; rw [h0]; cases s <;> rfl
  simp only [e0, e1]

theorem min_std2 (a b : Int) : AR.std.min a b = min a b := by show (if b < a then b else a) = _; split <;> omega

theorem max_sub {A : AR} (hA : A = AR.std) {a w e : Int} (hw : w = e) (h1 : a.natAbs ≤ 100000) (h2 : e.natAbs ≤ 100000) : A.max (A.sub .i64 a w) 0 = max (a - e) 0 := by
  subst hA hw
  have h : AR.std.sub .i64 a w = a - w := wrapi (by omega) (by omega)
  rw [h]
  show (if (0 : Int) > a - w then (0 : Int) else a - w) = _
  split <;> omega

set_option maxHeartbeats 1000000 in
set_option maxRecDepth 100000 in
theorem aligned_fs (C : Cx P gl) {z1 e1 z2 e2 x y e : Int} {p q p' q' : List PV} {s t : Bool} (hp : p = intsL (dg z1.natAbs)) (hq : q = intsL (dg z2.natAbs))
    (hI : alignI z2 e2 z1 e1 y x e) (hp' : p' = intsL (dg x.natAbs)) (hq' : q' = intsL (dg y.natAbs))
    (h1 : e1.natAbs ≤ 100000) (h2 : e2.natAbs ≤ 100000) (hl : (dg z1.natAbs).length ≤ 1000000) (hm : (dg z2.natAbs).length ≤ 1000000) :
    FS P gl 160 [.agg [B s, .lst p, I e1], .agg [B t, .lst q, I e2]] (· = .tup [.lst p', .lst q', I e]) := by
  obtain ⟨u1, u2, d1, d2, d3⟩ := align_up hI
  have b3 := (align_len hI hm hl h2 h1).2.2
  have hx := valid_dg z1.natAbs
  have hy := valid_dg z2.natAbs
  have k1 : (dg z1.natAbs).length = 0 ↔ z1 = 0 := by rw [dg_len0]; omega
  have k2 : (dg z2.natAbs).length = 0 ↔ z2 = 0 := by rw [dg_len0]; omega
  have v1 : val (dg z1.natAbs) * 2 ^ (max (e1 - e) 0).toNat = (x.natAbs : Nat) := by rw [val_dg, ← u1, Int.natCast_mul, Int.natCast_pow]; rfl
  have v2 : val (dg z2.natAbs) * 2 ^ (max (e2 - e) 0).toNat = (y.natAbs : Nat) := by rw [val_dg, ← u2, Int.natCast_mul, Int.natCast_pow]; rfl
  clear hI u1 u2
  obtain ⟨rfl, hG⟩ := C
  refine FS_ofT (args := fun A => [.agg [B s, .lst p, I e1], .agg [B t, .lst q, I e2]]) (R := fun A rr => rr = .tup [.lst p', .lst q', I e]) Tryz.hT Tryz.mix Tryz.func160 rfl rfl (Nat.le_of_ble_eq_true rfl) ?_
  generalize hP : Tryz.prog = P
  intro A hA
  have C : Tryz.Cx P gl := ⟨hP.symm, hG⟩
  have hI : intsL = A.ints := by subst hA; rfl
  iterate 2 (all_goals try cbv; all_goals repeat' (first | with_reducible exact True.intro | with_reducible refine And.intro ?_ ?_ | intro _))
  all_goals try exact oH
  iterate 2 (all_goals try cbv; all_goals repeat' (first | with_reducible exact True.intro | with_reducible refine And.intro ?_ ?_ | intro _))
  all_goals try exact oH
  · rename_i g1 g2
    have hw : e1 = e := (d1 (k2.1 (len_t hA hq g2))).symm
    refine ⟨_, up_fs C hp hx (max_sub hA hw h1 b3) v1 hp' (by omega) (by omega) (by omega), ?_⟩
    iterate 2 (all_goals try cbv; all_goals repeat' (first | with_reducible exact True.intro | with_reducible refine And.intro ?_ ?_ | intro _))
    all_goals try exact oH
    refine ⟨_, up_fs C hq hy (max_sub hA hw h2 b3) v2 hq' (by omega) (by omega) (by omega), ?_⟩
    iterate 2 (all_goals try cbv; all_goals repeat' (first | with_reducible exact True.intro | with_reducible refine And.intro ?_ ?_ | intro _))
    all_goals try exact oH
    simp only [hw]
  · rename_i g1 g2
    have hw : e2 = e := (d2 (fun h => len_f hA hq g2 (k2.2 h)) (k1.1 (len_t hA hp g1))).symm
    refine ⟨_, up_fs C hp hx (max_sub hA hw h1 b3) v1 hp' (by omega) (by omega) (by omega), ?_⟩
    iterate 2 (all_goals try cbv; all_goals repeat' (first | with_reducible exact True.intro | with_reducible refine And.intro ?_ ?_ | intro _))
    all_goals try exact oH
    refine ⟨_, up_fs C hq hy (max_sub hA hw h2 b3) v2 hq' (by omega) (by omega) (by omega), ?_⟩
    iterate 2 (all_goals try cbv; all_goals repeat' (first | with_reducible exact True.intro | with_reducible refine And.intro ?_ ?_ | intro _))
    all_goals try exact oH
    simp only [hw]
  · rename_i g1 g2
    have hw : e1 = e := (d1 (k2.1 (len_t hA hq g2))).symm
    refine ⟨_, up_fs C hp hx (max_sub hA hw h1 b3) v1 hp' (by omega) (by omega) (by omega), ?_⟩
    iterate 2 (all_goals try cbv; all_goals repeat' (first | with_reducible exact True.intro | with_reducible refine And.intro ?_ ?_ | intro _))
    all_goals try exact oH
    refine ⟨_, up_fs C hq hy (max_sub hA hw h2 b3) v2 hq' (by omega) (by omega) (by omega), ?_⟩
    iterate 2 (all_goals try cbv; all_goals repeat' (first | with_reducible exact True.intro | with_reducible refine And.intro ?_ ?_ | intro _))
    all_goals try exact oH
    simp only [hw]
  · rename_i g1 g2
    have hw : A.min e1 e2 = e := by rw [d3 (fun h => len_f hA hq g2 (k2.2 h)) (fun h => len_f hA hp g1 (k1.2 h))]; subst hA; exact min_std2 _ _
    refine ⟨_, up_fs C hp hx (max_sub hA hw h1 b3) v1 hp' (by omega) (by omega) (by omega), ?_⟩
    iterate 2 (all_goals try cbv; all_goals repeat' (first | with_reducible exact True.intro | with_reducible refine And.intro ?_ ?_ | intro _))
    all_goals try exact oH
    refine ⟨_, up_fs C hq hy (max_sub hA hw h2 b3) v2 hq' (by omega) (by omega) (by omega), ?_⟩
    iterate 2 (all_goals try cbv; all_goals repeat' (first | with_reducible exact True.intro | with_reducible refine And.intro ?_ ?_ | intro _))
    all_goals try exact oH
    simp only [hw]

end Tryz
end Go.Proofs
