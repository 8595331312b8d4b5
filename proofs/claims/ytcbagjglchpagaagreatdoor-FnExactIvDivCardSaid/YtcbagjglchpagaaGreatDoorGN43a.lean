/- Contracts: quotients of intervals, in the reference. -/
import Derived.Test.YtcbagjglchpagaaGreatDoorGN35
import Derived.Test.YtcbagjglchpagaaGreatDoorGN10
import Derived.Test.YtcbagjglchpagaaGreatDoorGPeTk
namespace Go.Proofs
open Go Go.Pe Go.Dg
namespace Tryz
set_option linter.unusedSimpArgs false
set_option linter.unusedVariables false
variable {P : Program} {gl : List (Nat × Obj)}

set_option maxHeartbeats 1000000 in
set_option maxRecDepth 100000 in
theorem l7sign_fs (C : Cx P gl) {a1 a2 : Dyadic} {s t : Bool} {e f c : Int} {p q : List PV} (hs : s = decide (cZ a1 < 0)) (hp : p = intsL (dg (cZ a1).natAbs)) (ht : t = decide (cZ a2 < 0)) (hq : q = intsL (dg (cZ a2).natAbs))
    (hc : c = if 0 < cZ a1 then 1 else if cZ a2 < 0 then -1 else 0) :
    FS P gl 57 [.agg [B s, .lst p, I e, B t, .lst q, I f]] (· = I c) := by
  obtain ⟨x1, hx1⟩ : ∃ b, b = decide (0 < p.length) := ⟨_, rfl⟩
  obtain ⟨x2, hx2⟩ : ∃ b, b = decide (0 < q.length) := ⟨_, rfl⟩
  have hz : ∀ z : Int, 0 < (intsL (dg z.natAbs)).length ↔ z ≠ 0 := by
    intro z
    rw [ints_len, Nat.pos_iff_ne_zero, ne_eq, dg_len0]
    omega
  have h1 : (x1 && !s) = decide (0 < cZ a1) := by
    rw [hx1, hs, hp, Bool.eq_iff_iff, Bool.and_eq_true, decide_eq_true_eq, hz, decide_eq_true_eq, Bool.not_eq_true', decide_eq_false_iff_not]
    omega
  have h2 : (x2 && t) = decide (cZ a2 < 0) := by
    rw [hx2, ht, hq, Bool.eq_iff_iff, Bool.and_eq_true, decide_eq_true_eq, hz, decide_eq_true_eq]
    omega
  obtain ⟨y1, hy1⟩ : ∃ b, b = decide (0 < cZ a1) := ⟨_, rfl⟩
  obtain ⟨y2, hy2⟩ : ∃ b, b = decide (cZ a2 < 0) := ⟨_, rfl⟩
  have k1 : y1 = true → c = 1 := fun h => by rw [hc, if_pos (of_decide_eq_true (by rw [← hy1]; exact h))]
  have k2 : y1 = false → y2 = true → c = -1 := fun h h' => by rw [hc, if_neg (of_decide_eq_false (by rw [← hy1]; exact h)), if_pos (of_decide_eq_true (by rw [← hy2]; exact h'))]
  have k3 : y1 = false → y2 = false → c = 0 := fun h h' => by rw [hc, if_neg (of_decide_eq_false (by rw [← hy1]; exact h)), if_neg (of_decide_eq_false (by rw [← hy2]; exact h'))]
  rw [← hy1] at h1
  rw [← hy2] at h2
  clear hs hp ht hq hz hc hy1 hy2
  obtain ⟨rfl, hG⟩ := C
  refine FS_ofT (args := fun A => [.agg [B s, .lst p, I e, B t, .lst q, I f]]) (R := fun A rr => rr = I c) Tryz.hT Tryz.mix Tryz.func57 rfl rfl (Nat.le_of_ble_eq_true rfl) ?_
  generalize hP : Tryz.prog = P
  intro A hA
  have C : Tryz.Cx P gl := ⟨hP.symm, hG⟩
  have hI : intsL = A.ints := by subst hA; rfl
  have f3 : A.pick (A.lt 0 (A.cast (A.len p))) (A.bnot s) false = y1 := by
    have f1 : A.lt 0 (A.cast (A.len p)) = x1 := by
      rw [hx1]; subst hA; show decide ((0 : Int) < ((p.length : Nat) : Int)) = _; rw [decide_eq_decide]; omega
    rw [f1, ← h1]; subst hA; cases x1 <;> cases s <;> rfl
  have f4 : A.pick (A.lt 0 (A.cast (A.len q))) t false = y2 := by
    have f2 : A.lt 0 (A.cast (A.len q)) = x2 := by
      rw [hx2]; subst hA; show decide ((0 : Int) < ((q.length : Nat) : Int)) = _; rw [decide_eq_decide]; omega
    rw [f2, ← h2]; subst hA; cases x2 <;> cases t <;> rfl
  clear hx1 hx2 h1 h2
  iterate 2 (all_goals try cbv; all_goals repeat' (first | with_reducible exact True.intro | with_reducible refine And.intro ?_ ?_ | intro _))
  all_goals try exact oG
  all_goals try simp only [f3, f4] at *
  iterate 2 (all_goals try cbv; all_goals repeat' (first | with_reducible exact True.intro | with_reducible refine And.intro ?_ ?_ | intro _))
  all_goals try exact oG
  all_goals try simp only [f3, f4] at *
  iterate 2 (all_goals try cbv; all_goals repeat' (first | with_reducible exact True.intro | with_reducible refine And.intro ?_ ?_ | intro _))
  all_goals try exact oG
  all_goals first | rw [k1 (by assumption)] | rw [k2 (by assumption) (by assumption)] | rw [k3 (by assumption) (by assumption)] | skip

theorem sign_zero {a1 a2 : Dyadic} {c : Int} (hc : c = if 0 < cZ a1 then 1 else if cZ a2 < 0 then -1 else 0) : c = 0 ↔ a1 ≤ 0 ∧ 0 ≤ a2 := by
  rw [le0_iff, ge0_iff, hc]
  split
  · omega
  · split <;> omega

theorem noZero {a1 a2 : Dyadic} (h : a1 ≤ a2) (h0 : ¬(a1 ≤ 0 ∧ 0 ≤ a2)) : a1 ≠ 0 ∧ a2 ≠ 0 := by
  refine ⟨fun e => h0 ?_, fun e => h0 ?_⟩
  · rw [e] at h ⊢; exact ⟨Dyadic.le_refl _, h⟩
  · rw [e] at h ⊢; exact ⟨h, Dyadic.le_refl _⟩

set_option maxHeartbeats 1000000 in
set_option maxRecDepth 100000 in
theorem l7less_fs (C : Cx P gl) {z1 z2 e f c g : Int} {p q r : List PV} {s t u : Bool} (hp : p = intsL (dg z1.natAbs)) (hs : s = decide (z1 < 0)) (hq : q = intsL (dg z2.natAbs)) (ht : t = decide (z2 < 0)) (hc : c = cmpD (mk z1 e) (mk z2 f))
    (h1 : c ≤ 0 → u = s ∧ r = p ∧ g = e) (h2 : ¬(c ≤ 0) → u = t ∧ r = q ∧ g = f) (b1 : e.natAbs ≤ 100000) (b2 : f.natAbs ≤ 100000) (l1 : (dg z1.natAbs).length ≤ 1000000) (l2 : (dg z2.natAbs).length ≤ 1000000) :
    FS P gl 109 [.agg [B s, .lst p, I e], .agg [B t, .lst q, I f]] (· = .agg [B u, .lst r, I g]) := by
  have h := fun (P' : Program) (C' : Cx P' gl) => l4cmp_fs C' hp hs hq ht hc b1 b2 l1 l2
  clear hp hs hq ht hc
  obtain ⟨rfl, hG⟩ := C
  refine FS_ofT (args := fun A => [.agg [B s, .lst p, I e], .agg [B t, .lst q, I f]]) (R := fun A rr => rr = .agg [B u, .lst r, I g]) Tryz.hT Tryz.mix Tryz.func109 rfl rfl (Nat.le_of_ble_eq_true rfl) ?_
  generalize hP : Tryz.prog = P
  intro A hA
  have C : Tryz.Cx P gl := ⟨hP.symm, hG⟩
  have hI : intsL = A.ints := by subst hA; rfl
  iterate 2 (all_goals try cbv; all_goals repeat' (first | with_reducible exact True.intro | with_reducible refine And.intro ?_ ?_ | intro _))
  all_goals try exact oG
  refine callS hA rfl (h P C) ?_; rintro _ rfl
  iterate 2 (all_goals try cbv; all_goals repeat' (first | with_reducible exact True.intro | with_reducible refine And.intro ?_ ?_ | intro _))
  all_goals try exact oG
  · rename_i gg
    obtain ⟨rfl, rfl, rfl⟩ := h1 (by clear h1 h2 h; (subst hA; subst_vars; simp only [AR.std, natCast_eq, sG, reduceCtorEq] at *; try simp (disch := omega) only [AR.std, natCast_eq, sG, reduceCtorEq] at *); omega)
    iterate 2 (all_goals try cbv; all_goals repeat' (first | with_reducible exact True.intro | with_reducible refine And.intro ?_ ?_ | intro _))
    all_goals try exact oG
  · rename_i gg
    obtain ⟨rfl, rfl, rfl⟩ := h2 (by clear h1 h2 h; (subst hA; subst_vars; simp only [AR.std, natCast_eq, sG, reduceCtorEq] at *; try simp (disch := omega) only [AR.std, natCast_eq, sG, reduceCtorEq] at *); omega)
    iterate 2 (all_goals try cbv; all_goals repeat' (first | with_reducible exact True.intro | with_reducible refine And.intro ?_ ?_ | intro _))
    all_goals try exact oG

set_option maxHeartbeats 1000000 in
set_option maxRecDepth 100000 in
theorem l7more_fs (C : Cx P gl) {z1 z2 e f c g : Int} {p q r : List PV} {s t u : Bool} (hp : p = intsL (dg z1.natAbs)) (hs : s = decide (z1 < 0)) (hq : q = intsL (dg z2.natAbs)) (ht : t = decide (z2 < 0)) (hc : c = cmpD (mk z1 e) (mk z2 f))
    (h1 : 0 ≤ c → u = s ∧ r = p ∧ g = e) (h2 : ¬(0 ≤ c) → u = t ∧ r = q ∧ g = f) (b1 : e.natAbs ≤ 100000) (b2 : f.natAbs ≤ 100000) (l1 : (dg z1.natAbs).length ≤ 1000000) (l2 : (dg z2.natAbs).length ≤ 1000000) :
    FS P gl 110 [.agg [B s, .lst p, I e], .agg [B t, .lst q, I f]] (· = .agg [B u, .lst r, I g]) := by
  have h := fun (P' : Program) (C' : Cx P' gl) => l4cmp_fs C' hp hs hq ht hc b1 b2 l1 l2
  clear hp hs hq ht hc
  obtain ⟨rfl, hG⟩ := C
  refine FS_ofT (args := fun A => [.agg [B s, .lst p, I e], .agg [B t, .lst q, I f]]) (R := fun A rr => rr = .agg [B u, .lst r, I g]) Tryz.hT Tryz.mix Tryz.func110 rfl rfl (Nat.le_of_ble_eq_true rfl) ?_
  generalize hP : Tryz.prog = P
  intro A hA
  have C : Tryz.Cx P gl := ⟨hP.symm, hG⟩
  have hI : intsL = A.ints := by subst hA; rfl
  iterate 2 (all_goals try cbv; all_goals repeat' (first | with_reducible exact True.intro | with_reducible refine And.intro ?_ ?_ | intro _))
  all_goals try exact oG
  refine callS hA rfl (h P C) ?_; rintro _ rfl
  iterate 2 (all_goals try cbv; all_goals repeat' (first | with_reducible exact True.intro | with_reducible refine And.intro ?_ ?_ | intro _))
  all_goals try exact oG
  · rename_i gg
    obtain ⟨rfl, rfl, rfl⟩ := h1 (by clear h1 h2 h; (subst hA; subst_vars; simp only [AR.std, natCast_eq, sG, reduceCtorEq] at *; try simp (disch := omega) only [AR.std, natCast_eq, sG, reduceCtorEq] at *); omega)
    iterate 2 (all_goals try cbv; all_goals repeat' (first | with_reducible exact True.intro | with_reducible refine And.intro ?_ ?_ | intro _))
    all_goals try exact oG
  · rename_i gg
    obtain ⟨rfl, rfl, rfl⟩ := h2 (by clear h1 h2 h; (subst hA; subst_vars; simp only [AR.std, natCast_eq, sG, reduceCtorEq] at *; try simp (disch := omega) only [AR.std, natCast_eq, sG, reduceCtorEq] at *); omega)
    iterate 2 (all_goals try cbv; all_goals repeat' (first | with_reducible exact True.intro | with_reducible refine And.intro ?_ ?_ | intro _))
    all_goals try exact oG

end Tryz
end Go.Proofs
