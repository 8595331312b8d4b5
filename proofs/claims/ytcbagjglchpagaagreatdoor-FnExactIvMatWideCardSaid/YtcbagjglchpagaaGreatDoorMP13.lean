/- Contracts: midpoints and widths of lists of intervals. -/
import Derived.Test.YtcbagjglchpagaaGreatDoorMM5
import Derived.Test.YtcbagjglchpagaaGreatDoorMN18
import Derived.Test.YtcbagjglchpagaaGreatDoorMM10
namespace Go.Proofs
open Go Go.Pe Go.Dg
namespace Tryz
set_option linter.unusedSimpArgs false
set_option linter.unusedVariables false
variable {P : Program} {gl : List (Nat × Obj)}

set_option maxHeartbeats 2000000 in
set_option maxRecDepth 100000 in
theorem shiftedV_fs (C : Cx P gl) {e k g : Int} {p : List PV} {s : Bool} (hg : g = e + k) (h1 : e.natAbs ≤ 1000000) (h2 : k.natAbs ≤ 1000000) : FS P gl 146 [.agg [B s, .lst p, I e], I k] (· = .agg [B s, .lst p, I g]) := by
  obtain ⟨rfl, hG⟩ := C
  refine FS_ofT (args := fun A => [.agg [B s, .lst p, I e], I k]) (R := fun A rr => rr = .agg [B s, .lst p, I g]) Tryz.hT Tryz.mix Tryz.func146 rfl rfl (Nat.le_of_ble_eq_true rfl) ?_
  generalize hP : Tryz.prog = P
  intro A hA
  have C : Tryz.Cx P gl := ⟨hP.symm, hG⟩
  have hI : intsL = A.ints := by subst hA; rfl
  have hs : A.add .i64 e k = g := by rw [hg]; subst hA; exact wrapi (by omega) (by omega)
  iterate 2 (all_goals try cbv; all_goals repeat' (first | with_reducible exact True.intro | with_reducible refine And.intro ?_ ?_ | intro _))
  all_goals try exact oI
  all_goals simp only [hs]

/-- midpoints and widths of intervals in form -/
theorem xMid {a b : Dyadic} {L E : Nat} {y z : Cell3} (h1 : X a L E y) (h2 : X b L E z) (hL : L ≤ 1000000) (hE : E ≤ 100000) : ∃ t w : Cell3, X (halfD (a + b)) (L + E + 2) (E + 1) w ∧
    (∀ (P : Program) (gl : List (Nat × Obj)), Cx P gl → FS P gl 128 [cell3 y, cell3 z] (· = cell3 t)) ∧ (∀ (P : Program) (gl : List (Nat × Obj)), Cx P gl → FS P gl 146 [cell3 t, I (-1)] (· = cell3 w)) := by
  obtain ⟨z1, a1, a2, a3, a4, a5⟩ := h1
  obtain ⟨z2, b1, b2, b3, b4, b5⟩ := h2
  obtain ⟨w, f, hd⟩ := sumD_ex z1 y.2.2 z2 z.2.2
  have hlen : (dg w.natAbs).length ≤ L + E + 2 ∧ f.natAbs ≤ E := by
    obtain ⟨x, y, ha, rfl⟩ := id hd
    obtain ⟨c2, c1, c3⟩ := align_len ha b4 a4 b5 a5
    exact ⟨by have := Go.Pe.dg_len_add c1 c2; omega, c3⟩
  refine ⟨(decide (w < 0), dg w.natAbs, f), (decide (w < 0), dg w.natAbs, f - 1), ⟨w, rfl, rfl, ?_, hlen.1, ?_⟩, ?_, ?_⟩
  · rw [← halfD_mk, sumD_mk hd, a3, b3]
  · show (f - 1).natAbs ≤ _; omega
  · intro P gl C
    exact exactPlus_fs C (by rw [a2]) a1 (by rw [b2]) b1 hd rfl rfl (by omega) (by omega) (by omega) (by omega)
  · intro P gl C
    exact shiftedV_fs C (by show f - 1 = f + -1; omega) (by show f.natAbs ≤ _; omega) (by decide)

theorem xWide {a b : Dyadic} {L E : Nat} {y z : Cell3} (h1 : X a L E y) (h2 : X b L E z) (hL : L ≤ 1000000) (hE : E ≤ 100000) : ∃ w : Cell3, X (b - a) (L + E + 2) E w ∧
    (∀ (P : Program) (gl : List (Nat × Obj)), Cx P gl → FS P gl 78 [cell6 (y, z)] (· = cell3 w)) := by
  obtain ⟨z1, a1, a2, a3, a4, a5⟩ := h1
  obtain ⟨z2, b1, b2, b3, b4, b5⟩ := h2
  obtain ⟨w, f, hd⟩ := sumD_ex z2 z.2.2 (-z1) y.2.2
  have hlen : (dg w.natAbs).length ≤ L + E + 2 ∧ f.natAbs ≤ E := by
    obtain ⟨x, y, ha, rfl⟩ := id hd
    obtain ⟨c2, c1, c3⟩ := align_len ha (by rw [Int.natAbs_neg]; exact a4) b4 a5 b5
    exact ⟨by have := Go.Pe.dg_len_add c1 c2; omega, c3⟩
  refine ⟨(decide (w < 0), dg w.natAbs, f), ⟨w, rfl, rfl, ?_, hlen.1, hlen.2⟩, ?_⟩
  · rw [sumD_mk hd, a3, b3, ← mk_neg]; exact sub_eqV _ _
  · intro P gl C
    exact wide_fs C (by rw [a2]) a1 (by rw [b2]) b1 hd rfl rfl (by show y.2.2.natAbs ≤ _; omega) (by show z.2.2.natAbs ≤ _; omega) (by omega) (by omega)

set_option maxHeartbeats 2000000 in
set_option maxRecDepth 100000 in
theorem fieldMid_fs (C : Cx P gl) {vs : List Cell6} {p r : List PV} {n : Int} {T Y : Nat → Cell3} (hp : p = cells6 vs) (hr : r = cells3 (listY Y vs.length)) (hl : vs.length ≤ 10000)
    (hY : ∀ k, k < vs.length → (∀ P', Cx P' gl → FS P' gl 128 [cell3 (vs.getD k noV).1, cell3 (vs.getD k noV).2] (· = cell3 (T k))) ∧ (∀ P', Cx P' gl → FS P' gl 146 [cell3 (T k), I (-1)] (· = cell3 (Y k)))) :
    FS P gl 92 [.agg [I n, .lst p]] (· = .agg [I n, .lst r]) := by
  obtain ⟨rfl, hG⟩ := C
  refine FS_ofT (args := fun A => [.agg [I n, .lst p]]) (R := fun A rr => rr = .agg [I n, .lst r]) Tryz.hT Tryz.mix Tryz.func92 rfl rfl (Nat.le_of_ble_eq_true rfl) ?_
  generalize hP : Tryz.prog = P
  intro A hA
  have C : Tryz.Cx P gl := ⟨hP.symm, hG⟩
  have hI : intsL = A.ints := by subst hA; rfl
  iterate 2 (all_goals try cbv; all_goals repeat' (first | with_reducible exact True.intro | with_reducible refine And.intro ?_ ?_ | intro _))
  all_goals try exact oI
  refine loopI hA [.cell 2 1 81 3] (ι := Int × List PV) (fun x => [(12, .pv (I x.1))]) (fun x => [(3, .row 81 3 x.2)]) (fun x => (vs.length - x.1).toNat) (fun x => 0 ≤ x.1 ∧ x.1 ≤ vs.length ∧ x.2 = cells3 (listY Y x.1.toNat)) (0, []) (by rfl) ?_ ?_ ?_
  all_goals try exact tI
  · exact ⟨Int.le_refl _, by omega, rfl⟩
  rintro ⟨i, q0⟩ ⟨hi0, hi1, hq0⟩
  simp only at hi0 hi1 hq0
  have hql : q0.length ≤ 1000000 := by rw [hq0, c3len, listY_len]; omega
  obtain ⟨v, hv⟩ : ∃ v, v = vs.getD i.toNat noV := ⟨_, rfl⟩
  obtain ⟨s1, hs1⟩ : ∃ x, x = v.1.1 := ⟨_, rfl⟩
  obtain ⟨p1, hp1⟩ : ∃ x, x = intsL v.1.2.1 := ⟨_, rfl⟩
  obtain ⟨e1, he1⟩ : ∃ x, x = v.1.2.2 := ⟨_, rfl⟩
  obtain ⟨s2, hs2⟩ : ∃ x, x = v.2.1 := ⟨_, rfl⟩
  obtain ⟨p2, hp2⟩ : ∃ x, x = intsL v.2.2.1 := ⟨_, rfl⟩
  obtain ⟨e2, he2⟩ : ∃ x, x = v.2.2.2 := ⟨_, rfl⟩
  have hel : ∀ _ : Unit, i < vs.length → (A.gb (A.el p (A.nat i)) 0 = s1 ∧ A.gl (A.el p (A.nat i)) 1 = p1 ∧ A.gi (A.el p (A.nat i)) 2 = e1) ∧ A.gb (A.el p (A.nat i)) 3 = s2 ∧ A.gl (A.el p (A.nat i)) 4 = p2 ∧ A.gi (A.el p (A.nat i)) 5 = e2 := by
    intro _ h4
    have w : A.el p (A.nat i) = cell6 v := by rw [hv, hp]; subst hA; exact c6el (show i.toNat < vs.length by omega)
    rw [w, hs1, hp1, he1, hs2, hp2, he2]
    subst hA
    exact ⟨⟨rfl, rfl, rfl⟩, rfl, rfl, rfl⟩
  obtain ⟨y, hy⟩ : ∃ y, y = Y i.toNat := ⟨_, rfl⟩
  obtain ⟨u1, hu1⟩ : ∃ x, x = y.1 := ⟨_, rfl⟩
  obtain ⟨x1, hx1⟩ : ∃ x, x = intsL y.2.1 := ⟨_, rfl⟩
  obtain ⟨g1, hg1⟩ : ∃ x, x = y.2.2 := ⟨_, rfl⟩
  have hlt : ∀ _ : Unit, A.lt i (A.cast (A.len p)) = true → i < vs.length := by
    intro _ h; subst hA; rw [hp] at h; have := of_decide_eq_true (show decide (i < (((cells6 vs).length : Nat) : Int)) = true from h); rw [c6len] at this; exact this
  have hge : ∀ _ : Unit, A.lt i (A.cast (A.len p)) = false → i.toNat = vs.length := by
    intro _ h; subst hA; rw [hp] at h; have := of_decide_eq_false (show decide (i < (((cells6 vs).length : Nat) : Int)) = false from h); rw [c6len] at this; omega
  have hcall : ∀ _ : Unit, i < vs.length → ((∀ P', Cx P' gl → FS P' gl 128 [.agg [B s1, .lst p1, I e1], .agg [B s2, .lst p2, I e2]] (· = .agg [B (T i.toNat).1, .lst (intsL (T i.toNat).2.1), I (T i.toNat).2.2])) ∧ (∀ P', Cx P' gl → FS P' gl 146 [.agg [B (T i.toNat).1, .lst (intsL (T i.toNat).2.1), I (T i.toNat).2.2], I (-1)] (· = .agg [B u1, .lst x1, I g1]))) ∧ q0 ++ [.agg [B u1, .lst x1, I g1]] = cells3 (listY Y (i + 1).toNat) ∧ i.toNat < vs.length ∧ i + 1 ≤ vs.length := by
    intro _ h4
    refine ⟨?_, ?_, by omega, by omega⟩
    · obtain ⟨h1, h2⟩ := hY i.toNat (by omega)
      rw [← hv] at h1
      rw [← hy] at h2
      rw [hs1, hp1, he1, hs2, hp2, he2, hu1, hx1, hg1]; exact ⟨h1, h2⟩
    · rw [show (i + 1).toNat = i.toNat + 1 by omega, listY_succ, ← c3app, ← hq0, ← hy, hu1, hx1, hg1]; rfl
  have hdone : i.toNat = vs.length → q0 = r := fun h => by rw [hq0, hr, h]
  clear hY hs1 hp1 he1 hs2 hp2 he2 hu1 hx1 hg1 hv hy hq0 hr
  iterate 2 (all_goals try cbv; all_goals repeat' (first | with_reducible exact True.intro | with_reducible refine And.intro ?_ ?_ | intro _))
  all_goals try exact oI
  · rename_i g
    have gi := hlt () g
    obtain ⟨⟨w1, w2, w3⟩, w4, w5, w6⟩ := hel () gi
    obtain ⟨⟨o1, o5⟩, o2, o3, o4⟩ := hcall () gi
    obtain ⟨c1, hc1⟩ : ∃ x, x = (T i.toNat).1 := ⟨_, rfl⟩
    obtain ⟨c2, hc2⟩ : ∃ x, x = intsL (T i.toNat).2.1 := ⟨_, rfl⟩
    obtain ⟨c3, hc3⟩ : ∃ x, x = (T i.toNat).2.2 := ⟨_, rfl⟩
    rw [← hc1, ← hc2, ← hc3] at o1 o5
    clear hc1 hc2 hc3
    obtain ⟨r', hr'⟩ : ∃ r', r' = q0 ++ [.agg [B u1, .lst x1, I g1]] := ⟨_, rfl⟩
    have hra : A.app q0 [.agg [B u1, .lst x1, I g1]] = r' := by rw [hr']; subst hA; rfl
    rw [← hr'] at o2
    clear hlt hge hel hcall hdone hr'
    all_goals try simp only [w1, w2, w3, w4, w5, w6]
    iterate 2 (all_goals try cbv; all_goals repeat' (first | with_reducible exact True.intro | with_reducible refine And.intro ?_ ?_ | intro _))
    all_goals try exact oI
    all_goals try simp only [w1, w2, w3, w4, w5, w6]
    first | (refine callS hA rfl (o1 P C) ?_; rintro _ rfl) | refine ⟨_, o1 P C, ?_⟩
    iterate 2 (all_goals try cbv; all_goals repeat' (first | with_reducible exact True.intro | with_reducible refine And.intro ?_ ?_ | intro _))
    all_goals try exact oI
    all_goals try simp only [w1, w2, w3, w4, w5, w6]
    first | (refine callS hA rfl (o5 P C) ?_; rintro _ rfl) | refine ⟨_, o5 P C, ?_⟩
    iterate 2 (all_goals try cbv; all_goals repeat' (first | with_reducible exact True.intro | with_reducible refine And.intro ?_ ?_ | intro _))
    all_goals try exact oI
    all_goals try simp only [w1, w2, w3, w4, w5, w6]
    all_goals try exact okA_of hA (by intro x hx; rw [List.mem_singleton.1 hx]; exact ⟨rfl, rfl⟩)
    all_goals try exact cap_of hA (by simp only [List.length_singleton]; omega)
    simp only [hra]
    clear hra w1 w2 w3 w4 w5 w6 o1 o5
    obtain ⟨y1, hy1⟩ : ∃ y, y = i + 1 := ⟨_, rfl⟩
    obtain ⟨y2, hy2⟩ : ∃ y, y = r' := ⟨_, rfl⟩
    refine ⟨⟨(y1, y2), ?_⟩, ?_, ?_⟩
    rotate_left
    · cbv
      exact nI
    · (subst hA; subst_vars; simp only [AR.std, natCast_eq, sI, reduceCtorEq] at *; try simp (disch := omega) only [AR.std, natCast_eq, sI, reduceCtorEq] at *); omega
    · rw [hy1, hy2]
      exact ⟨by simp only; omega, o4, o2⟩
  · rename_i g
    have e := hdone (hge () g)
    simp only [e]
set_option maxHeartbeats 2000000 in
set_option maxRecDepth 100000 in
theorem l10mid_fs (C : Cx P gl) {vs : List Cell6} {p r : List PV} {n : Int} {T Y : Nat → Cell3} (hp : p = cells6 vs) (hr : r = cells3 (listY Y vs.length)) (hn : 0 ≤ n) (hn4 : n ≤ 100) (hvl : (vs.length : Int) = n * n)
    (hY : ∀ k, k < vs.length → (∀ P', Cx P' gl → FS P' gl 124 [cell3 (vs.getD k noV).1, cell3 (vs.getD k noV).2] (· = cell3 (T k))) ∧ (Y k).1 = (T k).1 ∧ (Y k).2.1 = (T k).2.1 ∧ ((T k).2.1.length = 0 → (Y k).2.2 = (T k).2.2) ∧ ((T k).2.1.length ≠ 0 → (Y k).2.2 = (T k).2.2 - 1) ∧ (T k).2.2.natAbs ≤ 100000) :
    FS P gl 91 [.agg [I n, .lst p]] (· = .agg [I n, .lst r]) := by
  have hnn : 0 ≤ n * n ∧ n * n ≤ 10000 := by
    have h3 : n * n ≤ 100 * n := Int.mul_le_mul_of_nonneg_right hn4 hn
    have h4 := Int.mul_nonneg hn hn
    omega
  have hvl2 : vs.length ≤ 10000 := by omega
  obtain ⟨u0, hu0⟩ : ∃ u, u = cells3 (List.replicate vs.length noY) := ⟨_, rfl⟩
  have hnew := fun (P' : Program) (C' : Cx P' gl) => l8new_fn C' (n := n) (u := u0) hn hn4 (by rw [hu0, show vs.length = (n * n).toNat by omega])
  clear hnn
  obtain ⟨rfl, hG⟩ := C
  refine FS_ofT (args := fun A => [.agg [I n, .lst p]]) (R := fun A rr => rr = .agg [I n, .lst r]) Tryz.hT Tryz.mix Tryz.func91 rfl rfl (Nat.le_of_ble_eq_true rfl) ?_
  generalize hP : Tryz.prog = P
  intro A hA
  have C : Tryz.Cx P gl := ⟨hP.symm, hG⟩
  have hI : intsL = A.ints := by subst hA; rfl
  iterate 2 (all_goals try cbv; all_goals repeat' (first | with_reducible exact True.intro | with_reducible refine And.intro ?_ ?_ | intro _))
  all_goals try exact oI
  refine callN hA rfl (hnew P C) ?_; rintro _ _ ⟨rfl, rfl⟩; refine ⟨rfl, ?_⟩
  clear hnew
  iterate 2 (all_goals try cbv; all_goals repeat' (first | with_reducible exact True.intro | with_reducible refine And.intro ?_ ?_ | intro _))
  all_goals try exact oI
  refine loopI hA [] (ι := Int × List PV) (fun x => [(4, .pv (I x.1))]) (fun x => [(2, .row 36 3 x.2)]) (fun x => (vs.length - x.1).toNat) (fun x => 0 ≤ x.1 ∧ x.1 ≤ vs.length ∧ x.2 = cells3 (listY Y x.1.toNat ++ List.replicate (vs.length - x.1.toNat) noY)) (0, u0) (by rfl) ?_ ?_ ?_
  all_goals try exact tI
  · exact ⟨Int.le_refl _, by omega, by rw [hu0]; rfl⟩
  rintro ⟨i, t0⟩ ⟨hi0, hi1, ht0⟩
  simp only at hi0 hi1 ht0
  have htl : t0.length = vs.length := by
    rw [ht0, c3len, List.length_append, listY_len, List.length_replicate]; omega
  obtain ⟨v, hv⟩ : ∃ v, v = vs.getD i.toNat noV := ⟨_, rfl⟩
  obtain ⟨s1, hs1⟩ : ∃ x, x = v.1.1 := ⟨_, rfl⟩
  obtain ⟨p1, hp1⟩ : ∃ x, x = intsL v.1.2.1 := ⟨_, rfl⟩
  obtain ⟨e1, he1⟩ : ∃ x, x = v.1.2.2 := ⟨_, rfl⟩
  obtain ⟨s2, hs2⟩ : ∃ x, x = v.2.1 := ⟨_, rfl⟩
  obtain ⟨p2, hp2⟩ : ∃ x, x = intsL v.2.2.1 := ⟨_, rfl⟩
  obtain ⟨e2, he2⟩ : ∃ x, x = v.2.2.2 := ⟨_, rfl⟩
  have hel : ∀ _ : Unit, i < vs.length → (A.gb (A.el p (A.nat i)) 0 = s1 ∧ A.gl (A.el p (A.nat i)) 1 = p1 ∧ A.gi (A.el p (A.nat i)) 2 = e1) ∧ A.gb (A.el p (A.nat i)) 3 = s2 ∧ A.gl (A.el p (A.nat i)) 4 = p2 ∧ A.gi (A.el p (A.nat i)) 5 = e2 := by
    intro _ h4
    have w : A.el p (A.nat i) = cell6 v := by rw [hv, hp]; subst hA; exact c6el (show i.toNat < vs.length by omega)
    rw [w, hs1, hp1, he1, hs2, hp2, he2]
    subst hA
    exact ⟨⟨rfl, rfl, rfl⟩, rfl, rfl, rfl⟩
  obtain ⟨y, hy⟩ : ∃ y, y = Y i.toNat := ⟨_, rfl⟩
  obtain ⟨u1, hu1⟩ : ∃ x, x = y.1 := ⟨_, rfl⟩
  obtain ⟨x1, hx1⟩ : ∃ x, x = intsL y.2.1 := ⟨_, rfl⟩
  obtain ⟨g1, hg1⟩ : ∃ x, x = y.2.2 := ⟨_, rfl⟩
  have hlt : ∀ _ : Unit, A.lt i (A.cast (A.len p)) = true → i < vs.length := by
    intro _ h; subst hA; rw [hp] at h; have := of_decide_eq_true (show decide (i < (((cells6 vs).length : Nat) : Int)) = true from h); rw [c6len] at this; exact this
  have hge : ∀ _ : Unit, A.lt i (A.cast (A.len p)) = false → i.toNat = vs.length := by
    intro _ h; subst hA; rw [hp] at h; have := of_decide_eq_false (show decide (i < (((cells6 vs).length : Nat) : Int)) = false from h); rw [c6len] at this; omega
  obtain ⟨c3, hc3⟩ : ∃ x, x = (T i.toNat).2.2 := ⟨_, rfl⟩
  have hcall : ∀ _ : Unit, i < vs.length → ((∀ P', Cx P' gl → FS P' gl 124 [.agg [B s1, .lst p1, I e1], .agg [B s2, .lst p2, I e2]] (· = .agg [B u1, .lst x1, I c3])) ∧ (x1.length = 0 → g1 = c3) ∧ (x1.length ≠ 0 → g1 = c3 - 1) ∧ c3.natAbs ≤ 100000) ∧ t0.set i.toNat (.agg [B u1, .lst x1, I g1]) = cells3 (listY Y (i + 1).toNat ++ List.replicate (vs.length - (i + 1).toNat) noY) ∧ i.toNat < vs.length ∧ i + 1 ≤ vs.length := by
    intro _ h4
    refine ⟨?_, ?_, by omega, by omega⟩
    · obtain ⟨h1, h2, h3, h4', h5, h6⟩ := hY i.toNat (by omega)
      rw [← hv] at h1
      rw [← hy] at h2 h3 h4' h5
      refine ⟨?_, ?_, ?_, ?_⟩
      · rw [hs1, hp1, he1, hs2, hp2, he2, hu1, hx1, hc3, h2, h3]; exact h1
      · intro h; rw [hg1, hc3]; exact h4' (by rw [hx1, ints_len, h3] at h; exact h)
      · intro h; rw [hg1, hc3]; exact h5 (by rw [hx1, ints_len, h3] at h; exact h)
      · rw [hc3]; exact h6
    · rw [show .agg [B u1, .lst x1, I g1] = cell3 (Y i.toNat) by rw [← hy, hu1, hx1, hg1]; rfl, ht0, c3set, show (i + 1).toNat = i.toNat + 1 by omega, listY_succ, List.append_assoc]
      congr 1
      rw [List.set_append_right _ _ (by rw [listY_len]; exact Nat.le_refl _), listY_len, Nat.sub_self, show vs.length - i.toNat = (vs.length - (i.toNat + 1)) + 1 by omega, List.replicate_succ]
      rfl
  have hdone : i.toNat = vs.length → t0 = r := fun h => by rw [ht0, hr, h, Nat.sub_self, List.replicate_zero, List.append_nil]
  clear hc3
  clear hY hs1 hp1 he1 hs2 hp2 he2 hu1 hx1 hg1 hv hy ht0 hr hu0
  iterate 2 (all_goals try cbv; all_goals repeat' (first | with_reducible exact True.intro | with_reducible refine And.intro ?_ ?_ | intro _))
  all_goals try exact oI
  · rename_i g
    have gi := hlt () g
    obtain ⟨⟨w1, w2, w3⟩, w4, w5, w6⟩ := hel () gi
    obtain ⟨⟨o1, o5, o6, o7⟩, o2, o3, o4⟩ := hcall () gi
    obtain ⟨t9, ht9⟩ : ∃ t9, t9 = t0.set i.toNat (.agg [B u1, .lst x1, I g1]) := ⟨_, rfl⟩
    have hst : A.set t0 (A.nat i) (.agg [B u1, .lst x1, I g1]) = t9 := by rw [ht9]; subst hA; rfl
    rw [← ht9] at o2
    clear hlt hge hel hcall hdone ht9
    all_goals try simp only [w1, w2, w3, w4, w5, w6, hst]
    iterate 2 (all_goals try cbv; all_goals repeat' (first | with_reducible exact True.intro | with_reducible refine And.intro ?_ ?_ | intro _))
    all_goals try exact oI
    all_goals try simp only [w1, w2, w3, w4, w5, w6, hst]
    first | (refine callS hA rfl (o1 P C) ?_; rintro _ rfl) | refine ⟨_, o1 P C, ?_⟩
    iterate 2 (all_goals try cbv; all_goals repeat' (first | with_reducible exact True.intro | with_reducible refine And.intro ?_ ?_ | intro _))
    all_goals try exact oI
    all_goals try simp only [w1, w2, w3, w4, w5, w6, hst]
    · rename_i g2
      have h0 : x1.length ≠ 0 := by clear o5 o6 o7 o2 hst; subst hA; have := of_decide_eq_true (show decide ((0 : Int) < ((x1.length : Nat) : Int)) = true from g2); omega
      have e1 := o6 h0
      have e2 : A.sub .i64 c3 1 = g1 := by rw [e1]; subst hA; exact wrapi (by omega) (by omega)
      clear o5 o6 o7 g2 h0 e1
      iterate 2 (all_goals try cbv; all_goals repeat' (first | with_reducible exact True.intro | with_reducible refine And.intro ?_ ?_ | intro _))
      all_goals try exact oI
      all_goals try simp only [e2]
      iterate 2 (all_goals try cbv; all_goals repeat' (first | with_reducible exact True.intro | with_reducible refine And.intro ?_ ?_ | intro _))
      all_goals try exact oI
      all_goals try simp only [e2, hst]
      clear hst w1 w2 w3 w4 w5 w6 o1 e2
      obtain ⟨y1, hy1⟩ : ∃ y, y = i + 1 := ⟨_, rfl⟩
      obtain ⟨y2, hy2⟩ : ∃ y, y = t9 := ⟨_, rfl⟩
      refine ⟨⟨(y1, y2), ?_⟩, ?_, ?_⟩
      rotate_left
      · cbv
        exact nI
      · (subst hA; subst_vars; simp only [AR.std, natCast_eq, sI, reduceCtorEq] at *; try simp (disch := omega) only [AR.std, natCast_eq, sI, reduceCtorEq] at *); omega
      · rw [hy1, hy2]
        exact ⟨by simp only; omega, o4, o2⟩
    · rename_i g2
      have h0 : x1.length = 0 := by clear o5 o6 o7 o2 hst; subst hA; have := of_decide_eq_false (show decide ((0 : Int) < ((x1.length : Nat) : Int)) = false from g2); omega
      have e1 := o5 h0
      clear o5 o6 o7 g2 h0
      rw [← e1]
      clear e1
      iterate 2 (all_goals try cbv; all_goals repeat' (first | with_reducible exact True.intro | with_reducible refine And.intro ?_ ?_ | intro _))
      all_goals try exact oI
      all_goals try simp only [hst]
      clear hst w1 w2 w3 w4 w5 w6 o1
      obtain ⟨y1, hy1⟩ : ∃ y, y = i + 1 := ⟨_, rfl⟩
      obtain ⟨y2, hy2⟩ : ∃ y, y = t9 := ⟨_, rfl⟩
      refine ⟨⟨(y1, y2), ?_⟩, ?_, ?_⟩
      rotate_left
      · cbv
        exact nI
      · (subst hA; subst_vars; simp only [AR.std, natCast_eq, sI, reduceCtorEq] at *; try simp (disch := omega) only [AR.std, natCast_eq, sI, reduceCtorEq] at *); omega
      · rw [hy1, hy2]
        exact ⟨by simp only; omega, o4, o2⟩
  · rename_i g
    have e := hdone (hge () g)
    rw [e]

set_option maxHeartbeats 2000000 in
set_option maxRecDepth 100000 in
theorem l10wide_fs (C : Cx P gl) {vs : List Cell6} {p r x : List PV} {n e0 : Int} {s0 : Bool} {T Y : Nat → Cell3} (hp : p = cells6 vs) (hr : r = cells3 (listY Y vs.length)) (hn : 0 ≤ n) (hn4 : n ≤ 100) (hvl : (vs.length : Int) = n * n)
    (hY : ∀ k, k < vs.length → (∀ P', Cx P' gl → FS P' gl 125 [cell3 (vs.getD k noV).1] (· = cell3 (T k))) ∧ (∀ P', Cx P' gl → FS P' gl 124 [cell3 (vs.getD k noV).2, cell3 (T k)] (· = cell3 (Y k))))
    (hnorm : ∀ P', Cx P' gl → FS P' gl 126 [.agg [I n, .lst r]] (· = .agg [B s0, .lst x, I e0])) :
    FS P gl 76 [.agg [I n, .lst p]] (· = .agg [B s0, .lst x, I e0]) := by
  have hnn : 0 ≤ n * n ∧ n * n ≤ 10000 := by
    have h3 : n * n ≤ 100 * n := Int.mul_le_mul_of_nonneg_right hn4 hn
    have h4 := Int.mul_nonneg hn hn
    omega
  have hvl2 : vs.length ≤ 10000 := by omega
  obtain ⟨u0, hu0⟩ : ∃ u, u = cells3 (List.replicate vs.length noY) := ⟨_, rfl⟩
  have hnew := fun (P' : Program) (C' : Cx P' gl) => l8new_fn C' (n := n) (u := u0) hn hn4 (by rw [hu0, show vs.length = (n * n).toNat by omega])
  clear hnn
  obtain ⟨rfl, hG⟩ := C
  refine FS_ofT (args := fun A => [.agg [I n, .lst p]]) (R := fun A rr => rr = .agg [B s0, .lst x, I e0]) Tryz.hT Tryz.mix Tryz.func76 rfl rfl (Nat.le_of_ble_eq_true rfl) ?_
  generalize hP : Tryz.prog = P
  intro A hA
  have C : Tryz.Cx P gl := ⟨hP.symm, hG⟩
  have hI : intsL = A.ints := by subst hA; rfl
  iterate 2 (all_goals try cbv; all_goals repeat' (first | with_reducible exact True.intro | with_reducible refine And.intro ?_ ?_ | intro _))
  all_goals try exact oI
  refine callN hA rfl (hnew P C) ?_; rintro _ _ ⟨rfl, rfl⟩; refine ⟨rfl, ?_⟩
  clear hnew
  iterate 2 (all_goals try cbv; all_goals repeat' (first | with_reducible exact True.intro | with_reducible refine And.intro ?_ ?_ | intro _))
  all_goals try exact oI
  refine loopI hA [] (ι := Int × List PV) (fun x => [(4, .pv (I x.1))]) (fun x => [(2, .row 36 3 x.2)]) (fun x => (vs.length - x.1).toNat) (fun x => 0 ≤ x.1 ∧ x.1 ≤ vs.length ∧ x.2 = cells3 (listY Y x.1.toNat ++ List.replicate (vs.length - x.1.toNat) noY)) (0, u0) (by rfl) ?_ ?_ ?_
  all_goals try exact tI
  · exact ⟨Int.le_refl _, by omega, by rw [hu0]; rfl⟩
  rintro ⟨i, t0⟩ ⟨hi0, hi1, ht0⟩
  simp only at hi0 hi1 ht0
  have htl : t0.length = vs.length := by
    rw [ht0, c3len, List.length_append, listY_len, List.length_replicate]; omega
  obtain ⟨v, hv⟩ : ∃ v, v = vs.getD i.toNat noV := ⟨_, rfl⟩
  obtain ⟨s1, hs1⟩ : ∃ x, x = v.1.1 := ⟨_, rfl⟩
  obtain ⟨p1, hp1⟩ : ∃ x, x = intsL v.1.2.1 := ⟨_, rfl⟩
  obtain ⟨e1, he1⟩ : ∃ x, x = v.1.2.2 := ⟨_, rfl⟩
  obtain ⟨s2, hs2⟩ : ∃ x, x = v.2.1 := ⟨_, rfl⟩
  obtain ⟨p2, hp2⟩ : ∃ x, x = intsL v.2.2.1 := ⟨_, rfl⟩
  obtain ⟨e2, he2⟩ : ∃ x, x = v.2.2.2 := ⟨_, rfl⟩
  have hel : ∀ _ : Unit, i < vs.length → (A.gb (A.el p (A.nat i)) 0 = s1 ∧ A.gl (A.el p (A.nat i)) 1 = p1 ∧ A.gi (A.el p (A.nat i)) 2 = e1) ∧ A.gb (A.el p (A.nat i)) 3 = s2 ∧ A.gl (A.el p (A.nat i)) 4 = p2 ∧ A.gi (A.el p (A.nat i)) 5 = e2 := by
    intro _ h4
    have w : A.el p (A.nat i) = cell6 v := by rw [hv, hp]; subst hA; exact c6el (show i.toNat < vs.length by omega)
    rw [w, hs1, hp1, he1, hs2, hp2, he2]
    subst hA
    exact ⟨⟨rfl, rfl, rfl⟩, rfl, rfl, rfl⟩
  obtain ⟨y, hy⟩ : ∃ y, y = Y i.toNat := ⟨_, rfl⟩
  obtain ⟨u1, hu1⟩ : ∃ x, x = y.1 := ⟨_, rfl⟩
  obtain ⟨x1, hx1⟩ : ∃ x, x = intsL y.2.1 := ⟨_, rfl⟩
  obtain ⟨g1, hg1⟩ : ∃ x, x = y.2.2 := ⟨_, rfl⟩
  have hlt : ∀ _ : Unit, A.lt i (A.cast (A.len p)) = true → i < vs.length := by
    intro _ h; subst hA; rw [hp] at h; have := of_decide_eq_true (show decide (i < (((cells6 vs).length : Nat) : Int)) = true from h); rw [c6len] at this; exact this
  have hge : ∀ _ : Unit, A.lt i (A.cast (A.len p)) = false → i.toNat = vs.length := by
    intro _ h; subst hA; rw [hp] at h; have := of_decide_eq_false (show decide (i < (((cells6 vs).length : Nat) : Int)) = false from h); rw [c6len] at this; omega
  obtain ⟨c1, hc1⟩ : ∃ x, x = (T i.toNat).1 := ⟨_, rfl⟩
  obtain ⟨c2, hc2⟩ : ∃ x, x = intsL (T i.toNat).2.1 := ⟨_, rfl⟩
  obtain ⟨c3, hc3⟩ : ∃ x, x = (T i.toNat).2.2 := ⟨_, rfl⟩
  have hcall : ∀ _ : Unit, i < vs.length → ((∀ P', Cx P' gl → FS P' gl 125 [.agg [B s1, .lst p1, I e1]] (· = .agg [B c1, .lst c2, I c3])) ∧ (∀ P', Cx P' gl → FS P' gl 124 [.agg [B s2, .lst p2, I e2], .agg [B c1, .lst c2, I c3]] (· = .agg [B u1, .lst x1, I g1]))) ∧ t0.set i.toNat (.agg [B u1, .lst x1, I g1]) = cells3 (listY Y (i + 1).toNat ++ List.replicate (vs.length - (i + 1).toNat) noY) ∧ i.toNat < vs.length ∧ i + 1 ≤ vs.length := by
    intro _ h4
    refine ⟨?_, ?_, by omega, by omega⟩
    · obtain ⟨h1, h2⟩ := hY i.toNat (by omega)
      rw [← hv] at h1 h2
      rw [← hy] at h2
      rw [hs1, hp1, he1, hs2, hp2, he2, hu1, hx1, hg1, hc1, hc2, hc3]; exact ⟨h1, h2⟩
    · rw [show .agg [B u1, .lst x1, I g1] = cell3 (Y i.toNat) by rw [← hy, hu1, hx1, hg1]; rfl, ht0, c3set, show (i + 1).toNat = i.toNat + 1 by omega, listY_succ, List.append_assoc]
      congr 1
      rw [List.set_append_right _ _ (by rw [listY_len]; exact Nat.le_refl _), listY_len, Nat.sub_self, show vs.length - i.toNat = (vs.length - (i.toNat + 1)) + 1 by omega, List.replicate_succ]
      rfl
  have hdone : i.toNat = vs.length → t0 = r := fun h => by rw [ht0, hr, h, Nat.sub_self, List.replicate_zero, List.append_nil]
  clear hc1 hc2 hc3
  clear hY hs1 hp1 he1 hs2 hp2 he2 hu1 hx1 hg1 hv hy ht0 hr hu0
  iterate 2 (all_goals try cbv; all_goals repeat' (first | with_reducible exact True.intro | with_reducible refine And.intro ?_ ?_ | intro _))
  all_goals try exact oI
  · rename_i g
    have gi := hlt () g
    obtain ⟨⟨w1, w2, w3⟩, w4, w5, w6⟩ := hel () gi
    obtain ⟨⟨o1, o5⟩, o2, o3, o4⟩ := hcall () gi
    obtain ⟨t9, ht9⟩ : ∃ t9, t9 = t0.set i.toNat (.agg [B u1, .lst x1, I g1]) := ⟨_, rfl⟩
    have hst : A.set t0 (A.nat i) (.agg [B u1, .lst x1, I g1]) = t9 := by rw [ht9]; subst hA; rfl
    rw [← ht9] at o2
    clear hlt hge hel hcall hdone ht9
    all_goals try simp only [w1, w2, w3, w4, w5, w6, hst]
    iterate 2 (all_goals try cbv; all_goals repeat' (first | with_reducible exact True.intro | with_reducible refine And.intro ?_ ?_ | intro _))
    all_goals try exact oI
    all_goals try simp only [w1, w2, w3, w4, w5, w6, hst]
    first | (refine callS hA rfl (o1 P C) ?_; rintro _ rfl) | refine ⟨_, o1 P C, ?_⟩
    iterate 2 (all_goals try cbv; all_goals repeat' (first | with_reducible exact True.intro | with_reducible refine And.intro ?_ ?_ | intro _))
    all_goals try exact oI
    all_goals try simp only [w1, w2, w3, w4, w5, w6, hst]
    first | (refine callS hA rfl (o5 P C) ?_; rintro _ rfl) | refine ⟨_, o5 P C, ?_⟩
    iterate 2 (all_goals try cbv; all_goals repeat' (first | with_reducible exact True.intro | with_reducible refine And.intro ?_ ?_ | intro _))
    all_goals try exact oI
    all_goals try simp only [w1, w2, w3, w4, w5, w6, hst]
    clear hst w1 w2 w3 w4 w5 w6 o1 o5
    obtain ⟨y1, hy1⟩ : ∃ y, y = i + 1 := ⟨_, rfl⟩
    obtain ⟨y2, hy2⟩ : ∃ y, y = t9 := ⟨_, rfl⟩
    refine ⟨⟨(y1, y2), ?_⟩, ?_, ?_⟩
    rotate_left
    · cbv
      exact nI
    · (subst hA; subst_vars; simp only [AR.std, natCast_eq, sI, reduceCtorEq] at *; try simp (disch := omega) only [AR.std, natCast_eq, sI, reduceCtorEq] at *); omega
    · rw [hy1, hy2]
      exact ⟨by simp only; omega, o4, o2⟩
  · rename_i g
    have e := hdone (hge () g)
    rw [e]
    iterate 2 (all_goals try cbv; all_goals repeat' (first | with_reducible exact True.intro | with_reducible refine And.intro ?_ ?_ | intro _))
    all_goals try exact oI
    first | (refine callS hA rfl (hnorm P C) ?_; rintro _ rfl) | refine ⟨_, hnorm P C, ?_⟩
    iterate 2 (all_goals try cbv; all_goals repeat' (first | with_reducible exact True.intro | with_reducible refine And.intro ?_ ?_ | intro _))
    all_goals try exact oI

end Tryz
end Go.Proofs
