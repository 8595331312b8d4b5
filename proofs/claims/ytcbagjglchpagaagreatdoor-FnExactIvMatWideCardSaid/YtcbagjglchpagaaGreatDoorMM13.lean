/- Contracts: products of numbers in any form, sums of products. -/
import Derived.Test.YtcbagjglchpagaaGreatDoorMM7
import Derived.Test.YtcbagjglchpagaaGreatDoorMEvD
namespace Go.Proofs
open Go Go.Pe Go.Dg
namespace Tryz
set_option linter.unusedSimpArgs false
set_option linter.unusedVariables false
variable {P : Program} {gl : List (Nat × Obj)}

theorem xPlus {d1 d2 : Dyadic} {L E : Nat} {y1 y2 : Cell3} (h1 : X d1 L E y1) (h2 : X d2 L E y2) (hL : L ≤ 1000000) (hE : E ≤ 100000) : ∃ y, X (d1 + d2) (L + E + 2) E y ∧
    ∀ (P : Program) (gl : List (Nat × Obj)) (p q r : List PV), Cx P gl → p = intsL y1.2.1 → q = intsL y2.2.1 → r = intsL y.2.1 → FS P gl 128 [.agg [B y1.1, .lst p, I y1.2.2], .agg [B y2.1, .lst q, I y2.2.2]] (· = .agg [B y.1, .lst r, I y.2.2]) := by
  obtain ⟨z1, a1, a2, a3, a4, a5⟩ := h1
  obtain ⟨z2, b1, b2, b3, b4, b5⟩ := h2
  obtain ⟨w, f, hd⟩ := sumD_ex z1 y1.2.2 z2 y2.2.2
  have hlen : (dg w.natAbs).length ≤ L + E + 2 ∧ f.natAbs ≤ E := by
    obtain ⟨x, y, ha, rfl⟩ := hd
    obtain ⟨c2, c1, c3⟩ := align_len ha b4 a4 b5 a5
    exact ⟨by have := Go.Pe.dg_len_add c1 c2; omega, c3⟩
  refine ⟨(decide (w < 0), dg w.natAbs, f), ⟨w, rfl, rfl, by rw [sumD_mk hd, a3, b3], hlen.1, hlen.2⟩, ?_⟩
  intro P gl p q r C hp hq hr
  exact exactPlus_fs C (by rw [hp, a2]) a1 (by rw [hq, b2]) b1 hd hr rfl (by omega) (by omega) (by omega) (by omega)

end Tryz
end Go.Proofs

namespace Go.Proofs
open Go Go.Pe Go.Dg
namespace Tryz
set_option linter.unusedSimpArgs false
set_option linter.unusedVariables false
variable {P : Program} {gl : List (Nat × Obj)}

set_option maxHeartbeats 1000000 in
set_option maxRecDepth 100000 in
theorem exactAbs_fs (C : Cx P gl) {e : Int} {p : List PV} {s : Bool} : FS P gl 130 [.agg [B s, .lst p, I e]] (· = .agg [B false, .lst p, I e]) := by
  obtain ⟨rfl, hG⟩ := C
  refine FS_ofT (args := fun A => [.agg [B s, .lst p, I e]]) (R := fun A rr => rr = .agg [B false, .lst p, I e]) Tryz.hT Tryz.mix Tryz.func130 rfl rfl (Nat.le_of_ble_eq_true rfl) ?_
  generalize hP : Tryz.prog = P
  intro A hA
  have C : Tryz.Cx P gl := ⟨hP.symm, hG⟩
  have hI : intsL = A.ints := by subst hA; rfl
  iterate 2 (all_goals try cbv; all_goals repeat' (first | with_reducible exact True.intro | with_reducible refine And.intro ?_ ?_ | intro _))
  all_goals try exact oG

set_option maxHeartbeats 1000000 in
set_option maxRecDepth 100000 in
theorem maxFunc_fs (C : Cx P gl) {s t s0 : Bool} {lu lv : List Int} {p u v r : List PV} {e g f c : Int} (hp : p = cells3 [(s, lu, e), (t, lv, g)]) (hu : u = intsL lu) (hv : v = intsL lv) (hc : ∀ P', Cx P' gl → FS P' gl 103 [.agg [B t, .lst v, I g], .agg [B s, .lst u, I e]] (· = I c))
    (h1 : 0 < c → s0 = t ∧ r = v ∧ f = g) (h2 : ¬ 0 < c → s0 = s ∧ r = u ∧ f = e) :
    FS P gl 180 [.lst p, .fn 103 []] (· = .agg [B s0, .lst r, I f]) := by
  obtain ⟨ys, hys⟩ : ∃ ys : List Cell3, ys = [(s, lu, e), (t, lv, g)] := ⟨_, rfl⟩
  have hpl : ys.length = 2 := by rw [hys]; rfl
  rw [← hys] at hp
  obtain ⟨rfl, hG⟩ := C
  refine FS_ofT (args := fun A => [.lst p, .fn 103 []]) (R := fun A rr => rr = .agg [B s0, .lst r, I f]) Tryz.hT Tryz.mix Tryz.func180 rfl rfl (Nat.le_of_ble_eq_true rfl) ?_
  generalize hP : Tryz.prog = P
  intro A hA
  have C : Tryz.Cx P gl := ⟨hP.symm, hG⟩
  have hI : intsL = A.ints := by subst hA; rfl
  have a1 : A.gb (A.el p (A.nat 0)) 0 = s := by clear hc h1 h2; subst hA hp hys hu hv; rfl
  have a2 : A.gl (A.el p (A.nat 0)) 1 = u := by clear hc h1 h2; subst hA hp hys hu hv; rfl
  have a3 : A.gi (A.el p (A.nat 0)) 2 = e := by clear hc h1 h2; subst hA hp hys hu hv; rfl
  have b1 : A.gb (A.el p (A.nat 1)) 0 = t := by clear hc h1 h2; subst hA hp hys hu hv; rfl
  have b2 : A.gl (A.el p (A.nat 1)) 1 = v := by clear hc h1 h2; subst hA hp hys hu hv; rfl
  have b3 : A.gi (A.el p (A.nat 1)) 2 = g := by clear hc h1 h2; subst hA hp hys hu hv; rfl
  clear hys hu hv
  iterate 2 (all_goals try cbv; all_goals repeat' (first | with_reducible exact True.intro | with_reducible refine And.intro ?_ ?_ | intro _))
  all_goals try exact oG
  simp only [a1, a2, a3]
  clear a1 a2 a3
  refine loopI hA [] (ι := Int × Bool × List PV × Int) (fun x => [(6, .pv (I x.1))]) (fun x => [(1, .box [.pv (B x.2.1), .pv (.lst x.2.2.1), .pv (I x.2.2.2)])]) (fun x => (2 - x.1).toNat) (fun x => 1 ≤ x.1 ∧ x.1 ≤ 2 ∧ (x.1 = 1 → x.2.1 = s ∧ x.2.2.1 = u ∧ x.2.2.2 = e) ∧ (x.1 = 2 → x.2.1 = s0 ∧ x.2.2.1 = r ∧ x.2.2.2 = f)) (1, s, u, e) (by rfl) ?_ ?_ ?_
  all_goals try exact tG
  · exact ⟨by simp only; omega, by simp only; omega, fun _ => ⟨rfl, rfl, rfl⟩, fun h => by simp only at h; omega⟩
  rintro ⟨i, s1, w, h⟩ ⟨hi0, hi1, hi2, hi3⟩
  simp only at hi0 hi1 hi2 hi3
  iterate 2 (all_goals try cbv; all_goals repeat' (first | with_reducible exact True.intro | with_reducible refine And.intro ?_ ?_ | intro _))
  all_goals try exact oG
  · rename_i g1 g2
    have gi : i = 1 := by clear hc h1 h2 b1 b2 b3 g1 hi2 hi3; (subst hA; subst_vars; simp only [AR.std, natCast_eq, sG, reduceCtorEq] at *; try simp (disch := omega) only [AR.std, natCast_eq, sG, reduceCtorEq] at *); omega
    obtain ⟨e1, e2, e3⟩ := hi2 gi
    clear hi2 hi3 g1 g2 hi0 hi1
    rw [gi, e1, e2, e3]
    simp only [b1, b2, b3]
    refine callS hA rfl (hc P C) ?_; rintro _ rfl
    clear hc
    iterate 2 (all_goals try cbv; all_goals repeat' (first | with_reducible exact True.intro | with_reducible refine And.intro ?_ ?_ | intro _))
    all_goals try exact oG
    · rename_i g3
      obtain ⟨k1, k2, k3⟩ := h1 (by clear h1 h2 b1 b2 b3; (subst hA; subst_vars; simp only [AR.std, natCast_eq, sG, reduceCtorEq] at *; try simp (disch := omega) only [AR.std, natCast_eq, sG, reduceCtorEq] at *); omega)
      simp only [b1, b2, b3]
      clear h1 h2 b1 b2 b3 g3
      obtain ⟨y1, hy1⟩ : ∃ y, y = 2 := ⟨_, rfl⟩
      obtain ⟨y2, hy2⟩ : ∃ y, y = t := ⟨_, rfl⟩
      obtain ⟨y3, hy3⟩ : ∃ y, y = v := ⟨_, rfl⟩
      obtain ⟨y4, hy4⟩ : ∃ y, y = g := ⟨_, rfl⟩
      refine ⟨⟨(y1, y2, y3, y4), ?_⟩, ?_, ?_⟩
      rotate_left
      · cbv
        exact nG
      · (subst hA; subst_vars; simp only [AR.std, natCast_eq, sG, reduceCtorEq] at *; try simp (disch := omega) only [AR.std, natCast_eq, sG, reduceCtorEq] at *); omega
      · rw [hy1, hy2, hy3, hy4]
        exact ⟨by simp only; omega, by simp only; omega, fun h => absurd h (by simp only; omega), fun _ => ⟨k1.symm, k2.symm, k3.symm⟩⟩
    · rename_i g3
      obtain ⟨k1, k2, k3⟩ := h2 (by clear h1 h2 b1 b2 b3; (subst hA; subst_vars; simp only [AR.std, natCast_eq, sG, reduceCtorEq] at *; try simp (disch := omega) only [AR.std, natCast_eq, sG, reduceCtorEq] at *); omega)
      clear h1 h2 b1 b2 b3 g3
      obtain ⟨y1, hy1⟩ : ∃ y, y = 2 := ⟨_, rfl⟩
      obtain ⟨y2, hy2⟩ : ∃ y, y = s := ⟨_, rfl⟩
      obtain ⟨y3, hy3⟩ : ∃ y, y = u := ⟨_, rfl⟩
      obtain ⟨y4, hy4⟩ : ∃ y, y = e := ⟨_, rfl⟩
      refine ⟨⟨(y1, y2, y3, y4), ?_⟩, ?_, ?_⟩
      rotate_left
      · cbv
        exact nG
      · (subst hA; subst_vars; simp only [AR.std, natCast_eq, sG, reduceCtorEq] at *; try simp (disch := omega) only [AR.std, natCast_eq, sG, reduceCtorEq] at *); omega
      · rw [hy1, hy2, hy3, hy4]
        exact ⟨by simp only; omega, by simp only; omega, fun h => absurd h (by simp only; omega), fun _ => ⟨k1.symm, k2.symm, k3.symm⟩⟩
  · rename_i g1 g2
    obtain ⟨e1, e2, e3⟩ := hi3 (by clear hc h1 h2 b1 b2 b3 g1 hi2 hi3; (subst hA; subst_vars; simp only [AR.std, natCast_eq, sG, reduceCtorEq] at *; try simp (disch := omega) only [AR.std, natCast_eq, sG, reduceCtorEq] at *); omega)
    rw [e1, e2, e3]

set_option maxHeartbeats 1000000 in
set_option maxRecDepth 100000 in
theorem most_fs (C : Cx P gl) {s t s0 : Bool} {lu lv : List Int} {p u v r : List PV} {e g f c : Int} (hp : p = cells3 [(s, lu, e), (t, lv, g)]) (hu : u = intsL lu) (hv : v = intsL lv) (hc : ∀ P', Cx P' gl → FS P' gl 103 [.agg [B t, .lst v, I g], .agg [B s, .lst u, I e]] (· = I c))
    (h1 : 0 < c → s0 = t ∧ r = v ∧ f = g) (h2 : ¬ 0 < c → s0 = s ∧ r = u ∧ f = e) :
    FS P gl 117 [.lst p] (· = .agg [B s0, .lst r, I f]) := by
  have hm := fun (P' : Program) (C' : Cx P' gl) => maxFunc_fs C' hp hu hv hc h1 h2
  clear hp hu hv hc h1 h2
  obtain ⟨rfl, hG⟩ := C
  refine FS_ofT (args := fun A => [.lst p]) (R := fun A rr => rr = .agg [B s0, .lst r, I f]) Tryz.hT Tryz.mix Tryz.func117 rfl rfl (Nat.le_of_ble_eq_true rfl) ?_
  generalize hP : Tryz.prog = P
  intro A hA
  have C : Tryz.Cx P gl := ⟨hP.symm, hG⟩
  have hI : intsL = A.ints := by subst hA; rfl
  iterate 2 (all_goals try cbv; all_goals repeat' (first | with_reducible exact True.intro | with_reducible refine And.intro ?_ ?_ | intro _))
  all_goals try exact oG
  refine callS hA rfl (hm P C) ?_; rintro _ rfl
  iterate 2 (all_goals try cbv; all_goals repeat' (first | with_reducible exact True.intro | with_reducible refine And.intro ?_ ?_ | intro _))
  all_goals try exact oG

/-- the greater of two numbers in any form -/
theorem xMost {d1 d2 : Dyadic} {L E : Nat} {y1 y2 : Cell3} (h1 : X d1 L E y1) (h2 : X d2 L E y2) (hL : L ≤ 1000000) (hE : E ≤ 100000) : ∃ y, X (maxD d1 d2) L E y ∧
    ∀ (P : Program) (gl : List (Nat × Obj)) (p r : List PV), Cx P gl → p = cells3 [y1, y2] → r = intsL y.2.1 → FS P gl 117 [.lst p] (· = .agg [B y.1, .lst r, I y.2.2]) := by
  refine ⟨_, X_max h1 h2, ?_⟩
  intro P gl p r C hp hr
  obtain ⟨z1, a1, a2, a3, a4, a5⟩ := h1
  obtain ⟨z2, b1, b2, b3, b4, b5⟩ := h2
  refine most_fs C (s := y1.1) (lu := y1.2.1) (e := y1.2.2) (t := y2.1) (lv := y2.2.1) (g := y2.2.2) hp rfl rfl (fun P' C' => exactCompare_fs C' (by rw [b2]) b1 (by rw [a2]) a1 (c := cmpD d2 d1) (by rw [a3, b3]) (by omega) (by omega) (by omega) (by omega)) ?_ ?_
  · intro h
    have h' := (cmpD_swap d1 d2).1 h
    rw [if_pos h'] at hr ⊢
    exact ⟨rfl, hr, rfl⟩
  · intro h
    have h' : ¬ cmpD d1 d2 < 0 := fun g => h ((cmpD_swap d1 d2).2 g)
    rw [if_neg h'] at hr ⊢
    exact ⟨rfl, hr, rfl⟩

end Tryz
end Go.Proofs

namespace Go.Proofs
open Go Go.Pe Go.Dg
namespace Tryz
set_option linter.unusedSimpArgs false
set_option linter.unusedVariables false
variable {P : Program} {gl : List (Nat × Obj)}

/-- what exact.OP of two cells yields -/
def callP (gl : List (Nat × Obj)) (f : FuncId) (y1 y2 y : Cell3) : Prop := ∀ (P : Program) (p q r : List PV), Cx P gl → p = intsL y1.2.1 → q = intsL y2.2.1 → r = intsL y.2.1 → FS P gl f [.agg [B y1.1, .lst p, I y1.2.2], .agg [B y2.1, .lst q, I y2.2.2]] (· = .agg [B y.1, .lst r, I y.2.2])

end Tryz
end Go.Proofs

