/- Contracts: sums and differences of intervals, as the reference has them. -/
import Derived.Test.YtcbagjglchpagaaGreatDoorHN10
import Derived.Test.YtcbagjglchpagaaGreatDoorHEvD
namespace Go.Proofs
open Go Go.Pe Go.Dg
namespace Tryz
set_option linter.unusedSimpArgs false
set_option linter.unusedVariables false
variable {P : Program} {gl : List (Nat × Obj)}

set_option maxHeartbeats 1000000 in
set_option maxRecDepth 100000 in
theorem l7own_fs (C : Cx P gl) {d : Dyadic} {p : List PV} {s : Bool} {e : Int} (hp : p = intsL (dg (cZ d).natAbs)) (hs : s = decide (cZ d < 0)) (hl : (dg (cZ d).natAbs).length ≤ 2000000) :
    FS P gl 100 [.agg [B s, .lst p, I e]] (· = .agg [B s, .lst p, I e]) := by
  have hs' : s = (s && decide ((cZ d).natAbs ≠ 0)) := by
    rw [hs, Bool.eq_iff_iff, Bool.and_eq_true, decide_eq_true_eq, decide_eq_true_eq]; omega
  have hcall := fun (P' : Program) (C' : Cx P' gl) => l3make_fs C' hp hs' (by omega)
  clear hs hs'
  obtain ⟨rfl, hG⟩ := C
  refine FS_ofT (args := fun A => [.agg [B s, .lst p, I e]]) (R := fun A rr => rr = .agg [B s, .lst p, I e]) Tryz.hT Tryz.mix Tryz.func100 rfl rfl (Nat.le_of_ble_eq_true rfl) ?_
  generalize hP : Tryz.prog = P
  intro A hA
  have C : Tryz.Cx P gl := ⟨hP.symm, hG⟩
  have hI : intsL = A.ints := by subst hA; rfl
  iterate 2 (all_goals try cbv; all_goals repeat' (first | with_reducible exact True.intro | with_reducible refine And.intro ?_ ?_ | intro _))
  all_goals try exact oH
  refine ⟨_, hcall P C, ?_⟩
  iterate 2 (all_goals try cbv; all_goals repeat' (first | with_reducible exact True.intro | with_reducible refine And.intro ?_ ?_ | intro _))
  all_goals try exact oH

/-- an interval's ends as they come out, or nought -/
def outI (w : Bool) (p q r x : List PV) (s t u v : Bool) (e f g h : Int) : Prop :=
  (w = true → r = p ∧ u = s ∧ g = e ∧ x = q ∧ v = t ∧ h = f) ∧ (w = false → r = [] ∧ u = false ∧ g = 0 ∧ x = [] ∧ v = false ∧ h = 0)

set_option maxHeartbeats 1000000 in
set_option maxRecDepth 100000 in
theorem l7fits_fs (C : Cx P gl) {d1 d2 : Dyadic} {p q r x : List PV} {s t u v w : Bool} {e f g h : Int} (hp : p = intsL (dg (cZ d1).natAbs)) (hs : s = decide (cZ d1 < 0)) (he : e = cE d1)
    (hq : q = intsL (dg (cZ d2).natAbs)) (ht : t = decide (cZ d2 < 0)) (hf : f = cE d2) (hl : (dg (cZ d1).natAbs).length ≤ 2000000) (hm : (dg (cZ d2).natAbs).length ≤ 2000000)
    (hw : w = true ↔ fits d1 ∧ fits d2) (ho : outI w p q r x s t u v e f g h) :
    FS P gl 47 [.agg [B s, .lst p, I e, B t, .lst q, I f]] (· = .tup [.agg [B u, .lst r, I g, B v, .lst x, I h], B w]) := by
  obtain ⟨c1, hc1⟩ := bool_of (fits d1)
  obtain ⟨c2, hc2⟩ := bool_of (fits d2)
  have k1 : c1 = true ↔ dyOk s (dg (cZ d1).natAbs) e := by rw [hc1]; exact (dyOk_cells ⟨hs, rfl, he⟩).symm
  have k2 : c2 = true ↔ dyOk t (dg (cZ d2).natAbs) f := by rw [hc2]; exact (dyOk_cells ⟨ht, rfl, hf⟩).symm
  have hwv : w = (c1 && c2) := by rw [Bool.eq_iff_iff, hw, Bool.and_eq_true, hc1, hc2]
  have hcall1 := fun (P' : Program) (C' : Cx P' gl) => DyOk_fs C' hp k1 hl
  have hcall2 := fun (P' : Program) (C' : Cx P' gl) => DyOk_fs C' hq k2 hm
  have hown1 := fun (P' : Program) (C' : Cx P' gl) => l7own_fs C' (e := e) hp hs hl
  have hown2 := fun (P' : Program) (C' : Cx P' gl) => l7own_fs C' (e := f) hq ht hm
  obtain ⟨ho1, ho2⟩ := ho
  clear hw k1 k2 hc1 hc2 hp hs he hq ht hf
  obtain ⟨rfl, hG⟩ := C
  refine FS_ofT (args := fun A => [.agg [B s, .lst p, I e, B t, .lst q, I f]]) (R := fun A rr => rr = .tup [.agg [B u, .lst r, I g, B v, .lst x, I h], B w]) Tryz.hT Tryz.mix Tryz.func47 rfl rfl (Nat.le_of_ble_eq_true rfl) ?_
  generalize hP : Tryz.prog = P
  intro A hA
  have C : Tryz.Cx P gl := ⟨hP.symm, hG⟩
  have hI : intsL = A.ints := by subst hA; rfl
  iterate 2 (all_goals try cbv; all_goals repeat' (first | with_reducible exact True.intro | with_reducible refine And.intro ?_ ?_ | intro _))
  all_goals try exact oH
  refine callS hA rfl (hcall1 P C) ?_; rintro _ rfl
  iterate 2 (all_goals try cbv; all_goals repeat' (first | with_reducible exact True.intro | with_reducible refine And.intro ?_ ?_ | intro _))
  all_goals try exact oH
  refine ⟨_, fun _ => hcall2 P C, ?_⟩
  iterate 2 (all_goals try cbv; all_goals repeat' (first | with_reducible exact True.intro | with_reducible refine And.intro ?_ ?_ | intro _))
  all_goals try exact oH
  · rename_i gg
    have hw : w = false := by subst hA; rw [hwv]; cases c1 <;> cases c2 <;> first | rfl | exact absurd gg (by decide)
    obtain ⟨rfl, rfl, rfl, rfl, rfl, rfl⟩ := ho2 hw
    rw [hw]
  · rename_i gg
    have hw : w = true := by subst hA; rw [hwv]; cases c1 <;> cases c2 <;> first | rfl | exact absurd gg (by decide)
    obtain ⟨rfl, rfl, rfl, rfl, rfl, rfl⟩ := ho1 hw
    rw [hw]
    refine ⟨_, hown1 P C, ?_⟩
    iterate 2 (all_goals try cbv; all_goals repeat' (first | with_reducible exact True.intro | with_reducible refine And.intro ?_ ?_ | intro _))
    all_goals try exact oH
    refine callS hA rfl (hown2 P C) ?_; rintro _ rfl
    iterate 2 (all_goals try cbv; all_goals repeat' (first | with_reducible exact True.intro | with_reducible refine And.intro ?_ ?_ | intro _))
    all_goals try exact oH

set_option maxHeartbeats 1000000 in
set_option maxRecDepth 100000 in
theorem l7add_fs (C : Cx P gl) {y1 y2 y3 y4 e1 e2 e3 e4 g h : Int} {p1 p2 p3 p4 r x : List PV} {s1 s2 s3 s4 u v : Bool} {d1 d2 : Dyadic}
    (a1 : p1 = intsL (dg y1.natAbs)) (b1 : s1 = decide (y1 < 0)) (a2 : p2 = intsL (dg y2.natAbs)) (b2 : s2 = decide (y2 < 0)) (a3 : p3 = intsL (dg y3.natAbs)) (b3 : s3 = decide (y3 < 0)) (a4 : p4 = intsL (dg y4.natAbs)) (b4 : s4 = decide (y4 < 0))
    (hd1 : d1 = mk y1 e1 + mk y3 e3) (hd2 : d2 = mk y2 e2 + mk y4 e4) (hr : r = intsL (dg (cZ d1).natAbs)) (hu : u = decide (cZ d1 < 0)) (hg : g = cE d1) (hx : x = intsL (dg (cZ d2).natAbs)) (hv : v = decide (cZ d2 < 0)) (hh : h = cE d2)
    (c1 : e1.natAbs ≤ 100000) (c2 : e2.natAbs ≤ 100000) (c3 : e3.natAbs ≤ 100000) (c4 : e4.natAbs ≤ 100000) (l1 : (dg y1.natAbs).length ≤ 1000000) (l2 : (dg y2.natAbs).length ≤ 1000000) (l3 : (dg y3.natAbs).length ≤ 1000000) (l4 : (dg y4.natAbs).length ≤ 1000000) :
    FS P gl 119 [.agg [B s1, .lst p1, I e1, B s2, .lst p2, I e2], .agg [B s3, .lst p3, I e3, B s4, .lst p4, I e4]] (· = .agg [B u, .lst r, I g, B v, .lst x, I h]) := by
  have hcall1 := fun (P' : Program) (C' : Cx P' gl) => l4add_fs C' a1 b1 a3 b3 hd1 hr hu hg c1 c3 l1 l3
  have hcall2 := fun (P' : Program) (C' : Cx P' gl) => l4add_fs C' a2 b2 a4 b4 hd2 hx hv hh c2 c4 l2 l4
  clear hd1 hd2 hr hu hg hx hv hh
  obtain ⟨rfl, hG⟩ := C
  refine FS_ofT (args := fun A => [.agg [B s1, .lst p1, I e1, B s2, .lst p2, I e2], .agg [B s3, .lst p3, I e3, B s4, .lst p4, I e4]]) (R := fun A rr => rr = .agg [B u, .lst r, I g, B v, .lst x, I h]) Tryz.hT Tryz.mix Tryz.func119 rfl rfl (Nat.le_of_ble_eq_true rfl) ?_
  generalize hP : Tryz.prog = P
  intro A hA
  have C : Tryz.Cx P gl := ⟨hP.symm, hG⟩
  have hI : intsL = A.ints := by subst hA; rfl
  iterate 2 (all_goals try cbv; all_goals repeat' (first | with_reducible exact True.intro | with_reducible refine And.intro ?_ ?_ | intro _))
  all_goals try exact oH
  refine ⟨_, hcall1 P C, ?_⟩
  iterate 2 (all_goals try cbv; all_goals repeat' (first | with_reducible exact True.intro | with_reducible refine And.intro ?_ ?_ | intro _))
  all_goals try exact oH
  refine callS hA rfl (hcall2 P C) ?_; rintro _ rfl
  iterate 2 (all_goals try cbv; all_goals repeat' (first | with_reducible exact True.intro | with_reducible refine And.intro ?_ ?_ | intro _))
  all_goals try exact oH

end Tryz
end Go.Proofs
