/- Contracts: an interval's form, as the program tells it. -/
import Derived.Test.YtcbagjglchpagaaGreatDoorHN21
namespace Go.Proofs
open Go Go.Pe Go.Dg
namespace Tryz
set_option linter.unusedSimpArgs false
set_option linter.unusedVariables false
variable {P : Program} {gl : List (Nat × Obj)}

set_option maxHeartbeats 1000000 in
set_option maxRecDepth 100000 in
theorem implIvOk_fs (C : Cx P gl) {l m : List Int} {e f : Int} {p q : List PV} {s t b : Bool} (hp : p = intsL l) (hq : q = intsL m) (hb : b = true ↔ ivOk s l e t m f) (hl : l.length ≤ 2000000) (hm : m.length ≤ 2000000) :
    FS P gl 49 [.agg [B s, .lst p, I e, B t, .lst q, I f]] (· = B b) := by
  obtain ⟨c1, hc1⟩ := bool_of (allY [(s, l, e), (t, m, f)])
  have hall : allY [(s, l, e), (t, m, f)] ↔ dyOk s l e ∧ dyOk t m f := by
    simp [allY, okY]
  obtain ⟨c, hc⟩ : ∃ c : Int, c = cmpD (dval s l e) (dval t m f) := ⟨_, rfl⟩
  have h1 : b = (c1 && decide (c ≤ 0)) := by
    rw [Bool.eq_iff_iff, hb, ivOk, Bool.and_eq_true, decide_eq_true_eq, hc1, hall, hc, cmpD_le, and_assoc]
  have h2 : c1 = true → p = intsL (dg (cZ (dval s l e)).natAbs) ∧ s = decide (cZ (dval s l e) < 0) ∧ e = cE (dval s l e) ∧ q = intsL (dg (cZ (dval t m f)).natAbs) ∧ t = decide (cZ (dval t m f) < 0) ∧ f = cE (dval t m f) ∧
      e.natAbs ≤ 100000 ∧ f.natAbs ≤ 100000 ∧ (dg (cZ (dval s l e)).natAbs).length ≤ 1000000 ∧ (dg (cZ (dval t m f)).natAbs).length ≤ 1000000 := by
    intro a1
    have a2 := hall.1 (hc1.1 a1)
    obtain ⟨⟨x1, x2, x3⟩, y1, y2, y3⟩ := dyOk_val a2.1
    obtain ⟨⟨x4, x5, x6⟩, y4, y5, y6⟩ := dyOk_val a2.2
    exact ⟨by rw [hp, ← x2], x1, x3, by rw [hq, ← x5], x4, x6, by omega, by omega, by omega, by omega⟩
  have hcv : ∀ x y, x = dval s l e → y = dval t m f → c = cmpD x y := by rintro x y rfl rfl; exact hc
  clear hc
  generalize dval s l e = d1 at *
  generalize dval t m f = d2 at *
  have h3 : c = cmpD (mk (cZ d1) (cE d1)) (mk (cZ d2) (cE d2)) := hcv _ _ (mk_canon _) (mk_canon _)
  have hyy : ∀ y ∈ [(s, l, e), (t, m, f)], y.2.1.length ≤ 2000000 := by simp; exact ⟨hl, hm⟩
  have hcl : [PV.agg [B s, .lst p, I e], .agg [B t, .lst q, I f]] = cells3 [(s, l, e), (t, m, f)] := by rw [hp, hq]; rfl
  have hcall : ∀ P', Cx P' gl → FS P' gl 102 [.lst [PV.agg [B s, .lst p, I e], .agg [B t, .lst q, I f]]] (· = B c1) := fun P' C' => areDys_fs C' hcl hc1 (by simp) hyy
  clear hcv hb hc1 hyy hcl hall
  obtain ⟨rfl, hG⟩ := C
  refine FS_ofT (args := fun A => [.agg [B s, .lst p, I e, B t, .lst q, I f]]) (R := fun A rr => rr = B b) Tryz.hT Tryz.mix Tryz.func49 rfl rfl (Nat.le_of_ble_eq_true rfl) ?_
  generalize hP : Tryz.prog = P
  intro A hA
  have C : Tryz.Cx P gl := ⟨hP.symm, hG⟩
  have hI : intsL = A.ints := by subst hA; rfl
  iterate 2 (all_goals try cbv; all_goals repeat' (first | with_reducible exact True.intro | with_reducible refine And.intro ?_ ?_ | intro _))
  all_goals try exact oH
  · refine okA_of hA ?_
    intro x hx
    simp only [List.mem_cons, List.not_mem_nil, or_false] at hx
    rcases hx with rfl | rfl <;> exact ⟨rfl, rfl⟩
  refine ⟨_, hcall P C, ?_⟩
  iterate 2 (all_goals try cbv; all_goals repeat' (first | with_reducible exact True.intro | with_reducible refine And.intro ?_ ?_ | intro _))
  all_goals try exact oH
  refine ⟨_, fun _ => dyExact_fs C, ?_⟩
  iterate 2 (all_goals try cbv; all_goals repeat' (first | with_reducible exact True.intro | with_reducible refine And.intro ?_ ?_ | intro _))
  all_goals try exact oH
  refine ⟨_, fun _ => dyExact_fs C, ?_⟩
  iterate 2 (all_goals try cbv; all_goals repeat' (first | with_reducible exact True.intro | with_reducible refine And.intro ?_ ?_ | intro _))
  all_goals try exact oH
  refine ⟨I c, fun g => ?_, ?_⟩
  · have g1 : c1 = true := by subst hA; cases c1 <;> first | rfl | exact absurd g (by decide)
    obtain ⟨x1, x2, x3, x4, x5, x6, x7, x8, x9, x10⟩ := h2 g1
    rw [x3, x6] at *
    exact exactCompare_fs C x1 x2 x4 x5 h3 x7 x8 x9 x10
  iterate 2 (all_goals try cbv; all_goals repeat' (first | with_reducible exact True.intro | with_reducible refine And.intro ?_ ?_ | intro _))
  all_goals try exact oH
  have e1 : A.pick c1 (A.le c 0) false = b := by
    subst hA; rw [h1]; cases c1 <;> rfl
  simp only [e1]

end Tryz
end Go.Proofs
