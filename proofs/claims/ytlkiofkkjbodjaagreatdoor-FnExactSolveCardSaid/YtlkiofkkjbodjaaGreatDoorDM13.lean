/- Contracts: products of numbers in any form, sums of products. -/
import Derived.Test.YtlkiofkkjbodjaaGreatDoorDM15
import Derived.Test.YtlkiofkkjbodjaaGreatDoorDEvD
set_option maxHeartbeats 1000000
set_option maxRecDepth 100000
namespace Go.Proofs
open Go Go.Pe Go.Dg
namespace Tryz
set_option linter.unusedSimpArgs false
set_option linter.unusedVariables false
variable {P : Program} {gl : List (Nat × Obj)}

theorem l9fits_fs (C : Cx P gl) {ys : List Cell3} {p q : List PV} {b : Bool} (hp : p = cells3 ys) (hb : b = true ↔ allY ys) (hl : ys.length ≤ 2000000) (hy : ∀ y ∈ ys, y.2.1.length ≤ 2000000)
  (h1 : b = true → q = p) (h2 : b = false → q = []) : FS P gl 66 [.lst p] (· = .tup [.lst q, B b]) := by
 have hstep : ∀ (i : Int) (v : List PV), 0 ≤ i → i < ys.length → v = cells3 (ys.take i.toNat) → ∃ (s b0 : Bool) (e : Int) (u v2 : List PV), ((ys.getD i.toNat noY).1 = s ∧ intsL (ys.getD i.toNat noY).2.1 = u ∧ (ys.getD i.toNat noY).2.2 = e) ∧ (b0 = true ↔ okY (ys.getD i.toNat noY)) ∧
   (∀ P', Cx P' gl → FS P' gl 91 [.agg [B s, .lst u, I e]] (· = B b0)) ∧ (b0 = true → ∀ P', Cx P' gl → FS P' gl 93 [.agg [B s, .lst u, I e]] (· = .agg [B s, .lst u, I e])) ∧
   v2 = v ++ [.agg [B s, .lst u, I e]] ∧ v2 = cells3 (ys.take (i + 1).toNat) := by
  intro i v h1 h2 hv
  have hlt : i.toNat < ys.length := by omega
  have hm := hy _ (getY_mem hlt)
  obtain ⟨b0, hb0⟩ := bool_of (okY (ys.getD i.toNat noY))
  refine ⟨_, b0, _, _, _, ⟨rfl, rfl, rfl⟩, hb0, fun P' C' => DyOk_fs C' rfl hb0 hm, fun h P' C' => ?_, rfl, ?_⟩
  ·obtain ⟨⟨g1, g2, g3⟩, g4, g5, g6⟩ := dyOk_val (hb0.1 h)
   exact l7ownZ_fs C' (z := cZ (dval (ys.getD i.toNat noY).1 (ys.getD i.toNat noY).2.1 (ys.getD i.toNat noY).2.2)) (by rw [← g2]) g1 (by omega)
  ·rw [show (i + 1).toNat = i.toNat + 1 by omega, hv]
   exact c3take hlt
 have hfin : ∀ v : List PV, v = cells3 (ys.take ys.length) → (∀ k, k < ys.length → okY (ys.getD k noY)) → v = q ∧ b = true := by
  intro v hv hk
  have hbt : b = true := hb.2 (fun y hy => by
   obtain ⟨k, hk2, rfl⟩ := List.getElem_of_mem hy
   have := hk k hk2
   rwa [List.getD, List.getElem?_eq_getElem hk2] at this)
  exact ⟨by rw [hv, List.take_length, h1 hbt, hp], hbt⟩
 have hbad : ∀ i : Int, 0 ≤ i → i < ys.length → ¬okY (ys.getD i.toNat noY) → q = [] ∧ b = false := by
  intro i g1 g2 g3
  have hbf : b = false := by
   cases hbc : b with
   | false => rfl
   | true => exact absurd (hb.1 hbc _ (getY_mem (by omega))) g3
  exact ⟨h2 hbf, hbf⟩
 have hpl : p.length = ys.length := by rw [hp, cells3_len]
 have hlen : ∀ (i : Int) (v : List PV), v = cells3 (ys.take i.toNat) → v.length ≤ 2000000 := by
  intro i v hv
  rw [hv, cells3_len, List.length_take]; omega
 clear hb h1 h2 hy
 refine gS C func66 rfl rfl rfl fun A hA hI => ?_
 iterate 2 all_goals try cbv; with_reducible repeat' first | exact ⟨⟩ | apply And.intro | intro _
 all_goals try exact oG
 refine loopI hA [.slot 4 64 3] (ι := Int × List PV) (fun x => [(4, .own 0), (5, .pv (I x.1))]) (fun x => [(0, .row 64 3 x.2)]) (fun x => (ys.length - x.1).toNat) (fun x => 0 ≤ x.1 ∧ x.1 ≤ ys.length ∧ x.2 = cells3 (ys.take x.1.toNat) ∧ ∀ k, k < x.1.toNat → okY (ys.getD k noY)) (0, []) (by rfl) ?_ ?_ ?_
 all_goals try exact tG
 ·exact ⟨Int.le_refl _, by omega, rfl, fun k hk => absurd hk (Nat.not_lt_zero _)⟩
 rintro ⟨i, v⟩ ⟨hi0, hi1, hv, hk⟩
 simp only at hi0 hi1 hv hk
 have hvl := hlen i v hv
 have hout : ∀ _ : Unit, i = ys.length → v = q ∧ b = true := by
  intro _ h
  have e : i.toNat = ys.length := by omega
  rw [e] at hv hk
  exact hfin v hv hk
 have hs : ∀ _ : Unit, i < ys.length → _ := fun _ h => hstep i v hi0 h hv
 have hbd : ∀ _ : Unit, i < ys.length → ¬okY (ys.getD i.toNat noY) → q = [] ∧ b = false := fun _ h => hbad i hi0 h
 have hk2 : ∀ _ : Unit, okY (ys.getD i.toNat noY) → ∀ k, k < (i + 1).toNat → okY (ys.getD k noY) := by
  intro _ h k hlt
  by_cases e : k = i.toNat
  ·rw [e]; exact h
  ·exact hk k (by omega)
 clear hv hk hstep hfin hbad hlen
 iterate 2 all_goals try cbv; with_reducible repeat' first | exact ⟨⟩ | apply And.intro | intro _
 all_goals try exact oG
 ·rename_i g
  have gi : i < ys.length := by clear hs hout hbd hk2; exact eG
  have hlt : i.toNat < ys.length := by omega
  obtain ⟨s, b0, e, u, v2, ⟨g1, g2, g3⟩, g4, c1, c2, x1, x2⟩ := hs () gi
  have hi2 : i + 1 ≤ ys.length := by omega
  have hbd2 := hbd () gi
  have hk3 := hk2 ()
  have k1 : A.gb (A.el p (A.nat i)) 0 = s := by rw [← g1]; clear hs hout hbd hk2 g1 g2 g3 g4 c1 c2 x1 x2 g hbd2 hk3; (subst hA; subst_vars; simp only [AR.std, natCast_eq, sG, reduceCtorEq] at *; try simp (disch := omega) only [AR.std, natCast_eq, sG, reduceCtorEq] at *)
  have k2 : A.gl (A.el p (A.nat i)) 1 = u := by rw [← g2]; clear hs hout hbd hk2 g1 g2 g3 g4 c1 c2 x1 x2 g hbd2 hk3 k1; (subst hA; subst_vars; simp only [AR.std, natCast_eq, sG, reduceCtorEq] at *; try simp (disch := omega) only [AR.std, natCast_eq, sG, reduceCtorEq] at *)
  have k3 : A.gi (A.el p (A.nat i)) 2 = e := by rw [← g3]; clear hs hout hbd hk2 g1 g2 g3 g4 c1 c2 x1 x2 g hbd2 hk3 k1 k2; (subst hA; subst_vars; simp only [AR.std, natCast_eq, sG, reduceCtorEq] at *; try simp (disch := omega) only [AR.std, natCast_eq, sG, reduceCtorEq] at *)
  have hra : A.app v [.agg [B s, .lst u, I e]] = v2 := by rw [x1]; subst hA; rfl
  clear hs hout hbd hk2 g1 g2 g3 g x1
  all_goals try simp only [k1, k2, k3]
  refine callS hA rfl (c1 P C) ?_; rintro _ rfl
  cases b0 with
  | false =>
   obtain ⟨e1, e2⟩ := hbd2 (fun h => absurd (g4.2 h) (by decide))
   subst e1; subst e2
   clear g4 c1 c2 hbd2 hk3
   iterate 2 all_goals try cbv; with_reducible repeat' first | exact ⟨⟩ | apply And.intro | intro _
   all_goals try exact oG
   iterate 2 all_goals try cbv; with_reducible repeat' first | exact ⟨⟩ | apply And.intro | intro _
   all_goals try exact oG
  | true =>
   have c3 := c2 rfl
   have hk4 := hk3 (g4.1 rfl)
   clear g4 c1 c2 hbd2 hk3
   iterate 2 all_goals try cbv; with_reducible repeat' first | exact ⟨⟩ | apply And.intro | intro _
   all_goals try exact oG
   all_goals try simp only [k1, k2, k3]
   refine callS hA rfl (c3 P C) ?_; rintro _ rfl
   iterate 2 all_goals try cbv; with_reducible repeat' first | exact ⟨⟩ | apply And.intro | intro _
   all_goals try exact oG
   all_goals try exact okA_of hA (by intro x hx; rw [List.mem_singleton.1 hx]; exact ⟨rfl, rfl⟩)
   all_goals try exact cap_of hA (by simp only [List.length_singleton]; omega)
   simp only [hra]
   clear hra k1 k2 k3
   obtain ⟨y1, hy1⟩ : ∃ y, y = i + 1 := ⟨_, rfl⟩
   obtain ⟨y2, hy2⟩ : ∃ y, y = v2 := ⟨_, rfl⟩
   refine ⟨⟨(y1, y2), ?_⟩, ?_, ?_⟩
   rotate_left
   ·cbv
    exact nG
   ·exact eG
   ·rw [hy1, hy2]
    exact ⟨by simp only; omega, hi2, x2, hk4⟩
 ·rename_i g
  obtain ⟨e1, e2⟩ := hout () (by clear hs hout hbd hk2; exact eG)
  rw [e1, e2]

end Tryz
end Go.Proofs

namespace Go.Proofs
open Go Go.Pe Go.Dg
namespace Tryz
set_option linter.unusedSimpArgs false
set_option linter.unusedVariables false
variable {P : Program} {gl : List (Nat × Obj)}

theorem xPlus {d1 d2 : Dyadic} {L E : Nat} {y1 y2 : Cell3} (h1 : X d1 L E y1) (h2 : X d2 L E y2) (hL : L ≤ 1000000) (hE : E ≤ 100000) : ∃ y, X (d1 + d2) (L + E + 2) E y ∧
  ∀ (P : Program) (gl : List (Nat × Obj)) (p q r : List PV), Cx P gl → p = intsL y1.2.1 → q = intsL y2.2.1 → r = intsL y.2.1 → FS P gl 81 [.agg [B y1.1, .lst p, I y1.2.2], .agg [B y2.1, .lst q, I y2.2.2]] (· = .agg [B y.1, .lst r, I y.2.2]) := by
 obtain ⟨z1, a1, a2, a3, a4, a5⟩ := h1
 obtain ⟨z2, b1, b2, b3, b4, b5⟩ := h2
 obtain ⟨w, f, hd⟩ := sumD_ex z1 y1.2.2 z2 y2.2.2
 have hlen : (dg w.natAbs).length ≤ L + E + 2 ∧ f.natAbs ≤ E := by
  obtain ⟨x, y, ha, rfl⟩ := hd
  obtain ⟨c2, c1, c3⟩ := align_len ha b4 a4 b5 a5
  exact ⟨by have := Go.Pe.dg_len_add c1 c2; omega, c3⟩
 refine ⟨(decide (w < 0), dg w.natAbs, f), ⟨w, rfl, rfl, by rw [sumD_mk hd, a3, b3], hlen.1, hlen.2⟩, ?_⟩
 intro P gl p q r C hp hq hr
 exact exactPlus_fs C (by rw [hp, a2]) a1 (by rw [hq, b2]) b1 hd hr rfl (by omega) (by omega) (by omega) (by omega)

end Tryz
end Go.Proofs

set_option maxHeartbeats 1000000
set_option maxRecDepth 100000
namespace Go.Proofs
open Go Go.Pe Go.Dg
namespace Tryz
set_option linter.unusedSimpArgs false
set_option linter.unusedVariables false
variable {P : Program} {gl : List (Nat × Obj)}

theorem exactTimes_fs (C : Cx P gl) {z1 e1 z2 e2 w f : Int} {p q r : List PV} {s t u : Bool} (hp : p = intsL (dg z1.natAbs)) (hs : s = decide (z1 < 0)) (hq : q = intsL (dg z2.natAbs)) (ht : t = decide (z2 < 0))
  (hw : w = z1 * z2) (hf : f = e1 + e2) (hr : r = intsL (dg w.natAbs)) (hu : u = decide (w < 0))
  (h1 : e1.natAbs ≤ 100000) (h2 : e2.natAbs ≤ 100000) (hl : (dg z1.natAbs).length ≤ 1000000) (hm : (dg z2.natAbs).length ≤ 1000000) :
  FS P gl 83 [.agg [B s, .lst p, I e1], .agg [B t, .lst q, I e2]] (· = .agg [B u, .lst r, I f]) := by
 have hv : val (dg z1.natAbs) * val (dg z2.natAbs) = ((w.natAbs : Nat) : Int) := by
  rw [val_dg, val_dg, hw, Int.natAbs_mul, Int.natCast_mul]
 have hc := fun (P' : Program) (C' : Cx P' gl) => times_fs C' hp hq (valid_dg _) (valid_dg _) hv hr (by omega)
 have hz : decide (0 < (dg w.natAbs).length) = decide (w ≠ 0) := by
  have := dg_len0 (n := w.natAbs)
  rw [decide_eq_decide]
  omega
 have hsg : (xor s t && decide (w ≠ 0)) = u := by
  rw [hu, hs, ht, hw]
  rcases Int.lt_trichotomy z1 0 with a | a | a <;> rcases Int.lt_trichotomy z2 0 with b | b | b
  ·have := Int.mul_pos_of_neg_of_neg a b
   simp [a, b]; omega
  ·simp [b]
  ·have := Int.mul_neg_of_neg_of_pos a b
   simp [a, Int.not_lt.2 (Int.le_of_lt b), this]; omega
  ·simp [a]
  ·simp [a]
  ·simp [a]
  ·have := Int.mul_neg_of_pos_of_neg a b
   simp [b, Int.not_lt.2 (Int.le_of_lt a), this]; omega
  ·simp [b]
  ·have := Int.mul_pos a b
   simp [Int.not_lt.2 (Int.le_of_lt a), Int.not_lt.2 (Int.le_of_lt b)]; omega
 obtain ⟨m, hm'⟩ : ∃ m, m = (dg w.natAbs).length := ⟨_, rfl⟩
 have hrl : r.length = m := by rw [hr, ints_len, hm']
 rw [← hm'] at hz
 clear hp hs hq ht hw hr hu hv hm'
 refine gS C func83 rfl rfl rfl fun A hA hI => ?_
 have he : A.add .i64 e1 e2 = f := by clear hsg hz hrl hc; (subst hA; subst_vars; simp only [AR.std, natCast_eq, sG, reduceCtorEq] at *; try simp (disch := omega) only [AR.std, natCast_eq, sG, reduceCtorEq] at *)
 have hb : A.pick (A.bnot (A.beq s t)) (A.lt 0 (A.cast (A.len r))) false = u := by
  have e2 : A.lt 0 (A.cast (A.len r)) = decide (w ≠ 0) := by
   rw [← hz, ← hrl]
   clear hsg hz hrl hc he
   subst hA
   simp [AR.std]
  rw [e2, ← hsg]
  clear hsg hz hrl hc he e2
  subst hA
  cases s <;> cases t <;> simp [AR.std]
 iterate 2 all_goals try cbv; with_reducible repeat' first | exact ⟨⟩ | apply And.intro | intro _
 all_goals try exact oG
 refine callS hA rfl (hc P C) ?_; rintro _ rfl
 iterate 2 all_goals try cbv; with_reducible repeat' first | exact ⟨⟩ | apply And.intro | intro _
 all_goals try exact oG
 simp only [he, hb]

theorem xTimes {d1 d2 : Dyadic} {L E L2 E2 : Nat} {y1 y2 : Cell3} (h1 : X d1 L E y1) (h2 : X d2 L2 E2 y2) (hL : L ≤ 1000000) (hE : E ≤ 100000) (hL2 : L2 ≤ 1000000) (hE2 : E2 ≤ 100000) : ∃ y, X (d1 * d2) (L + L2) (E + E2) y ∧
  ∀ (P : Program) (gl : List (Nat × Obj)) (p q r : List PV), Cx P gl → p = intsL y1.2.1 → q = intsL y2.2.1 → r = intsL y.2.1 → FS P gl 83 [.agg [B y1.1, .lst p, I y1.2.2], .agg [B y2.1, .lst q, I y2.2.2]] (· = .agg [B y.1, .lst r, I y.2.2]) := by
 obtain ⟨z1, a1, a2, a3, a4, a5⟩ := h1
 obtain ⟨z2, b1, b2, b3, b4, b5⟩ := h2
 refine ⟨(decide (z1 * z2 < 0), dg (z1 * z2).natAbs, y1.2.2 + y2.2.2), ⟨z1 * z2, rfl, rfl, by rw [a3, b3, mk_mul], ?_, ?_⟩, ?_⟩
 ·rw [Int.natAbs_mul]; exact dg_len_mul a4 b4
 ·simp only; omega
 ·intro P gl p q r C hp hq hr
  exact exactTimes_fs C (by rw [hp, a2]) a1 (by rw [hq, b2]) b1 rfl rfl hr rfl (by omega) (by omega) (by omega) (by omega)

def callP (gl : List (Nat × Obj)) (f : FuncId) (y1 y2 y : Cell3) : Prop := ∀ (P : Program) (p q r : List PV), Cx P gl → p = intsL y1.2.1 → q = intsL y2.2.1 → r = intsL y.2.1 → FS P gl f [.agg [B y1.1, .lst p, I y1.2.2], .agg [B y2.1, .lst q, I y2.2.2]] (· = .agg [B y.1, .lst r, I y.2.2])

end Tryz
end Go.Proofs

