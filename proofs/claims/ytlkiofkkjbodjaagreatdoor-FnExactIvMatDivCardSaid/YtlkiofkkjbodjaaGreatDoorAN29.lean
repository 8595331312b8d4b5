/- Contracts: a number as a Dy, of memory of its own. -/
import Derived.Test.YtlkiofkkjbodjaaGreatDoorAN24
import Derived.Test.YtlkiofkkjbodjaaGreatDoorAN22
import Derived.Test.YtlkiofkkjbodjaaGreatDoorAEvD
set_option maxHeartbeats 2000000
set_option maxRecDepth 100000
namespace Go.Proofs
open Go Go.Pe Go.Dg
namespace Tryz
set_option linter.unusedSimpArgs false
set_option linter.unusedVariables false
variable {P : Program} {gl : List (Nat × Obj)}

theorem l10new_fx (C : Cx P gl) {n : Int} {u : List PV} (hn : 0 ≤ n) (hn4 : n ≤ 100) (hu : u = cells6 (List.replicate (n * n).toNat noV)) :
  FX P gl 121 [] [.pv (I n)] (fun own rr => own = [.row 110 6 u] ∧ rr = .agg [.pv (I n), .own 0]) := by
 have hnn : 0 ≤ n * n ∧ n * n ≤ 10000 := by
  have h3 : n * n ≤ 100 * n := Int.mul_le_mul_of_nonneg_right hn4 hn
  have h4 := Int.mul_nonneg hn hn
  omega
 obtain ⟨k, hk⟩ : ∃ k, k = n * n := ⟨_, rfl⟩
 rw [← hk] at hu hnn
 obtain ⟨rfl, hG⟩ := C
 refine FX_ofT (own := fun A => []) (args := fun A => [.pv (I n)]) (R := fun A ow rr => ow = [.row 110 6 u] ∧ rr = .agg [.pv (I n), .own 0]) Tryz.hT Tryz.mix Tryz.func121 rfl rfl (Nat.le_of_ble_eq_true rfl) ?_
 generalize hP : Tryz.prog = P
 intro A hA
 have C : Tryz.Cx P gl := ⟨hP.symm, hG⟩
 have hI : intsL = A.ints := by subst hA; rfl
 have ek : A.mul .i64 n n = k := by
  clear hu
  subst hA
  simp only [AR.std]
  rw [← hk, wrapi (by omega) (by omega)]
 iterate 2 (all_goals try cbv; all_goals with_reducible repeat' first | exact True.intro | refine And.intro ?_ ?_ | intro _)
 all_goals try exact oI
 all_goals simp only [ek]
 ·have e0 : A.rep k (.agg [B false, .lst [], I 0, B false, .lst [], I 0]) = u := by
   rw [hu]; subst hA
   show List.replicate k.toNat (cell6 noV) = _
   rw [c6rep]
  simp only [e0]
  subst hA
  exact ⟨[1], _, _, by decide, Nat.zero_le _, rfl, rfl, rfl, rfl, rfl, rfl⟩

theorem l10new_fn (C : Cx P gl) {n : Int} {u : List PV} (hn : 0 ≤ n) (hn4 : n ≤ 100) (hu : u = cells6 (List.replicate (n * n).toNat noV)) :
  FN P gl 121 [I n] (fun own rr => own = [.row 110 6 u] ∧ rr = .agg [.pv (I n), .own 0]) :=
 FN_of (l10new_fx C hn hn4 hu) (by rintro _ _ ⟨rfl, rfl⟩; exact ⟨by simpa using closed_zero6 hu _ _, rfl⟩)

theorem l10fits_fs (C : Cx P gl) {vs : List Cell6} {L : Nat} {p q : List PV} {n n' : Int} {b : Bool} (hp : p = cells6 vs) (hx : CW6 L vs) (hL : L ≤ 1000000) (hl : vs.length ≤ 1000000) (hb : b = true ↔ ivmOk n vs)
  (h1 : b = true → q = p ∧ n' = n) (h2 : b = false → q = [] ∧ n' = 0) :
  FS P gl 50 [.agg [I n, .lst p]] (· = .tup [.agg [I n', .lst q], B b]) := by
 have hy : ∀ y ∈ vs, y.1.2.1.length ≤ 2000000 ∧ y.2.2.1.length ≤ 2000000 := by
  intro y hy
  obtain ⟨k, hk, rfl⟩ := List.getElem_of_mem hy
  obtain ⟨a, c, e, l1, l2⟩ := hx k hk
  rw [List.getD, List.getElem?_eq_getElem hk] at e
  simp only [Option.getD_some] at e
  rw [e]
  exact ⟨Nat.le_trans l1 (by omega), Nat.le_trans l2 (by omega)⟩
 have c1 := fun (P' : Program) (C' : Cx P' gl) => specIvMatOk_fs C' (n := n) hp hb (by omega) hy
 have hnb : b = true → 0 ≤ n ∧ n ≤ 100 ∧ vs.length = (n * n).toNat := fun h => by
  obtain ⟨a1, a2, a3, _⟩ := hb.1 h
  exact ⟨by omega, by omega, by omega⟩
 obtain ⟨u0, hu0⟩ : ∃ u, u = cells6 (List.replicate vs.length noV) := ⟨_, rfl⟩
 have c2 := fun (h : b = true) (P' : Program) (C' : Cx P' gl) => l10new_fn C' (n := n) (u := u0) (hnb h).1 (hnb h).2.1 (by rw [hu0, (hnb h).2.2])
 clear hy hb hnb
 obtain ⟨rfl, hG⟩ := C
 refine FS_ofT (args := fun A => [.agg [I n, .lst p]]) (R := fun A rr => rr = .tup [.agg [I n', .lst q], B b]) Tryz.hT Tryz.mix Tryz.func50 rfl rfl (Nat.le_of_ble_eq_true rfl) ?_
 generalize hP : Tryz.prog = P
 intro A hA
 have C : Tryz.Cx P gl := ⟨hP.symm, hG⟩
 have hI : intsL = A.ints := by subst hA; rfl
 iterate 2 (all_goals try cbv; all_goals with_reducible repeat' first | exact True.intro | refine And.intro ?_ ?_ | intro _)
 all_goals try exact oI
 refine callS hA rfl (c1 P C) ?_; rintro _ rfl
 iterate 2 (all_goals try cbv; all_goals with_reducible repeat' first | exact True.intro | refine And.intro ?_ ?_ | intro _)
 all_goals try exact oI
 ·rename_i g
  have hbf : b = false := by cases b <;> first | rfl | (exfalso; clear c1 c2 h1 h2; subst hA; cases g)
  obtain ⟨e1, e2⟩ := h2 hbf
  rw [e1, e2, hbf]
 ·rename_i g
  have hbt : b = true := by cases b <;> first | rfl | (exfalso; clear c1 c2 h1 h2; subst hA; cases g)
  obtain ⟨e1, e2⟩ := h1 hbt
  have c2 := c2 hbt
  clear h1 h2 c1 g
  rw [e1, e2, hbt]
  clear e1 e2 hbt
  iterate 2 (all_goals try cbv; all_goals with_reducible repeat' first | exact True.intro | refine And.intro ?_ ?_ | intro _)
  all_goals try exact oI
  refine callN hA rfl (c2 P C) ?_; rintro _ _ ⟨rfl, rfl⟩; refine ⟨rfl, ?_⟩
  clear c2
  iterate 2 (all_goals try cbv; all_goals with_reducible repeat' first | exact True.intro | refine And.intro ?_ ?_ | intro _)
  all_goals try exact oI
  refine loopI hA [] (ι := Int × List PV) (fun x => [(5, .pv (I x.1))]) (fun x => [(2, .row 110 6 x.2)]) (fun x => (vs.length - x.1).toNat) (fun x => cpI6 vs x.1 x.2) (0, u0) (by rfl) ?_ ?_ ?_
  all_goals try exact tI
  ·exact ⟨Int.le_refl _, by omega, by rw [hu0]; rfl⟩
  rintro ⟨i, t⟩ hinv
  simp only at hinv
  have hnext := fun hi => cpI6_next hinv hi
  have hexit := fun hi => cpI6_exit hinv hi
  obtain ⟨hi0, hi1, _⟩ := id hinv
  have htl : t.length = vs.length := by
   rw [hinv.2.2, c6len, List.length_append, List.length_take, List.length_replicate]; omega
  clear hinv
  have hxi := hx i.toNat
  obtain ⟨v, hv⟩ : ∃ v, v = vs.getD i.toNat noV := ⟨_, rfl⟩
  obtain ⟨s1, hs1⟩ : ∃ x, x = v.1.1 := ⟨_, rfl⟩
  obtain ⟨p1, hp1⟩ : ∃ x, x = intsL v.1.2.1 := ⟨_, rfl⟩
  obtain ⟨e1, he1⟩ : ∃ x, x = v.1.2.2 := ⟨_, rfl⟩
  obtain ⟨s2, hs2⟩ : ∃ x, x = v.2.1 := ⟨_, rfl⟩
  obtain ⟨p2, hp2⟩ : ∃ x, x = intsL v.2.2.1 := ⟨_, rfl⟩
  obtain ⟨e2, he2⟩ : ∃ x, x = v.2.2.2 := ⟨_, rfl⟩
  have hel : ∀ _ : Unit, i < vs.length → (A.gb (A.el p (A.nat i)) 0 = s1 ∧ A.gl (A.el p (A.nat i)) 1 = p1 ∧ A.gi (A.el p (A.nat i)) 2 = e1) ∧ A.gb (A.el p (A.nat i)) 3 = s2 ∧ A.gl (A.el p (A.nat i)) 4 = p2 ∧ A.gi (A.el p (A.nat i)) 5 = e2 := by
   intro _ h4
   have w : A.el p (A.nat i) = cell6 v := by rw [hv, hp]; subst hA; exact c6el (show i.toNat < vs.length by omega)
   rw [w, hs1, hp1, he1, hs2, hp2, he2]
   subst hA
   exact ⟨⟨rfl, rfl, rfl⟩, rfl, rfl, rfl⟩
  have hlt : ∀ _ : Unit, A.lt i (A.cast (A.len p)) = true → i < vs.length := by
   intro _ h; subst hA; rw [hp] at h; have := of_decide_eq_true (show decide (i < (((cells6 vs).length : Nat) : Int)) = true from h); rw [c6len] at this; exact this
  have hge : ∀ _ : Unit, A.lt i (A.cast (A.len p)) = false → i.toNat = vs.length := by
   intro _ h; subst hA; rw [hp] at h; have := of_decide_eq_false (show decide (i < (((cells6 vs).length : Nat) : Int)) = false from h); rw [c6len] at this; omega
  rw [← hv] at hxi
  have hown : ∀ _ : Unit, i < vs.length → (∀ P', Cx P' gl → FS P' gl 93 [.agg [B s1, .lst p1, I e1]] (· = .agg [B s1, .lst p1, I e1])) ∧ (∀ P', Cx P' gl → FS P' gl 93 [.agg [B s2, .lst p2, I e2]] (· = .agg [B s2, .lst p2, I e2])) ∧
    t.set i.toNat (.agg [B s1, .lst p1, I e1, B s2, .lst p2, I e2]) = t.set i.toNat (cell6 v) ∧ cpI6 vs (i + 1) (t.set i.toNat (cell6 v)) ∧ i.toNat < t.length ∧ i + 1 ≤ vs.length := by
   intro _ h4
   obtain ⟨a, c, e, l1, l2⟩ := hxi (by omega)
   refine ⟨fun P' C' => l7own_fs C' (d := a) (by rw [hp1, e]; rfl) (by rw [hs1, e]; rfl) (by omega), fun P' C' => l7own_fs C' (d := c) (by rw [hp2, e]; rfl) (by rw [hs2, e]; rfl) (by omega), ?_, ?_, by omega, by omega⟩
   ·rw [hs1, hp1, he1, hs2, hp2, he2]; rfl
   ·have := hnext h4
    rw [← hv] at this
    exact this
  have hdone : i.toNat = vs.length → t = p := fun h => by rw [hp]; exact hexit (by omega)
  clear hxi hnext hexit hs1 hp1 he1 hs2 hp2 he2 hv hx hu0
  iterate 2 (all_goals try cbv; all_goals with_reducible repeat' first | exact True.intro | refine And.intro ?_ ?_ | intro _)
  all_goals try exact oI
  ·rename_i g
   have gi := hlt () g
   obtain ⟨⟨w1, w2, w3⟩, w4, w5, w6⟩ := hel () gi
   obtain ⟨o1, o2, o3, o4, o5, o6⟩ := hown () gi
   obtain ⟨t9, ht9⟩ : ∃ t9, t9 = t.set i.toNat (cell6 v) := ⟨_, rfl⟩
   rw [← ht9] at o3 o4
   have o3' : A.set t (A.nat i) (.agg [B s1, .lst p1, I e1, B s2, .lst p2, I e2]) = t9 := by rw [← o3]; subst hA; rfl
   clear hlt hge hel hown hdone o3 ht9
   all_goals try simp only [w1, w2, w3, w4, w5, w6]
   first | (refine callS hA rfl (o1 P C) ?_; rintro _ rfl) | refine ⟨_, o1 P C, ?_⟩
   iterate 2 (all_goals try cbv; all_goals with_reducible repeat' first | exact True.intro | refine And.intro ?_ ?_ | intro _)
   all_goals try exact oI
   all_goals try simp only [w1, w2, w3, w4, w5, w6]
   first | (refine callS hA rfl (o2 P C) ?_; rintro _ rfl) | refine ⟨_, o2 P C, ?_⟩
   iterate 2 (all_goals try cbv; all_goals with_reducible repeat' first | exact True.intro | refine And.intro ?_ ?_ | intro _)
   all_goals try exact oI
   all_goals try simp only [w1, w2, w3, w4, w5, w6, o3']
   clear w1 w2 w3 w4 w5 w6 o3' o1 o2
   obtain ⟨y1, hy1⟩ : ∃ y, y = i + 1 := ⟨_, rfl⟩
   obtain ⟨y2, hy2⟩ : ∃ y, y = t9 := ⟨_, rfl⟩
   refine ⟨⟨(y1, y2), ?_⟩, ?_, ?_⟩
   rotate_left
   ·cbv
    exact nI
   ·(subst hA; subst_vars; simp only [AR.std, natCast_eq, sI, reduceCtorEq] at *; try simp (disch := omega) only [AR.std, natCast_eq, sI, reduceCtorEq] at *); omega
   ·rw [hy1, hy2]; exact o4
  ·rename_i g
   have e := hdone (hge () g)
   rw [e]

end Tryz
end Go.Proofs

namespace Go.Proofs
open Go Go.Pe Go.Dg
namespace Tryz
set_option linter.unusedSimpArgs false
set_option linter.unusedVariables false
variable {P : Program} {gl : List (Nat × Obj)}

theorem dg_zero : dg 0 = [] := List.eq_nil_of_length_eq_zero (dg_len0.2 rfl)

theorem fits_zero : fits 0 := by
 have : cZ (0 : Dyadic) = 0 := cZ_eq_zero.2 rfl
 refine ⟨by rw [this, show Int.natAbs 0 = 0 from rfl, dg_zero]; decide, by decide, by decide⟩

end Tryz
end Go.Proofs

namespace Go.Proofs
open Go Go.Pe Go.Dg
namespace Tryz
set_option linter.unusedSimpArgs false
set_option linter.unusedVariables false
variable {P : Program} {gl : List (Nat × Obj)}

theorem dy_fn (C : Cx P gl) {z e f : Int} {p r : List PV} {s u : Bool} {d : Dyadic} (hp : p = intsL (dg z.natAbs)) (hs : s = decide (z < 0)) (hd : d = mk z e)
  (hr : r = intsL (dg (cZ d).natAbs)) (hu : u = decide (cZ d < 0)) (hf : f = cE d) (h0 : e.natAbs ≤ 1000000000) (hl : (dg z.natAbs).length ≤ 10000000) (hn : z ≠ 0) (hfit : fits d) :
  FN P gl 111 [.agg [B s, .lst p, I e]] (fun own rr => own = [.row 3 1 r] ∧ rr = .tup [.agg [.pv (B u), .own 0, .pv (I f)], .pv (B true)]) :=
 FN_of (dy_fx C hp hs hd hr hu hf h0 hl hn hfit) (by rintro _ _ ⟨rfl, rfl⟩; exact ⟨by simpa using closed_ints hr _ _, rfl⟩)

end Tryz
end Go.Proofs

