/- Contracts: the law's own helpers on lists of intervals: copies as trees of one's own. -/
import Derived.Test.YtlkiofkkjbodjaaGreatDoorAN8
import Derived.Test.YtlkiofkkjbodjaaGreatDoorAEvD
import Derived.Test.YtlkiofkkjbodjaaGreatDoorAPeTi
set_option maxHeartbeats 1000000
set_option maxRecDepth 100000
namespace Go.Proofs
open Go Go.Pe Go.Dg
namespace Tryz
set_option linter.unusedSimpArgs false
set_option linter.unusedVariables false
variable {P : Program} {gl : List (Nat × Obj)}

def cpI (l : List Int) (i : Int) (o : List Int) : Prop := 0 ≤ i ∧ i ≤ l.length ∧ o.length = l.length ∧ ∀ j : Nat, j < i.toNat → o.getD j 0 = l.getD j 0

theorem cpI_zero (l : List Int) : cpI l 0 (List.replicate l.length 0) := ⟨Int.le_refl _, by omega, by simp, fun j hj => by simp at hj⟩

theorem cpI_next {l : List Int} {i : Int} {o : List Int} (h : cpI l i o) (hi : i < l.length) : cpI l (i + 1) (o.set i.toNat (l.getD i.toNat 0)) := by
 obtain ⟨a, b, d, e⟩ := h
 refine ⟨by omega, by omega, by rw [List.length_set]; exact d, fun j hj => ?_⟩
 by_cases he : j = i.toNat
 ·subst he; rw [Go.Dg.getD_set_eq (by omega)]
 ·rw [Go.Dg.getD_set_ne (by omega)]; exact e j (by omega)

theorem cpI_exit {l : List Int} {i : Int} {o : List Int} (h : cpI l i o) (hi : l.length ≤ i) : o = l := by
 obtain ⟨a, b, d, e⟩ := h
 apply ext_getD d
 intro j hj
 exact e j (by omega)

theorem toIntS_fx (C : Cx P gl) {l : List Int} {p : List PV} (hp : p = intsL l) (hl : l.length ≤ 2000000) : FX P gl 252 [] [.pv (.lst p)] (fun own r => own = [.row 3 1 p] ∧ r = .own 0) := by
 obtain ⟨rfl, hG⟩ := C
 refine FX_ofT (own := fun A => []) (args := fun A => [.pv (.lst p)]) (R := fun A ow rr => ow = [.row 3 1 p] ∧ rr = .own 0) Tryz.hT Tryz.mix Tryz.func252 rfl rfl (Nat.le_of_ble_eq_true rfl) ?_
 generalize hP : Tryz.prog = P
 intro A hA
 have C : Tryz.Cx P gl := ⟨hP.symm, hG⟩
 have hI : intsL = A.ints := by subst hA; rfl
 iterate 2 (all_goals try cbv; all_goals with_reducible repeat' first | exact True.intro | refine And.intro ?_ ?_ | intro _)
 all_goals try exact oH
 refine loopI hA [] (ι := Int × List Int) (fun x => [(3, .own 0), (4, .pv (I x.1))]) (fun x => [(0, .row 3 1 (A.ints x.2))]) (fun x => (l.length - x.1).toNat) (fun x => cpI l x.1 x.2) (0, List.replicate l.length 0) (by rfl) ?_ ?_ ?_
 all_goals try exact tH
 ·exact cpI_zero l
 rintro ⟨i, o⟩ hinv
 simp only at hinv
 have hnext := fun hi => cpI_next hinv hi
 have hexit := fun hi => cpI_exit hinv hi
 obtain ⟨hi0, hi1, hol, _⟩ := id hinv
 clear hinv
 iterate 2 (all_goals try cbv; all_goals with_reducible repeat' first | exact True.intro | refine And.intro ?_ ?_ | intro _)
 all_goals try exact oH
 iterate 2 (all_goals try cbv; all_goals with_reducible repeat' first | exact True.intro | refine And.intro ?_ ?_ | intro _)
 all_goals try exact oH
 ·obtain ⟨y1, hy1⟩ : ∃ y, y = i + 1 := ⟨_, rfl⟩
  obtain ⟨y2, hy2⟩ : ∃ y, y = o.set i.toNat (l.getD i.toNat 0) := ⟨_, rfl⟩
  refine ⟨⟨(y1, y2), ?_⟩, ?_, ?_⟩
  rotate_left
  ·cbv
   exact nH
  ·(subst hA; subst_vars; simp only [AR.std, natCast_eq, sH, reduceCtorEq] at *; try simp (disch := omega) only [AR.std, natCast_eq, sH, reduceCtorEq] at *); omega
  ·rw [hy1, hy2]; exact hnext (by (subst hA; subst_vars; simp only [AR.std, natCast_eq, sH, reduceCtorEq] at *; try simp (disch := omega) only [AR.std, natCast_eq, sH, reduceCtorEq] at *); omega)
 ·have e : A.ints o = p := by rw [hexit (by clear hnext hexit; (subst hA; subst_vars; simp only [AR.std, natCast_eq, sH, reduceCtorEq] at *; try simp (disch := omega) only [AR.std, natCast_eq, sH, reduceCtorEq] at *); omega), hp]; subst hA; rfl
  simp only [e]
  subst hA
  exact ⟨[0], _, _, by decide, Nat.zero_le _, rfl, rfl, rfl, rfl, rfl, rfl⟩

theorem toIntS_fn (C : Cx P gl) {l : List Int} {p : List PV} (hp : p = intsL l) (hl : l.length ≤ 2000000) : FN P gl 252 [.lst p] (fun own r => own = [.row 3 1 p] ∧ r = .own 0) :=
 FN_of (toIntS_fx C hp hl) (by rintro _ _ ⟨rfl, rfl⟩; exact ⟨by simpa using closed_ints hp _ _, rfl⟩)

theorem toNat_fx (C : Cx P gl) {l : List Int} {p : List PV} (hp : p = intsL l) (hl : l.length ≤ 2000000) : FX P gl 214 [] [.pv (.agg [.lst p])] (fun own r => own = [.row 3 1 p] ∧ r = .agg [.own 0]) := by
 obtain ⟨rfl, hG⟩ := C
 refine FX_ofT (own := fun A => []) (args := fun A => [.pv (.agg [.lst p])]) (R := fun A ow rr => ow = [.row 3 1 p] ∧ rr = .agg [.own 0]) Tryz.hT Tryz.mix Tryz.func214 rfl rfl (Nat.le_of_ble_eq_true rfl) ?_
 generalize hP : Tryz.prog = P
 intro A hA
 have C : Tryz.Cx P gl := ⟨hP.symm, hG⟩
 have hI : intsL = A.ints := by subst hA; rfl
 iterate 2 (all_goals try cbv; all_goals with_reducible repeat' first | exact True.intro | refine And.intro ?_ ?_ | intro _)
 all_goals try exact oH
 refine callN hA rfl (toIntS_fn C hp hl) ?_; rintro _ _ ⟨rfl, rfl⟩; refine ⟨rfl, ?_⟩
 iterate 2 (all_goals try cbv; all_goals with_reducible repeat' first | exact True.intro | refine And.intro ?_ ?_ | intro _)
 all_goals try exact oH
 subst hA
 exact ⟨[3], _, _, by decide, Nat.zero_le _, rfl, rfl, rfl, rfl, rfl, rfl⟩

theorem toNat_fn (C : Cx P gl) {l : List Int} {p : List PV} (hp : p = intsL l) (hl : l.length ≤ 2000000) : FN P gl 214 [.agg [.lst p]] (fun own r => own = [.row 3 1 p] ∧ r = .agg [.own 0]) :=
 FN_of (toNat_fx C hp hl) (by rintro _ _ ⟨rfl, rfl⟩; exact ⟨by simpa using closed_ints hp _ _, rfl⟩)

theorem toWhole_fx (C : Cx P gl) {l : List Int} {p : List PV} {s : Bool} (hp : p = intsL l) (hl : l.length ≤ 2000000) : FX P gl 148 [] [.pv (.agg [B s, .lst p])] (fun own r => own = [.row 3 1 p] ∧ r = .agg [.pv (B s), .own 0]) := by
 obtain ⟨rfl, hG⟩ := C
 refine FX_ofT (own := fun A => []) (args := fun A => [.pv (.agg [B s, .lst p])]) (R := fun A ow rr => ow = [.row 3 1 p] ∧ rr = .agg [.pv (B s), .own 0]) Tryz.hT Tryz.mix Tryz.func148 rfl rfl (Nat.le_of_ble_eq_true rfl) ?_
 generalize hP : Tryz.prog = P
 intro A hA
 have C : Tryz.Cx P gl := ⟨hP.symm, hG⟩
 have hI : intsL = A.ints := by subst hA; rfl
 iterate 2 (all_goals try cbv; all_goals with_reducible repeat' first | exact True.intro | refine And.intro ?_ ?_ | intro _)
 all_goals try exact oH
 refine callN hA rfl (toNat_fn C hp hl) ?_; rintro _ _ ⟨rfl, rfl⟩; refine ⟨rfl, ?_⟩
 iterate 2 (all_goals try cbv; all_goals with_reducible repeat' first | exact True.intro | refine And.intro ?_ ?_ | intro _)
 all_goals try exact oH
 subst hA
 exact ⟨[3], _, _, by decide, Nat.zero_le _, rfl, rfl, rfl, rfl, rfl, rfl⟩

theorem toWhole_fn (C : Cx P gl) {l : List Int} {p : List PV} {s : Bool} (hp : p = intsL l) (hl : l.length ≤ 2000000) : FN P gl 148 [.agg [B s, .lst p]] (fun own r => own = [.row 3 1 p] ∧ r = .agg [.pv (B s), .own 0]) :=
 FN_of (toWhole_fx C hp hl) (by rintro _ _ ⟨rfl, rfl⟩; exact ⟨by simpa using closed_ints hp _ _, rfl⟩)

theorem toDy_fx (C : Cx P gl) {l : List Int} {p : List PV} {s : Bool} {e : Int} (hp : p = intsL l) (hl : l.length ≤ 2000000) : FX P gl 74 [] [.pv (.agg [B s, .lst p, I e])] (fun own r => own = [.row 3 1 p] ∧ r = .agg [.pv (B s), .own 0, .pv (I e)]) := by
 obtain ⟨rfl, hG⟩ := C
 refine FX_ofT (own := fun A => []) (args := fun A => [.pv (.agg [B s, .lst p, I e])]) (R := fun A ow rr => ow = [.row 3 1 p] ∧ rr = .agg [.pv (B s), .own 0, .pv (I e)]) Tryz.hT Tryz.mix Tryz.func74 rfl rfl (Nat.le_of_ble_eq_true rfl) ?_
 generalize hP : Tryz.prog = P
 intro A hA
 have C : Tryz.Cx P gl := ⟨hP.symm, hG⟩
 have hI : intsL = A.ints := by subst hA; rfl
 iterate 2 (all_goals try cbv; all_goals with_reducible repeat' first | exact True.intro | refine And.intro ?_ ?_ | intro _)
 all_goals try exact oH
 refine callN hA rfl (toWhole_fn C hp hl) ?_; rintro _ _ ⟨rfl, rfl⟩; refine ⟨rfl, ?_⟩
 iterate 2 (all_goals try cbv; all_goals with_reducible repeat' first | exact True.intro | refine And.intro ?_ ?_ | intro _)
 all_goals try exact oH
 subst hA
 exact ⟨[3], _, _, by decide, Nat.zero_le _, rfl, rfl, rfl, rfl, rfl, rfl⟩

theorem toDy_fn (C : Cx P gl) {l : List Int} {p : List PV} {s : Bool} {e : Int} (hp : p = intsL l) (hl : l.length ≤ 2000000) : FN P gl 74 [.agg [B s, .lst p, I e]] (fun own r => own = [.row 3 1 p] ∧ r = .agg [.pv (B s), .own 0, .pv (I e)]) :=
 FN_of (toDy_fx C hp hl) (by rintro _ _ ⟨rfl, rfl⟩; exact ⟨by simpa using closed_ints hp _ _, rfl⟩)

theorem toIv_fx (C : Cx P gl) {l m : List Int} {p q : List PV} {s t : Bool} {e f : Int} (hp : p = intsL l) (hq : q = intsL m) (hl : l.length ≤ 2000000) (hm : m.length ≤ 2000000) :
  FX P gl 123 [] [.pv (.agg [B s, .lst p, I e, B t, .lst q, I f])] (fun own r => own = [.row 3 1 p, .row 3 1 q] ∧ r = .agg [.pv (B s), .own 0, .pv (I e), .pv (B t), .own 1, .pv (I f)]) := by
 obtain ⟨rfl, hG⟩ := C
 refine FX_ofT (own := fun A => []) (args := fun A => [.pv (.agg [B s, .lst p, I e, B t, .lst q, I f])]) (R := fun A ow rr => ow = [.row 3 1 p, .row 3 1 q] ∧ rr = .agg [.pv (B s), .own 0, .pv (I e), .pv (B t), .own 1, .pv (I f)]) Tryz.hT Tryz.mix Tryz.func123 rfl rfl (Nat.le_of_ble_eq_true rfl) ?_
 generalize hP : Tryz.prog = P
 intro A hA
 have C : Tryz.Cx P gl := ⟨hP.symm, hG⟩
 have hI : intsL = A.ints := by subst hA; rfl
 iterate 2 (all_goals try cbv; all_goals with_reducible repeat' first | exact True.intro | refine And.intro ?_ ?_ | intro _)
 all_goals try exact oH
 refine callN hA rfl (toDy_fn C hp hl) ?_; rintro _ _ ⟨rfl, rfl⟩; refine ⟨rfl, ?_⟩
 iterate 2 (all_goals try cbv; all_goals with_reducible repeat' first | exact True.intro | refine And.intro ?_ ?_ | intro _)
 all_goals try exact oH
 refine callN hA rfl (toDy_fn C hq hm) ?_; rintro _ _ ⟨rfl, rfl⟩; refine ⟨rfl, ?_⟩
 iterate 2 (all_goals try cbv; all_goals with_reducible repeat' first | exact True.intro | refine And.intro ?_ ?_ | intro _)
 all_goals try exact oH
 subst hA
 exact ⟨[3, 4], _, _, by decide, Nat.zero_le _, rfl, rfl, rfl, rfl, rfl, rfl⟩

theorem toIv_fn (C : Cx P gl) {l m : List Int} {p q : List PV} {s t : Bool} {e f : Int} (hp : p = intsL l) (hq : q = intsL m) (hl : l.length ≤ 2000000) (hm : m.length ≤ 2000000) :
  FN P gl 123 [.agg [B s, .lst p, I e, B t, .lst q, I f]] (fun own r => own = [.row 3 1 p, .row 3 1 q] ∧ r = .agg [.pv (B s), .own 0, .pv (I e), .pv (B t), .own 1, .pv (I f)]) :=
 FN_of (toIv_fx C hp hq hl hm) (by rintro _ _ ⟨rfl, rfl⟩; exact ⟨by simpa using ⟨closed_ints hp _ _, closed_ints hq _ _⟩, rfl⟩)

end Tryz
end Go.Proofs

set_option maxHeartbeats 1000000
set_option maxRecDepth 100000
namespace Go.Proofs
open Go Go.Pe Go.Dg
namespace Tryz
set_option linter.unusedSimpArgs false
set_option linter.unusedVariables false
variable {P : Program} {gl : List (Nat × Obj)}

theorem toIvS_fx (C : Cx P gl) {vs : List Cell6} {p : List PV} (hp : p = cells6 vs) (hl : vs.length ≤ 2000000) (hy : ∀ v ∈ vs, v.1.2.1.length ≤ 2000000 ∧ v.2.2.1.length ≤ 2000000) :
  FX P gl 52 [] [.pv (.lst p)] (fun own r => own = [.tree 110 6 3 p] ∧ r = .own 0) := by
 obtain ⟨rfl, hG⟩ := C
 refine FX_ofT (own := fun A => []) (args := fun A => [.pv (.lst p)]) (R := fun A ow rr => ow = [.tree 110 6 3 p] ∧ rr = .own 0) Tryz.hT Tryz.mix Tryz.func52 rfl rfl (Nat.le_of_ble_eq_true rfl) ?_
 generalize hP : Tryz.prog = P
 intro A hA
 have C : Tryz.Cx P gl := ⟨hP.symm, hG⟩
 have hI : intsL = A.ints := by subst hA; rfl
 iterate 2 (all_goals try cbv; all_goals with_reducible repeat' first | exact True.intro | refine And.intro ?_ ?_ | intro _)
 all_goals try exact oI
 have e0 : A.rep (A.cast (A.len p)) (.agg [B false, .lst [], I 0, B false, .lst [], I 0]) = cells6 (List.replicate vs.length noV) := by
  subst hA; subst hp
  show List.replicate ((cells6 vs).length : Int).toNat (cell6 noV) = _
  rw [c6len, Int.toNat_natCast, c6rep]
 simp only [e0]
 refine loopT hA [.tree 0 3] (ι := Int × List PV) (fun x => [(3, .own 0), (4, .pv (I x.1))]) (fun x => [(0, .tree 110 6 3 x.2)]) (fun x => (vs.length - x.1).toNat) (fun x => cpI6 vs x.1 x.2) (0, cells6 (List.replicate vs.length noV)) (by rfl) ?_ ?_ ?_ ?_
 all_goals try exact tI
 ·refine ⟨⟨Nat.zero_le _, ?_⟩, True.intro⟩
  intro x hx
  obtain ⟨y, hy, rfl⟩ := List.mem_map.1 hx
  rw [(List.mem_replicate.1 hy).2]; rfl
 ·exact ⟨Int.le_refl _, by omega, by simp⟩
 rintro ⟨i, q⟩ hinv
 simp only at hinv
 have hnext := fun hi => cpI6_next hinv hi
 have hexit := fun hi => cpI6_exit hinv hi
 obtain ⟨hi0, hi1, hq⟩ := id hinv
 clear hinv
 iterate 2 (all_goals try cbv; all_goals with_reducible repeat' first | exact True.intro | refine And.intro ?_ ?_ | intro _)
 all_goals try exact oI
 ·rename_i g
  have gi : i < vs.length := by clear hnext hexit; (subst hA; subst_vars; simp only [AR.std, natCast_eq, sI, reduceCtorEq] at *; try simp (disch := omega) only [AR.std, natCast_eq, sI, reduceCtorEq] at *); omega
  obtain ⟨hyl, hym⟩ := hy _ (getV_mem (show i.toNat < vs.length by omega))
  have h1l : A.gl (A.el p (A.nat i)) 1 = intsL (vs.getD i.toNat noV).1.2.1 := by clear hnext hexit; (subst hA; subst_vars; simp only [AR.std, natCast_eq, sI, reduceCtorEq] at *; try simp (disch := omega) only [AR.std, natCast_eq, sI, reduceCtorEq] at *)
  have h1b : A.gb (A.el p (A.nat i)) 0 = (vs.getD i.toNat noV).1.1 := by clear hnext hexit h1l; (subst hA; subst_vars; simp only [AR.std, natCast_eq, sI, reduceCtorEq] at *; try simp (disch := omega) only [AR.std, natCast_eq, sI, reduceCtorEq] at *)
  have h1e : A.gi (A.el p (A.nat i)) 2 = (vs.getD i.toNat noV).1.2.2 := by clear hnext hexit h1l h1b; (subst hA; subst_vars; simp only [AR.std, natCast_eq, sI, reduceCtorEq] at *; try simp (disch := omega) only [AR.std, natCast_eq, sI, reduceCtorEq] at *)
  have h2l : A.gl (A.el p (A.nat i)) 4 = intsL (vs.getD i.toNat noV).2.2.1 := by clear hnext hexit h1l h1b h1e; (subst hA; subst_vars; simp only [AR.std, natCast_eq, sI, reduceCtorEq] at *; try simp (disch := omega) only [AR.std, natCast_eq, sI, reduceCtorEq] at *)
  have h2b : A.gb (A.el p (A.nat i)) 3 = (vs.getD i.toNat noV).2.1 := by clear hnext hexit h1l h1b h1e h2l; (subst hA; subst_vars; simp only [AR.std, natCast_eq, sI, reduceCtorEq] at *; try simp (disch := omega) only [AR.std, natCast_eq, sI, reduceCtorEq] at *)
  have h2e : A.gi (A.el p (A.nat i)) 5 = (vs.getD i.toNat noV).2.2.2 := by clear hnext hexit h1l h1b h1e h2l h2b; (subst hA; subst_vars; simp only [AR.std, natCast_eq, sI, reduceCtorEq] at *; try simp (disch := omega) only [AR.std, natCast_eq, sI, reduceCtorEq] at *)
  refine callN hA rfl (toIv_fn C h1l h2l hyl hym) ?_; rintro _ _ ⟨rfl, rfl⟩; refine ⟨rfl, ?_⟩
  iterate 2 (all_goals try cbv; all_goals with_reducible repeat' first | exact True.intro | refine And.intro ?_ ?_ | intro _)
  all_goals try exact oI
  ·exact vals_of hA (by simp only [h1l]; exact vals_ints)
  ·exact vals_of hA (by simp only [h2l]; exact vals_ints)
  ·clear h1l h1b h1e h2l h2b h2e
   obtain ⟨y1, hy1⟩ : ∃ y, y = i + 1 := ⟨_, rfl⟩
   obtain ⟨y2, hy2⟩ : ∃ y, y = q.set i.toNat (cell6 (vs.getD i.toNat noV)) := ⟨_, rfl⟩
   refine ⟨⟨(y1, y2), ?_⟩, ?_, ?_⟩
   rotate_left
   ·cbv
    exact nI
   ·(subst hA; subst_vars; simp only [AR.std, natCast_eq, sI, reduceCtorEq] at *; try simp (disch := omega) only [AR.std, natCast_eq, sI, reduceCtorEq] at *); omega
   ·rw [hy1, hy2]; exact hnext gi
 ·have e : q = p := by rw [hexit (by clear hnext hexit; (subst hA; subst_vars; simp only [AR.std, natCast_eq, sI, reduceCtorEq] at *; try simp (disch := omega) only [AR.std, natCast_eq, sI, reduceCtorEq] at *); omega), hp]
  simp only [e]
  subst hA
  exact ⟨[0], _, _, by decide, Nat.zero_le _, rfl, rfl, rfl, rfl, rfl, rfl⟩

theorem toIvS_fn (C : Cx P gl) {vs : List Cell6} {p : List PV} (hp : p = cells6 vs) (hl : vs.length ≤ 2000000) (hy : ∀ v ∈ vs, v.1.2.1.length ≤ 2000000 ∧ v.2.2.1.length ≤ 2000000) :
  FN P gl 52 [.lst p] (fun own r => own = [.tree 110 6 3 p] ∧ r = .own 0) :=
 FN_of (toIvS_fx C hp hl hy) (by rintro _ _ ⟨rfl, rfl⟩; exact ⟨by simp [closedB], rfl⟩)

theorem toIvMat_fx (C : Cx P gl) {vs : List Cell6} {p : List PV} {n : Int} (hp : p = cells6 vs) (hl : vs.length ≤ 2000000) (hy : ∀ v ∈ vs, v.1.2.1.length ≤ 2000000 ∧ v.2.2.1.length ≤ 2000000) :
  FX P gl 11 [] [.pv (.agg [I n, .lst p])] (fun own r => own = [.tree 110 6 3 p] ∧ r = .agg [.pv (I n), .own 0]) := by
 obtain ⟨rfl, hG⟩ := C
 refine FX_ofT (own := fun A => []) (args := fun A => [.pv (.agg [I n, .lst p])]) (R := fun A ow rr => ow = [.tree 110 6 3 p] ∧ rr = .agg [.pv (I n), .own 0]) Tryz.hT Tryz.mix Tryz.func11 rfl rfl (Nat.le_of_ble_eq_true rfl) ?_
 generalize hP : Tryz.prog = P
 intro A hA
 have C : Tryz.Cx P gl := ⟨hP.symm, hG⟩
 have hI : intsL = A.ints := by subst hA; rfl
 iterate 2 (all_goals try cbv; all_goals with_reducible repeat' first | exact True.intro | refine And.intro ?_ ?_ | intro _)
 all_goals try exact oI
 refine callN hA rfl (toIvS_fn C hp hl hy) ?_; rintro _ _ ⟨rfl, rfl⟩; refine ⟨rfl, ?_⟩
 iterate 2 (all_goals try cbv; all_goals with_reducible repeat' first | exact True.intro | refine And.intro ?_ ?_ | intro _)
 all_goals try exact oI
 subst hA
 exact ⟨[3], _, _, by decide, Nat.zero_le _, rfl, rfl, rfl, rfl, rfl, rfl⟩

theorem toIvMat_fn (C : Cx P gl) {vs : List Cell6} {p : List PV} {n : Int} (hp : p = cells6 vs) (hl : vs.length ≤ 2000000) (hy : ∀ v ∈ vs, v.1.2.1.length ≤ 2000000 ∧ v.2.2.1.length ≤ 2000000) :
  FN P gl 11 [.agg [I n, .lst p]] (fun own r => own = [.tree 110 6 3 p] ∧ r = .agg [.pv (I n), .own 0]) :=
 FN_of (toIvMat_fx C hp hl hy) (by rintro _ _ ⟨rfl, rfl⟩; exact ⟨by simp [closedB], rfl⟩)

theorem toIvMat_fs (C : Cx P gl) {vs : List Cell6} {p : List PV} {n : Int} (hp : p = cells6 vs) (hl : vs.length ≤ 2000000) (hy : ∀ v ∈ vs, v.1.2.1.length ≤ 2000000 ∧ v.2.2.1.length ≤ 2000000) :
  FS P gl 11 [.agg [I n, .lst p]] (· = .agg [I n, .lst p]) := FS_ofFN (toIvMat_fn C hp hl hy) (by rintro _ _ ⟨rfl, rfl⟩; rfl)

end Tryz
end Go.Proofs

