/- Contracts: the law's own helpers on lists of dyadic numbers: copies as trees of one's own. -/
import Derived.Test.YthmkdfmapdbenaaGreatDoorCL1
import Derived.Test.YthmkdfmapdbenaaGreatDoorCEvD
namespace Go.Proofs
open Go Go.Pe Go.Dg
namespace Tryz
set_option linter.unusedSimpArgs false
set_option linter.unusedVariables false
variable {P : Program} {gl : List (Nat × Obj)}

set_option maxHeartbeats 1000000 in
set_option maxRecDepth 100000 in
theorem toDyS_fx (C : Cx P gl) {ys : List Cell3} {p : List PV} (hp : p = cells3 ys) (hl : ys.length ≤ 2000000) (hy : ∀ y ∈ ys, y.2.1.length ≤ 2000000) :
    FX P gl 45 [] [.pv (.lst p)] (fun own r => own = [.tree 41 3 3 p] ∧ r = .own 0) := by
  obtain ⟨rfl, hG⟩ := C
  refine FX_ofT (own := fun A => []) (args := fun A => [.pv (.lst p)]) (R := fun A ow rr => ow = [.tree 41 3 3 p] ∧ rr = .own 0) Tryz.hT Tryz.mix Tryz.func45 rfl rfl (Nat.le_of_ble_eq_true rfl) ?_
  generalize hP : Tryz.prog = P
  intro A hA
  have C : Tryz.Cx P gl := ⟨hP.symm, hG⟩
  have hI : intsL = A.ints := by subst hA; rfl
  iterate 2 (all_goals try cbv; all_goals repeat' (first | with_reducible exact True.intro | with_reducible refine And.intro ?_ ?_ | intro _))
  all_goals try exact oG
  have e0 : A.rep (A.cast (A.len p)) (.agg [B false, .lst [], I 0]) = cells3 (List.replicate ys.length noY) := by
    subst hA; subst hp
    show List.replicate ((cells3 ys).length : Int).toNat (cell3 noY) = _
    rw [c3len, Int.toNat_natCast, c3rep]
  simp only [e0]
  refine loopT hA [.tree 0 3] (ι := Int × List PV) (fun x => [(3, .own 0), (4, .pv (I x.1))]) (fun x => [(0, .tree 41 3 3 x.2)]) (fun x => (ys.length - x.1).toNat) (fun x => cpI3 ys x.1 x.2) (0, cells3 (List.replicate ys.length noY)) (by rfl) ?_ ?_ ?_ ?_
  all_goals try exact tG
  · refine ⟨⟨Nat.zero_le _, ?_⟩, True.intro⟩
    intro x hx
    obtain ⟨y, hy, rfl⟩ := List.mem_map.1 hx
    rw [(List.mem_replicate.1 hy).2]; rfl
  · exact ⟨Int.le_refl _, by omega, by simp⟩
  rintro ⟨i, q⟩ hinv
  simp only at hinv
  have hnext := fun hi => cpI3_next hinv hi
  have hexit := fun hi => cpI3_exit hinv hi
  obtain ⟨hi0, hi1, hq⟩ := id hinv
  clear hinv
  iterate 2 (all_goals try cbv; all_goals repeat' (first | with_reducible exact True.intro | with_reducible refine And.intro ?_ ?_ | intro _))
  all_goals try exact oG
  · rename_i g
    have gi : i < ys.length := by clear hnext hexit; (subst hA; subst_vars; simp only [AR.std, natCast_eq, sG, reduceCtorEq] at *; try simp (disch := omega) only [AR.std, natCast_eq, sG, reduceCtorEq] at *); omega
    have hyl := hy _ (getY_mem (show i.toNat < ys.length by omega))
    have hgl : A.gl (A.el p (A.nat i)) 1 = intsL (ys.getD i.toNat noY).2.1 := by clear hnext hexit; (subst hA; subst_vars; simp only [AR.std, natCast_eq, sG, reduceCtorEq] at *; try simp (disch := omega) only [AR.std, natCast_eq, sG, reduceCtorEq] at *)
    have hgb : A.gb (A.el p (A.nat i)) 0 = (ys.getD i.toNat noY).1 := by clear hnext hexit hgl; (subst hA; subst_vars; simp only [AR.std, natCast_eq, sG, reduceCtorEq] at *; try simp (disch := omega) only [AR.std, natCast_eq, sG, reduceCtorEq] at *)
    have hge : A.gi (A.el p (A.nat i)) 2 = (ys.getD i.toNat noY).2.2 := by clear hnext hexit hgl hgb; (subst hA; subst_vars; simp only [AR.std, natCast_eq, sG, reduceCtorEq] at *; try simp (disch := omega) only [AR.std, natCast_eq, sG, reduceCtorEq] at *)
    refine callN hA rfl (toDy_fn C hgl hyl) ?_; rintro _ _ ⟨rfl, rfl⟩; refine ⟨rfl, ?_⟩
    iterate 2 (all_goals try cbv; all_goals repeat' (first | with_reducible exact True.intro | with_reducible refine And.intro ?_ ?_ | intro _))
    all_goals try exact oG
    · exact vals_of hA (by simp only [hgl]; exact vals_ints)
    · clear hgl hgb hge
      obtain ⟨y1, hy1⟩ : ∃ y, y = i + 1 := ⟨_, rfl⟩
      obtain ⟨y2, hy2⟩ : ∃ y, y = q.set i.toNat (cell3 (ys.getD i.toNat noY)) := ⟨_, rfl⟩
      refine ⟨⟨(y1, y2), ?_⟩, ?_, ?_⟩
      rotate_left
      · cbv
        exact nG
      · (subst hA; subst_vars; simp only [AR.std, natCast_eq, sG, reduceCtorEq] at *; try simp (disch := omega) only [AR.std, natCast_eq, sG, reduceCtorEq] at *); omega
      · rw [hy1, hy2]; exact hnext gi
  · have e : q = p := by rw [hexit (by clear hnext hexit; (subst hA; subst_vars; simp only [AR.std, natCast_eq, sG, reduceCtorEq] at *; try simp (disch := omega) only [AR.std, natCast_eq, sG, reduceCtorEq] at *); omega), hp]
    simp only [e]
    subst hA
    exact ⟨[0], _, _, by decide, Nat.zero_le _, rfl, rfl, rfl, rfl, rfl, rfl⟩

theorem toDyS_fn (C : Cx P gl) {ys : List Cell3} {p : List PV} (hp : p = cells3 ys) (hl : ys.length ≤ 2000000) (hy : ∀ y ∈ ys, y.2.1.length ≤ 2000000) :
    FN P gl 45 [.lst p] (fun own r => own = [.tree 41 3 3 p] ∧ r = .own 0) :=
  FN_of (toDyS_fx C hp hl hy) (by rintro _ _ ⟨rfl, rfl⟩; exact ⟨by simp [closedB], rfl⟩)

set_option maxHeartbeats 1000000 in
set_option maxRecDepth 100000 in
theorem toMat_fx (C : Cx P gl) {ys : List Cell3} {p : List PV} {n : Int} (hp : p = cells3 ys) (hl : ys.length ≤ 2000000) (hy : ∀ y ∈ ys, y.2.1.length ≤ 2000000) :
    FX P gl 16 [] [.pv (.agg [I n, .lst p])] (fun own r => own = [.tree 41 3 3 p] ∧ r = .agg [.pv (I n), .own 0]) := by
  obtain ⟨rfl, hG⟩ := C
  refine FX_ofT (own := fun A => []) (args := fun A => [.pv (.agg [I n, .lst p])]) (R := fun A ow rr => ow = [.tree 41 3 3 p] ∧ rr = .agg [.pv (I n), .own 0]) Tryz.hT Tryz.mix Tryz.func16 rfl rfl (Nat.le_of_ble_eq_true rfl) ?_
  generalize hP : Tryz.prog = P
  intro A hA
  have C : Tryz.Cx P gl := ⟨hP.symm, hG⟩
  have hI : intsL = A.ints := by subst hA; rfl
  iterate 2 (all_goals try cbv; all_goals repeat' (first | with_reducible exact True.intro | with_reducible refine And.intro ?_ ?_ | intro _))
  all_goals try exact oG
  refine callN hA rfl (toDyS_fn C hp hl hy) ?_; rintro _ _ ⟨rfl, rfl⟩; refine ⟨rfl, ?_⟩
  iterate 2 (all_goals try cbv; all_goals repeat' (first | with_reducible exact True.intro | with_reducible refine And.intro ?_ ?_ | intro _))
  all_goals try exact oG
  subst hA
  exact ⟨[3], _, _, by decide, Nat.zero_le _, rfl, rfl, rfl, rfl, rfl, rfl⟩

theorem toMat_fn (C : Cx P gl) {ys : List Cell3} {p : List PV} {n : Int} (hp : p = cells3 ys) (hl : ys.length ≤ 2000000) (hy : ∀ y ∈ ys, y.2.1.length ≤ 2000000) :
    FN P gl 16 [.agg [I n, .lst p]] (fun own r => own = [.tree 41 3 3 p] ∧ r = .agg [.pv (I n), .own 0]) :=
  FN_of (toMat_fx C hp hl hy) (by rintro _ _ ⟨rfl, rfl⟩; exact ⟨by simp [closedB], rfl⟩)

theorem toDyS_fs (C : Cx P gl) {ys : List Cell3} {p : List PV} (hp : p = cells3 ys) (hl : ys.length ≤ 2000000) (hy : ∀ y ∈ ys, y.2.1.length ≤ 2000000) :
    FS P gl 45 [.lst p] (· = .lst p) := FS_ofFN (toDyS_fn C hp hl hy) (by rintro _ _ ⟨rfl, rfl⟩; rfl)

theorem toMat_fs (C : Cx P gl) {ys : List Cell3} {p : List PV} {n : Int} (hp : p = cells3 ys) (hl : ys.length ≤ 2000000) (hy : ∀ y ∈ ys, y.2.1.length ≤ 2000000) :
    FS P gl 16 [.agg [I n, .lst p]] (· = .agg [I n, .lst p]) := FS_ofFN (toMat_fn C hp hl hy) (by rintro _ _ ⟨rfl, rfl⟩; rfl)

end Tryz
end Go.Proofs
