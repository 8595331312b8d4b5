/- Contracts: the law's own helpers on lists of intervals: copies as trees of one's own. -/
import Derived.Test.YtcbagjglchpagaaGreatDoorML1
import Derived.Test.YtcbagjglchpagaaGreatDoorMPeTm
namespace Go.Proofs
open Go Go.Pe Go.Dg
namespace Tryz
set_option linter.unusedSimpArgs false
set_option linter.unusedVariables false
variable {P : Program} {gl : List (Nat × Obj)}

set_option maxHeartbeats 1000000 in
set_option maxRecDepth 100000 in
theorem toIvS_fx (C : Cx P gl) {vs : List Cell6} {p : List PV} (hp : p = cells6 vs) (hl : vs.length ≤ 2000000) (hy : ∀ v ∈ vs, v.1.2.1.length ≤ 2000000 ∧ v.2.2.1.length ≤ 2000000) :
    FX P gl 66 [] [.pv (.lst p)] (fun own r => own = [.tree 38 6 3 p] ∧ r = .own 0) := by
  obtain ⟨rfl, hG⟩ := C
  refine FX_ofT (own := fun A => []) (args := fun A => [.pv (.lst p)]) (R := fun A ow rr => ow = [.tree 38 6 3 p] ∧ rr = .own 0) Tryz.hT Tryz.mix Tryz.func66 rfl rfl (Nat.le_of_ble_eq_true rfl) ?_
  generalize hP : Tryz.prog = P
  intro A hA
  have C : Tryz.Cx P gl := ⟨hP.symm, hG⟩
  have hI : intsL = A.ints := by subst hA; rfl
  iterate 2 (all_goals try cbv; all_goals repeat' (first | with_reducible exact True.intro | with_reducible refine And.intro ?_ ?_ | intro _))
  all_goals try exact oI
  have e0 : A.rep (A.cast (A.len p)) (.agg [B false, .lst [], I 0, B false, .lst [], I 0]) = cells6 (List.replicate vs.length noV) := by
    subst hA; subst hp
    show List.replicate ((cells6 vs).length : Int).toNat (cell6 noV) = _
    rw [c6len, Int.toNat_natCast, c6rep]
  simp only [e0]
  refine loopT hA [.tree 0 3] (ι := Int × List PV) (fun x => [(3, .own 0), (4, .pv (I x.1))]) (fun x => [(0, .tree 38 6 3 x.2)]) (fun x => (vs.length - x.1).toNat) (fun x => cpI6 vs x.1 x.2) (0, cells6 (List.replicate vs.length noV)) (by rfl) ?_ ?_ ?_ ?_
  all_goals try exact tI
  · refine ⟨⟨Nat.zero_le _, ?_⟩, True.intro⟩
    intro x hx
    obtain ⟨y, hy, rfl⟩ := List.mem_map.1 hx
    rw [(List.mem_replicate.1 hy).2]; rfl
  · exact ⟨Int.le_refl _, by omega, by simp⟩
  rintro ⟨i, q⟩ hinv
  simp only at hinv
  have hnext := fun hi => cpI6_next hinv hi
  have hexit := fun hi => cpI6_exit hinv hi
  obtain ⟨hi0, hi1, hq⟩ := id hinv
  clear hinv
  iterate 2 (all_goals try cbv; all_goals repeat' (first | with_reducible exact True.intro | with_reducible refine And.intro ?_ ?_ | intro _))
  all_goals try exact oI
  · rename_i g
    have gi : i < vs.length := by clear hnext hexit; (subst hA; subst_vars; simp only [AR.std, natCast_eq, sI, reduceCtorEq] at *; try simp (disch := omega) only [AR.std, natCast_eq, sI, reduceCtorEq] at *); omega
    obtain ⟨hyl, hym⟩ := hy _ (getV_mem (show i.toNat < vs.length by omega))
    have h1l : A.gl (A.el p (A.nat i)) 1 = intsL (vs.getD i.toNat noV).1.2.1 := by clear hnext hexit; (subst hA; subst_vars; simp only [AR.std, natCast_eq, sI, reduceCtorEq] at *; try simp (disch := omega) only [AR.std, natCast_eq, sI, reduceCtorEq] at *)
    have h1b : A.gb (A.el p (A.nat i)) 0 = (vs.getD i.toNat noV).1.1 := by clear hnext hexit h1l; (subst hA; subst_vars; simp only [AR.std, natCast_eq, sI, reduceCtorEq] at *; try simp (disch := omega) only [AR.std, natCast_eq, sI, reduceCtorEq] at *)
    have h1e : A.gi (A.el p (A.nat i)) 2 = (vs.getD i.toNat noV).1.2.2 := by clear hnext hexit h1l h1b; (subst hA; subst_vars; simp only [AR.std, natCast_eq, sI, reduceCtorEq] at *; try simp (disch := omega) only [AR.std, natCast_eq, sI, reduceCtorEq] at *)
    have h2l : A.gl (A.el p (A.nat i)) 4 = intsL (vs.getD i.toNat noV).2.2.1 := by clear hnext hexit h1l h1b h1e; (subst hA; subst_vars; simp only [AR.std, natCast_eq, sI, reduceCtorEq] at *; try simp (disch := omega) only [AR.std, natCast_eq, sI, reduceCtorEq] at *)
    have h2b : A.gb (A.el p (A.nat i)) 3 = (vs.getD i.toNat noV).2.1 := by clear hnext hexit h1l h1b h1e h2l; (subst hA; subst_vars; simp only [AR.std, natCast_eq, sI, reduceCtorEq] at *; try simp (disch := omega) only [AR.std, natCast_eq, sI, reduceCtorEq] at *)
    have h2e : A.gi (A.el p (A.nat i)) 5 = (vs.getD i.toNat noV).2.2.2 := by clear hnext hexit h1l h1b h1e h2l h2b; (subst hA; subst_vars; simp only [AR.std, natCast_eq, sI, reduceCtorEq] at *; try simp (disch := omega) only [AR.std, natCast_eq, sI, reduceCtorEq] at *)
    refine callN hA rfl (toIv_fn C h1l h2l hyl hym) ?_; rintro _ _ ⟨rfl, rfl⟩; refine ⟨rfl, ?_⟩
    iterate 2 (all_goals try cbv; all_goals repeat' (first | with_reducible exact True.intro | with_reducible refine And.intro ?_ ?_ | intro _))
    all_goals try exact oI
    · exact vals_of hA (by simp only [h1l]; exact vals_ints)
    · exact vals_of hA (by simp only [h2l]; exact vals_ints)
    · clear h1l h1b h1e h2l h2b h2e
      obtain ⟨y1, hy1⟩ : ∃ y, y = i + 1 := ⟨_, rfl⟩
      obtain ⟨y2, hy2⟩ : ∃ y, y = q.set i.toNat (cell6 (vs.getD i.toNat noV)) := ⟨_, rfl⟩
      refine ⟨⟨(y1, y2), ?_⟩, ?_, ?_⟩
      rotate_left
      · cbv
        exact nI
      · (subst hA; subst_vars; simp only [AR.std, natCast_eq, sI, reduceCtorEq] at *; try simp (disch := omega) only [AR.std, natCast_eq, sI, reduceCtorEq] at *); omega
      · rw [hy1, hy2]; exact hnext gi
  · have e : q = p := by rw [hexit (by clear hnext hexit; (subst hA; subst_vars; simp only [AR.std, natCast_eq, sI, reduceCtorEq] at *; try simp (disch := omega) only [AR.std, natCast_eq, sI, reduceCtorEq] at *); omega), hp]
    simp only [e]
    subst hA
    exact ⟨[0], _, _, by decide, Nat.zero_le _, rfl, rfl, rfl, rfl, rfl, rfl⟩

theorem toIvS_fn (C : Cx P gl) {vs : List Cell6} {p : List PV} (hp : p = cells6 vs) (hl : vs.length ≤ 2000000) (hy : ∀ v ∈ vs, v.1.2.1.length ≤ 2000000 ∧ v.2.2.1.length ≤ 2000000) :
    FN P gl 66 [.lst p] (fun own r => own = [.tree 38 6 3 p] ∧ r = .own 0) :=
  FN_of (toIvS_fx C hp hl hy) (by rintro _ _ ⟨rfl, rfl⟩; exact ⟨by simp [closedB], rfl⟩)

set_option maxHeartbeats 1000000 in
set_option maxRecDepth 100000 in
theorem toIvMat_fx (C : Cx P gl) {vs : List Cell6} {p : List PV} {n : Int} (hp : p = cells6 vs) (hl : vs.length ≤ 2000000) (hy : ∀ v ∈ vs, v.1.2.1.length ≤ 2000000 ∧ v.2.2.1.length ≤ 2000000) :
    FX P gl 24 [] [.pv (.agg [I n, .lst p])] (fun own r => own = [.tree 38 6 3 p] ∧ r = .agg [.pv (I n), .own 0]) := by
  obtain ⟨rfl, hG⟩ := C
  refine FX_ofT (own := fun A => []) (args := fun A => [.pv (.agg [I n, .lst p])]) (R := fun A ow rr => ow = [.tree 38 6 3 p] ∧ rr = .agg [.pv (I n), .own 0]) Tryz.hT Tryz.mix Tryz.func24 rfl rfl (Nat.le_of_ble_eq_true rfl) ?_
  generalize hP : Tryz.prog = P
  intro A hA
  have C : Tryz.Cx P gl := ⟨hP.symm, hG⟩
  have hI : intsL = A.ints := by subst hA; rfl
  iterate 2 (all_goals try cbv; all_goals repeat' (first | with_reducible exact True.intro | with_reducible refine And.intro ?_ ?_ | intro _))
  all_goals try exact oI
  refine callN hA rfl (toIvS_fn C hp hl hy) ?_; rintro _ _ ⟨rfl, rfl⟩; refine ⟨rfl, ?_⟩
  iterate 2 (all_goals try cbv; all_goals repeat' (first | with_reducible exact True.intro | with_reducible refine And.intro ?_ ?_ | intro _))
  all_goals try exact oI
  subst hA
  exact ⟨[3], _, _, by decide, Nat.zero_le _, rfl, rfl, rfl, rfl, rfl, rfl⟩

theorem toIvMat_fn (C : Cx P gl) {vs : List Cell6} {p : List PV} {n : Int} (hp : p = cells6 vs) (hl : vs.length ≤ 2000000) (hy : ∀ v ∈ vs, v.1.2.1.length ≤ 2000000 ∧ v.2.2.1.length ≤ 2000000) :
    FN P gl 24 [.agg [I n, .lst p]] (fun own r => own = [.tree 38 6 3 p] ∧ r = .agg [.pv (I n), .own 0]) :=
  FN_of (toIvMat_fx C hp hl hy) (by rintro _ _ ⟨rfl, rfl⟩; exact ⟨by simp [closedB], rfl⟩)

theorem toIvMat_fs (C : Cx P gl) {vs : List Cell6} {p : List PV} {n : Int} (hp : p = cells6 vs) (hl : vs.length ≤ 2000000) (hy : ∀ v ∈ vs, v.1.2.1.length ≤ 2000000 ∧ v.2.2.1.length ≤ 2000000) :
    FS P gl 24 [.agg [I n, .lst p]] (· = .agg [I n, .lst p]) := FS_ofFN (toIvMat_fn C hp hl hy) (by rintro _ _ ⟨rfl, rfl⟩; rfl)

end Tryz
end Go.Proofs
