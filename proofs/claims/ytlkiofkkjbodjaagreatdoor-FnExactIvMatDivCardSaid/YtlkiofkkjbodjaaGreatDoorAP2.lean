/- Contracts: the law's own helpers on lists of intervals: sizes, equality. -/
import Derived.Test.YtlkiofkkjbodjaaGreatDoorAL2
import Derived.Test.YtlkiofkkjbodjaaGreatDoorAPeTi
set_option maxHeartbeats 1000000
set_option maxRecDepth 100000
namespace Go.Proofs
open Go Go.Pe Go.Dg
namespace Tryz
set_option linter.unusedSimpArgs false
set_option linter.unusedVariables false
variable {P : Program} {gl : List (Nat × Obj)}

theorem szIvS_fs (C : Cx P gl) {vs : List Cell6} {p : List PV} {k r : Int} (hp : p = cells6 vs) (hl : vs.length ≤ 9223372036854775807) (hy : ∀ v ∈ vs, v.1.2.1.length ≤ 9223372036854775807 ∧ v.2.2.1.length ≤ 9223372036854775807) (hk0 : 0 ≤ k) (hk : k ≤ 1048576)
  (hr : r = if (vs.length : Int) + tot6 vs ≤ k then k - vs.length - tot6 vs else -1) : FS P gl 47 [.lst p, I k] (· = I r) := by
 have hr1 : k < vs.length + tot6 vs → r = -1 := fun h => by rw [hr, if_neg (by omega)]
 have hr2 : (vs.length : Int) + tot6 vs ≤ k → r = k - vs.length - tot6 vs := fun h => by rw [hr, if_pos h]
 clear hr
 obtain ⟨rfl, hG⟩ := C
 refine FS_ofT (args := fun A => [.lst p, I k]) (R := fun A rr => rr = I r) Tryz.hT Tryz.mix Tryz.func47 rfl rfl (Nat.le_of_ble_eq_true rfl) ?_
 generalize hP : Tryz.prog = P
 intro A hA
 have C : Tryz.Cx P gl := ⟨hP.symm, hG⟩
 have hI : intsL = A.ints := by subst hA; rfl
 iterate 2 (all_goals try cbv; all_goals with_reducible repeat' first | exact True.intro | refine And.intro ?_ ?_ | intro _)
 all_goals try exact oI
 ·rename_i g
  have g : r = -1 := hr1 (by clear hr1 hr2; (subst hA; subst_vars; simp only [AR.std, natCast_eq, sI, reduceCtorEq] at *; try simp (disch := omega) only [AR.std, natCast_eq, sI, reduceCtorEq] at *); omega)
  rw [g]
 ·rename_i g
  have g0 : (vs.length : Int) ≤ k := by clear hr1 hr2; (subst hA; subst_vars; simp only [AR.std, natCast_eq, sI, reduceCtorEq] at *; try simp (disch := omega) only [AR.std, natCast_eq, sI, reduceCtorEq] at *); omega
  obtain ⟨k1, hk1⟩ : ∃ k1, k1 = k - (vs.length : Int) := ⟨_, rfl⟩
  have e0 : A.sub .i64 k (A.cast (A.len p)) = k1 := by clear hr1 hr2; (subst hA; subst_vars; simp only [AR.std, natCast_eq, sI, reduceCtorEq] at *; try simp (disch := omega) only [AR.std, natCast_eq, sI, reduceCtorEq] at *)
  clear g
  simp only [e0]
  refine loopI hA [] (ι := Int × Int) (fun x => [(1, .pv (I x.2)), (5, .pv (I x.1))]) (fun x => []) (fun x => (vs.length - x.1).toNat) (fun x => szI6 vs k x.1 x.2) (0, k1) (by rfl) ?_ ?_ ?_
  all_goals try exact tI
  ·exact ⟨Int.le_refl _, by omega, by simp [tot6]; omega, by simp only; omega⟩
  rintro ⟨i, q⟩ hinv
  simp only at hinv
  have hnext := fun r2 hi => @szI6_next vs k i q r2 hinv hi
  have hfail := fun r2 hi => @szI6_fail vs k i q r2 hinv hi
  have hexit := fun hi => szI6_exit hinv hi
  obtain ⟨hi0, hi1, hq, hq0⟩ := id hinv
  clear hinv
  have hqk : q ≤ k := by omega
  clear hq
  iterate 2 (all_goals try cbv; all_goals with_reducible repeat' first | exact True.intro | refine And.intro ?_ ?_ | intro _)
  all_goals try exact oI
  ·rename_i g
   have gi : i < vs.length := by clear hnext hfail hexit hr1 hr2; (subst hA; subst_vars; simp only [AR.std, natCast_eq, sI, reduceCtorEq] at *; try simp (disch := omega) only [AR.std, natCast_eq, sI, reduceCtorEq] at *); omega
   obtain ⟨hyl, hym⟩ := hy _ (getV_mem (show i.toNat < vs.length by omega))
   have h1l : A.gl (A.el p (A.nat i)) 1 = intsL (vs.getD i.toNat noV).1.2.1 := by clear hnext hfail hexit hr1 hr2; (subst hA; subst_vars; simp only [AR.std, natCast_eq, sI, reduceCtorEq] at *; try simp (disch := omega) only [AR.std, natCast_eq, sI, reduceCtorEq] at *)
   have h1b : A.gb (A.el p (A.nat i)) 0 = (vs.getD i.toNat noV).1.1 := by clear hnext hfail hexit hr1 hr2 h1l; (subst hA; subst_vars; simp only [AR.std, natCast_eq, sI, reduceCtorEq] at *; try simp (disch := omega) only [AR.std, natCast_eq, sI, reduceCtorEq] at *)
   have h1e : A.gi (A.el p (A.nat i)) 2 = (vs.getD i.toNat noV).1.2.2 := by clear hnext hfail hexit hr1 hr2 h1l h1b; (subst hA; subst_vars; simp only [AR.std, natCast_eq, sI, reduceCtorEq] at *; try simp (disch := omega) only [AR.std, natCast_eq, sI, reduceCtorEq] at *)
   have h2l : A.gl (A.el p (A.nat i)) 4 = intsL (vs.getD i.toNat noV).2.2.1 := by clear hnext hfail hexit hr1 hr2 h1l h1b h1e; (subst hA; subst_vars; simp only [AR.std, natCast_eq, sI, reduceCtorEq] at *; try simp (disch := omega) only [AR.std, natCast_eq, sI, reduceCtorEq] at *)
   have h2b : A.gb (A.el p (A.nat i)) 3 = (vs.getD i.toNat noV).2.1 := by clear hnext hfail hexit hr1 hr2 h1l h1b h1e h2l; (subst hA; subst_vars; simp only [AR.std, natCast_eq, sI, reduceCtorEq] at *; try simp (disch := omega) only [AR.std, natCast_eq, sI, reduceCtorEq] at *)
   have h2e : A.gi (A.el p (A.nat i)) 5 = (vs.getD i.toNat noV).2.2.2 := by clear hnext hfail hexit hr1 hr2 h1l h1b h1e h2l h2b; (subst hA; subst_vars; simp only [AR.std, natCast_eq, sI, reduceCtorEq] at *; try simp (disch := omega) only [AR.std, natCast_eq, sI, reduceCtorEq] at *)
   obtain ⟨r2, hr2'⟩ : ∃ r2 : Int, r2 = if (dig6 (vs.getD i.toNat noV) : Int) ≤ q then q - dig6 (vs.getD i.toNat noV) else -1 := ⟨_, rfl⟩
   refine callS hA rfl (szIv_fs C (r := r2) h1l h2l hyl hym hq0 (by omega) (by rw [hr2']; unfold dig6; split <;> split <;> omega)) ?_; rintro _ rfl
   have hn2 := hnext r2 gi hr2'
   have hf2 := hfail r2 gi hr2'
   clear hr2' h1l h1b h1e h2l h2b h2e
   iterate 2 (all_goals try cbv; all_goals with_reducible repeat' first | exact True.intro | refine And.intro ?_ ?_ | intro _)
   all_goals try exact oI
   ·rename_i g2
    have g3 : r2 < 0 := by clear hnext hfail hexit hr1 hr2 hn2 hf2; (subst hA; subst_vars; simp only [AR.std, natCast_eq, sI, reduceCtorEq] at *; try simp (disch := omega) only [AR.std, natCast_eq, sI, reduceCtorEq] at *); omega
    have e : r = -1 := hr1 (hf2 g3)
    rw [e]
   ·rename_i g2
    have g3 : 0 ≤ r2 := by clear hnext hfail hexit hr1 hr2 hn2 hf2; (subst hA; subst_vars; simp only [AR.std, natCast_eq, sI, reduceCtorEq] at *; try simp (disch := omega) only [AR.std, natCast_eq, sI, reduceCtorEq] at *); omega
    have hn3 := hn2 g3
    clear hnext hfail hexit hr1 hr2 hn2 hf2
    obtain ⟨y1, hy1⟩ : ∃ y, y = i + 1 := ⟨_, rfl⟩
    obtain ⟨y2, hy2⟩ : ∃ y, y = r2 := ⟨_, rfl⟩
    refine ⟨⟨(y1, y2), ?_⟩, ?_, ?_⟩
    rotate_left
    ·cbv
     exact nI
    ·(subst hA; subst_vars; simp only [AR.std, natCast_eq, sI, reduceCtorEq] at *; try simp (disch := omega) only [AR.std, natCast_eq, sI, reduceCtorEq] at *); omega
    ·rw [hy1, hy2]; exact hn3
  ·rename_i g
   have gi : vs.length ≤ i := by clear hnext hfail hexit hr1 hr2; (subst hA; subst_vars; simp only [AR.std, natCast_eq, sI, reduceCtorEq] at *; try simp (disch := omega) only [AR.std, natCast_eq, sI, reduceCtorEq] at *); omega
   obtain ⟨e1, e2⟩ := hexit gi
   have e : q = r := by rw [hr2 (by omega)]; exact e1
   rw [e]

theorem szIvMat_fs (C : Cx P gl) {vs : List Cell6} {p : List PV} {k r n : Int} (hp : p = cells6 vs) (hl : vs.length ≤ 9223372036854775807) (hy : ∀ v ∈ vs, v.1.2.1.length ≤ 9223372036854775807 ∧ v.2.2.1.length ≤ 9223372036854775807) (hk0 : 0 ≤ k) (hk : k ≤ 1048576)
  (hr : r = if (vs.length : Int) + tot6 vs ≤ k then k - vs.length - tot6 vs else -1) : FS P gl 9 [.agg [I n, .lst p], I k] (· = I r) := by
 have hr2 : -1 ≤ r := by rw [hr]; split <;> omega
 obtain ⟨rfl, hG⟩ := C
 refine FS_ofT (args := fun A => [.agg [I n, .lst p], I k]) (R := fun A rr => rr = I r) Tryz.hT Tryz.mix Tryz.func9 rfl rfl (Nat.le_of_ble_eq_true rfl) ?_
 generalize hP : Tryz.prog = P
 intro A hA
 have C : Tryz.Cx P gl := ⟨hP.symm, hG⟩
 have hI : intsL = A.ints := by subst hA; rfl
 iterate 2 (all_goals try cbv; all_goals with_reducible repeat' first | exact True.intro | refine And.intro ?_ ?_ | intro _)
 all_goals try exact oI
 refine callS hA rfl (szIvS_fs C hp hl hy hk0 hk hr) ?_; rintro _ rfl
 clear hr
 iterate 2 (all_goals try cbv; all_goals with_reducible repeat' first | exact True.intro | refine And.intro ?_ ?_ | intro _)
 all_goals try exact oI
 rename_i g
 have g : r = -1 := by (subst hA; subst_vars; simp only [AR.std, natCast_eq, sI, reduceCtorEq] at *; try simp (disch := omega) only [AR.std, natCast_eq, sI, reduceCtorEq] at *); omega
 rw [g]

theorem eqIvS_fs (C : Cx P gl) {vs : List Cell6} {p : List PV} (hp : p = cells6 vs) (hl : vs.length ≤ 2000000) (hy : ∀ v ∈ vs, v.1.2.1.length ≤ 2000000 ∧ v.2.2.1.length ≤ 2000000) : FS P gl 26 [.lst p, .lst p] (· = B true) := by
 obtain ⟨rfl, hG⟩ := C
 refine FS_ofT (args := fun A => [.lst p, .lst p]) (R := fun A rr => rr = B true) Tryz.hT Tryz.mix Tryz.func26 rfl rfl (Nat.le_of_ble_eq_true rfl) ?_
 generalize hP : Tryz.prog = P
 intro A hA
 have C : Tryz.Cx P gl := ⟨hP.symm, hG⟩
 have hI : intsL = A.ints := by subst hA; rfl
 iterate 2 (all_goals try cbv; all_goals with_reducible repeat' first | exact True.intro | refine And.intro ?_ ?_ | intro _)
 all_goals try exact oI
 refine loopI hA [] (ι := Int) (fun x => [(5, .pv (I x))]) (fun x => []) (fun x => (vs.length - x).toNat) (fun x => 0 ≤ x ∧ x ≤ vs.length) 0 (by rfl) ?_ ?_ ?_
 all_goals try exact tI
 ·omega
 rintro i ⟨hi0, hi1⟩
 iterate 2 (all_goals try cbv; all_goals with_reducible repeat' first | exact True.intro | refine And.intro ?_ ?_ | intro _)
 all_goals try exact oI
 ·rename_i g
  have gi : i < vs.length := by (subst hA; subst_vars; simp only [AR.std, natCast_eq, sI, reduceCtorEq] at *; try simp (disch := omega) only [AR.std, natCast_eq, sI, reduceCtorEq] at *); omega
  obtain ⟨hyl, hym⟩ := hy _ (getV_mem (show i.toNat < vs.length by omega))
  have h1l : A.gl (A.el p (A.nat i)) 1 = intsL (vs.getD i.toNat noV).1.2.1 := by (subst hA; subst_vars; simp only [AR.std, natCast_eq, sI, reduceCtorEq] at *; try simp (disch := omega) only [AR.std, natCast_eq, sI, reduceCtorEq] at *)
  have h1b : A.gb (A.el p (A.nat i)) 0 = (vs.getD i.toNat noV).1.1 := by clear h1l; (subst hA; subst_vars; simp only [AR.std, natCast_eq, sI, reduceCtorEq] at *; try simp (disch := omega) only [AR.std, natCast_eq, sI, reduceCtorEq] at *)
  have h1e : A.gi (A.el p (A.nat i)) 2 = (vs.getD i.toNat noV).1.2.2 := by clear h1l h1b; (subst hA; subst_vars; simp only [AR.std, natCast_eq, sI, reduceCtorEq] at *; try simp (disch := omega) only [AR.std, natCast_eq, sI, reduceCtorEq] at *)
  have h2l : A.gl (A.el p (A.nat i)) 4 = intsL (vs.getD i.toNat noV).2.2.1 := by clear h1l h1b h1e; (subst hA; subst_vars; simp only [AR.std, natCast_eq, sI, reduceCtorEq] at *; try simp (disch := omega) only [AR.std, natCast_eq, sI, reduceCtorEq] at *)
  have h2b : A.gb (A.el p (A.nat i)) 3 = (vs.getD i.toNat noV).2.1 := by clear h1l h1b h1e h2l; (subst hA; subst_vars; simp only [AR.std, natCast_eq, sI, reduceCtorEq] at *; try simp (disch := omega) only [AR.std, natCast_eq, sI, reduceCtorEq] at *)
  have h2e : A.gi (A.el p (A.nat i)) 5 = (vs.getD i.toNat noV).2.2.2 := by clear h1l h1b h1e h2l h2b; (subst hA; subst_vars; simp only [AR.std, natCast_eq, sI, reduceCtorEq] at *; try simp (disch := omega) only [AR.std, natCast_eq, sI, reduceCtorEq] at *)
  refine callS hA rfl (eqIv_fs C h1l h2l hyl hym) ?_; rintro _ rfl
  clear h1l h1b h1e h2l h2b h2e
  iterate 2 (all_goals try cbv; all_goals with_reducible repeat' first | exact True.intro | refine And.intro ?_ ?_ | intro _)
  all_goals try exact oI
  obtain ⟨y1, hy1⟩ : ∃ y, y = i + 1 := ⟨_, rfl⟩
  refine ⟨⟨y1, ?_⟩, ?_, ?_⟩
  rotate_left
  ·cbv
   exact nI
  ·(subst hA; subst_vars; simp only [AR.std, natCast_eq, sI, reduceCtorEq] at *; try simp (disch := omega) only [AR.std, natCast_eq, sI, reduceCtorEq] at *); omega
  ·rw [hy1]; (subst hA; subst_vars; simp only [AR.std, natCast_eq, sI, reduceCtorEq] at *; try simp (disch := omega) only [AR.std, natCast_eq, sI, reduceCtorEq] at *); omega

theorem eqIvMat_fs (C : Cx P gl) {vs : List Cell6} {p : List PV} {n : Int} (hp : p = cells6 vs) (hl : vs.length ≤ 2000000) (hy : ∀ v ∈ vs, v.1.2.1.length ≤ 2000000 ∧ v.2.2.1.length ≤ 2000000) : FS P gl 13 [.agg [I n, .lst p], .agg [I n, .lst p]] (· = B true) := by
 obtain ⟨rfl, hG⟩ := C
 refine FS_ofT (args := fun A => [.agg [I n, .lst p], .agg [I n, .lst p]]) (R := fun A rr => rr = B true) Tryz.hT Tryz.mix Tryz.func13 rfl rfl (Nat.le_of_ble_eq_true rfl) ?_
 generalize hP : Tryz.prog = P
 intro A hA
 have C : Tryz.Cx P gl := ⟨hP.symm, hG⟩
 have hI : intsL = A.ints := by subst hA; rfl
 iterate 2 (all_goals try cbv; all_goals with_reducible repeat' first | exact True.intro | refine And.intro ?_ ?_ | intro _)
 all_goals try exact oI
 refine callS hA rfl (eqIvS_fs C hp hl hy) ?_; rintro _ rfl
 iterate 2 (all_goals try cbv; all_goals with_reducible repeat' first | exact True.intro | refine And.intro ?_ ?_ | intro _)
 all_goals try exact oI

end Tryz
end Go.Proofs
