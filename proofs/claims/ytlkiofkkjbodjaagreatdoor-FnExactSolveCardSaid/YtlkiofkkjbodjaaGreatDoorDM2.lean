/- Contracts: the law's own helpers on lists of dyadic numbers: sizes, equality. -/
import Derived.Test.YtlkiofkkjbodjaaGreatDoorDL2
import Derived.Test.YtlkiofkkjbodjaaGreatDoorDEvD
set_option maxHeartbeats 1000000
set_option maxRecDepth 100000
namespace Go.Proofs
open Go Go.Pe Go.Dg
namespace Tryz
set_option linter.unusedSimpArgs false
set_option linter.unusedVariables false
variable {P : Program} {gl : List (Nat × Obj)}

theorem szI3_next {ys : List Cell3} {k i r r2 : Int} (h : szI3 ys k i r) (hi : i < ys.length) (h2 : r2 = if ((ys.getD i.toNat noY).2.1.length : Int) ≤ r then r - (ys.getD i.toNat noY).2.1.length else -1) (h3 : 0 ≤ r2) : szI3 ys k (i + 1) r2 := by
 obtain ⟨a, b, c, d⟩ := h
 have := tot_take_succ (show i.toNat < ys.length by omega)
 refine ⟨by omega, by omega, ?_, h3⟩
 rw [show (i + 1).toNat = i.toNat + 1 by omega, this, h2]
 split <;> omega

theorem szI3_fail {ys : List Cell3} {k i r r2 : Int} (h : szI3 ys k i r) (hi : i < ys.length) (h2 : r2 = if ((ys.getD i.toNat noY).2.1.length : Int) ≤ r then r - (ys.getD i.toNat noY).2.1.length else -1) (h3 : r2 < 0) : k < ys.length + tot ys := by
 obtain ⟨a, b, c, d⟩ := h
 have := tot_get (show i.toNat < ys.length by omega)
 have h4 : r < (ys.getD i.toNat noY).2.1.length := by
  rw [h2] at h3
  split at h3 <;> omega
 omega

theorem szI3_exit {ys : List Cell3} {k i r : Int} (h : szI3 ys k i r) (hi : ys.length ≤ i) : r = k - ys.length - tot ys ∧ 0 ≤ r := by
 obtain ⟨a, b, c, d⟩ := h
 rw [List.take_of_length_le (by omega)] at c
 exact ⟨c, d⟩

theorem szDyS_fs (C : Cx P gl) {ys : List Cell3} {p : List PV} {k r : Int} (hp : p = cells3 ys) (hl : ys.length ≤ 9223372036854775807) (hy : ∀ y ∈ ys, y.2.1.length ≤ 9223372036854775807) (hk0 : 0 ≤ k) (hk : k ≤ 1048576)
  (hr : r = if (ys.length : Int) + tot ys ≤ k then k - ys.length - tot ys else -1) : FS P gl 21 [.lst p, I k] (· = I r) := by
 have hr1 : k < ys.length + tot ys → r = -1 := fun h => by rw [hr, if_neg (by omega)]
 have hr2 : (ys.length : Int) + tot ys ≤ k → r = k - ys.length - tot ys := fun h => by rw [hr, if_pos h]
 clear hr
 refine gS C func21 rfl rfl rfl fun A hA hI => ?_
 iterate 2 all_goals try cbv; with_reducible repeat' first | exact ⟨⟩ | apply And.intro | intro _
 all_goals try exact oG
 ·rename_i g
  have g : r = -1 := hr1 (by clear hr1 hr2; exact eG)
  rw [g]
 ·rename_i g
  have g0 : (ys.length : Int) ≤ k := by clear hr1 hr2; exact eG
  obtain ⟨k1, hk1⟩ : ∃ k1, k1 = k - (ys.length : Int) := ⟨_, rfl⟩
  have e0 : A.sub .i64 k (A.cast (A.len p)) = k1 := by clear hr1 hr2; (subst hA; subst_vars; simp only [AR.std, natCast_eq, sG, reduceCtorEq] at *; try simp (disch := omega) only [AR.std, natCast_eq, sG, reduceCtorEq] at *)
  clear g
  simp only [e0]
  refine loopI hA [] (ι := Int × Int) (fun x => [(1, .pv (I x.2)), (5, .pv (I x.1))]) (fun x => []) (fun x => (ys.length - x.1).toNat) (fun x => szI3 ys k x.1 x.2) (0, k1) (by rfl) ?_ ?_ ?_
  all_goals try exact tG
  ·exact ⟨Int.le_refl _, by omega, by simp [tot]; omega, by simp only; omega⟩
  rintro ⟨i, q⟩ hinv
  simp only at hinv
  have hnext := fun r2 hi => @szI3_next ys k i q r2 hinv hi
  have hfail := fun r2 hi => @szI3_fail ys k i q r2 hinv hi
  have hexit := fun hi => szI3_exit hinv hi
  obtain ⟨hi0, hi1, hq, hq0⟩ := id hinv
  clear hinv
  have hqk : q ≤ k := by omega
  clear hq
  iterate 2 all_goals try cbv; with_reducible repeat' first | exact ⟨⟩ | apply And.intro | intro _
  all_goals try exact oG
  ·rename_i g
   have gi : i < ys.length := by clear hnext hfail hexit hr1 hr2; exact eG
   have hyl := hy _ (getY_mem (show i.toNat < ys.length by omega))
   have hgl : A.gl (A.el p (A.nat i)) 1 = intsL (ys.getD i.toNat noY).2.1 := by clear hnext hfail hexit hr1 hr2; (subst hA; subst_vars; simp only [AR.std, natCast_eq, sG, reduceCtorEq] at *; try simp (disch := omega) only [AR.std, natCast_eq, sG, reduceCtorEq] at *)
   obtain ⟨r2, hr2'⟩ : ∃ r2 : Int, r2 = if ((ys.getD i.toNat noY).2.1.length : Int) ≤ q then q - (ys.getD i.toNat noY).2.1.length else -1 := ⟨_, rfl⟩
   refine callS hA rfl (szDy_fs C hgl hyl hq0 (by omega) hr2') ?_; rintro _ rfl
   have hn2 := hnext r2 gi hr2'
   have hf2 := hfail r2 gi hr2'
   clear hr2' hgl
   iterate 2 all_goals try cbv; with_reducible repeat' first | exact ⟨⟩ | apply And.intro | intro _
   all_goals try exact oG
   ·rename_i g2
    have g3 : r2 < 0 := by clear hnext hfail hexit hr1 hr2 hn2 hf2; exact eG
    have e : r = -1 := hr1 (hf2 g3)
    rw [e]
   ·rename_i g2
    have g3 : 0 ≤ r2 := by clear hnext hfail hexit hr1 hr2 hn2 hf2; exact eG
    have hn3 := hn2 g3
    clear hnext hfail hexit hr1 hr2 hn2 hf2
    obtain ⟨y1, hy1⟩ : ∃ y, y = i + 1 := ⟨_, rfl⟩
    obtain ⟨y2, hy2⟩ : ∃ y, y = r2 := ⟨_, rfl⟩
    refine ⟨⟨(y1, y2), ?_⟩, ?_, ?_⟩
    rotate_left
    ·cbv
     exact nG
    ·exact eG
    ·rw [hy1, hy2]; exact hn3
  ·rename_i g
   have gi : ys.length ≤ i := by clear hnext hfail hexit hr1 hr2; exact eG
   obtain ⟨e1, e2⟩ := hexit gi
   have e : q = r := by rw [hr2 (by omega)]; exact e1
   rw [e]

theorem szMat_fs (C : Cx P gl) {ys : List Cell3} {p : List PV} {k r n : Int} (hp : p = cells3 ys) (hl : ys.length ≤ 9223372036854775807) (hy : ∀ y ∈ ys, y.2.1.length ≤ 9223372036854775807) (hk0 : 0 ≤ k) (hk : k ≤ 1048576)
  (hr : r = if (ys.length : Int) + tot ys ≤ k then k - ys.length - tot ys else -1) : FS P gl 20 [.agg [I n, .lst p], I k] (· = I r) := by
 have hr2 : -1 ≤ r := by rw [hr]; split <;> omega
 refine gS C func20 rfl rfl rfl fun A hA hI => ?_
 iterate 2 all_goals try cbv; with_reducible repeat' first | exact ⟨⟩ | apply And.intro | intro _
 all_goals try exact oG
 refine callS hA rfl (szDyS_fs C hp hl hy hk0 hk hr) ?_; rintro _ rfl
 clear hr
 iterate 2 all_goals try cbv; with_reducible repeat' first | exact ⟨⟩ | apply And.intro | intro _
 all_goals try exact oG
 rename_i g
 have g : r = -1 := by exact eG
 rw [g]

theorem eqDyS_fs (C : Cx P gl) {ys : List Cell3} {p : List PV} (hp : p = cells3 ys) (hl : ys.length ≤ 2000000) (hy : ∀ y ∈ ys, y.2.1.length ≤ 2000000) : FS P gl 28 [.lst p, .lst p] (· = B true) := by
 refine gS C func28 rfl rfl rfl fun A hA hI => ?_
 iterate 2 all_goals try cbv; with_reducible repeat' first | exact ⟨⟩ | apply And.intro | intro _
 all_goals try exact oG
 refine loopI hA [] (ι := Int) (fun x => [(5, .pv (I x))]) (fun x => []) (fun x => (ys.length - x).toNat) (fun x => 0 ≤ x ∧ x ≤ ys.length) 0 (by rfl) ?_ ?_ ?_
 all_goals try exact tG
 ·omega
 rintro i ⟨hi0, hi1⟩
 iterate 2 all_goals try cbv; with_reducible repeat' first | exact ⟨⟩ | apply And.intro | intro _
 all_goals try exact oG
 ·rename_i g
  have gi : i < ys.length := by exact eG
  have hyl := hy _ (getY_mem (show i.toNat < ys.length by omega))
  have hgl : A.gl (A.el p (A.nat i)) 1 = intsL (ys.getD i.toNat noY).2.1 := by (subst hA; subst_vars; simp only [AR.std, natCast_eq, sG, reduceCtorEq] at *; try simp (disch := omega) only [AR.std, natCast_eq, sG, reduceCtorEq] at *)
  refine callS hA rfl (eqDy_fs C hgl hyl) ?_; rintro _ rfl
  clear hgl
  iterate 2 all_goals try cbv; with_reducible repeat' first | exact ⟨⟩ | apply And.intro | intro _
  all_goals try exact oG
  obtain ⟨y1, hy1⟩ : ∃ y, y = i + 1 := ⟨_, rfl⟩
  refine ⟨⟨y1, ?_⟩, ?_, ?_⟩
  rotate_left
  ·cbv
   exact nG
  ·exact eG
  ·rw [hy1]; exact eG

theorem eqMat_fs (C : Cx P gl) {ys : List Cell3} {p : List PV} {n : Int} (hp : p = cells3 ys) (hl : ys.length ≤ 2000000) (hy : ∀ y ∈ ys, y.2.1.length ≤ 2000000) : FS P gl 27 [.agg [I n, .lst p], .agg [I n, .lst p]] (· = B true) := by
 refine gS C func27 rfl rfl rfl fun A hA hI => ?_
 iterate 2 all_goals try cbv; with_reducible repeat' first | exact ⟨⟩ | apply And.intro | intro _
 all_goals try exact oG
 refine callS hA rfl (eqDyS_fs C hp hl hy) ?_; rintro _ rfl
 iterate 2 all_goals try cbv; with_reducible repeat' first | exact ⟨⟩ | apply And.intro | intro _
 all_goals try exact oG

end Tryz
end Go.Proofs
