/- Contracts: the law's own helpers on lists of dyadic numbers: sizes, equality. -/
import Derived.Test.YtcbagjglchpagaaGreatDoorML1
import Derived.Test.YtcbagjglchpagaaGreatDoorMEvD
import Derived.Test.YtcbagjglchpagaaGreatDoorMN8
namespace Go.Proofs
open Go Go.Pe Go.Dg
namespace Tryz
set_option linter.unusedSimpArgs false
set_option linter.unusedVariables false
variable {P : Program} {gl : List (Nat × Obj)}

end Tryz
end Go.Proofs

namespace Go.Proofs
open Go Go.Pe Go.Dg
namespace Tryz
set_option linter.unusedSimpArgs false
set_option linter.unusedVariables false
variable {P : Program} {gl : List (Nat × Obj)}

set_option maxHeartbeats 1000000 in
set_option maxRecDepth 100000 in
theorem eqIntS_fs (C : Cx P gl) {l : List Int} {p : List PV} (hp : p = intsL l) (hl : l.length ≤ 2000000) : FS P gl 188 [.lst p, .lst p] (· = B true) := by
  obtain ⟨rfl, hG⟩ := C
  refine FS_ofT (args := fun A => [.lst p, .lst p]) (R := fun A rr => rr = B true) Tryz.hT Tryz.mix Tryz.func188 rfl rfl (Nat.le_of_ble_eq_true rfl) ?_
  generalize hP : Tryz.prog = P
  intro A hA
  have C : Tryz.Cx P gl := ⟨hP.symm, hG⟩
  have hI : intsL = A.ints := by subst hA; rfl
  iterate 2 (all_goals try cbv; all_goals repeat' (first | with_reducible exact True.intro | with_reducible refine And.intro ?_ ?_ | intro _))
  all_goals try exact oH
  refine loopI hA [] (ι := Int) (fun x => [(5, .pv (I x))]) (fun x => []) (fun x => (l.length - x).toNat) (fun x => 0 ≤ x ∧ x ≤ l.length) 0 (by rfl) ?_ ?_ ?_
  all_goals try exact tH
  · omega
  rintro i ⟨hi0, hi1⟩
  iterate 2 (all_goals try cbv; all_goals repeat' (first | with_reducible exact True.intro | with_reducible refine And.intro ?_ ?_ | intro _))
  all_goals try exact oH
  iterate 2 (all_goals try cbv; all_goals repeat' (first | with_reducible exact True.intro | with_reducible refine And.intro ?_ ?_ | intro _))
  all_goals try exact oH
  obtain ⟨y1, hy1⟩ : ∃ y, y = i + 1 := ⟨_, rfl⟩
  refine ⟨⟨y1, ?_⟩, ?_, ?_⟩
  rotate_left
  · cbv
    exact nH
  · (subst hA; subst_vars; simp only [AR.std, natCast_eq, sH, reduceCtorEq] at *; try simp (disch := omega) only [AR.std, natCast_eq, sH, reduceCtorEq] at *); omega
  · rw [hy1]; (subst hA; subst_vars; simp only [AR.std, natCast_eq, sH, reduceCtorEq] at *; try simp (disch := omega) only [AR.std, natCast_eq, sH, reduceCtorEq] at *); omega

set_option maxHeartbeats 1000000 in
set_option maxRecDepth 100000 in
theorem eqNat_fs (C : Cx P gl) {l : List Int} {p : List PV} (hp : p = intsL l) (hl : l.length ≤ 2000000) : FS P gl 133 [.agg [.lst p], .agg [.lst p]] (· = B true) := by
  obtain ⟨rfl, hG⟩ := C
  refine FS_ofT (args := fun A => [.agg [.lst p], .agg [.lst p]]) (R := fun A rr => rr = B true) Tryz.hT Tryz.mix Tryz.func133 rfl rfl (Nat.le_of_ble_eq_true rfl) ?_
  generalize hP : Tryz.prog = P
  intro A hA
  have C : Tryz.Cx P gl := ⟨hP.symm, hG⟩
  have hI : intsL = A.ints := by subst hA; rfl
  iterate 2 (all_goals try cbv; all_goals repeat' (first | with_reducible exact True.intro | with_reducible refine And.intro ?_ ?_ | intro _))
  all_goals try exact oH
  refine callS hA rfl (eqIntS_fs C hp hl) ?_; rintro _ rfl
  iterate 2 (all_goals try cbv; all_goals repeat' (first | with_reducible exact True.intro | with_reducible refine And.intro ?_ ?_ | intro _))
  all_goals try exact oH

set_option maxHeartbeats 1000000 in
set_option maxRecDepth 100000 in
theorem eqWhole_fs (C : Cx P gl) {l : List Int} {p : List PV} {s : Bool} (hp : p = intsL l) (hl : l.length ≤ 2000000) : FS P gl 81 [.agg [B s, .lst p], .agg [B s, .lst p]] (· = B true) := by
  obtain ⟨rfl, hG⟩ := C
  refine FS_ofT (args := fun A => [.agg [B s, .lst p], .agg [B s, .lst p]]) (R := fun A rr => rr = B true) Tryz.hT Tryz.mix Tryz.func81 rfl rfl (Nat.le_of_ble_eq_true rfl) ?_
  generalize hP : Tryz.prog = P
  intro A hA
  have C : Tryz.Cx P gl := ⟨hP.symm, hG⟩
  have hI : intsL = A.ints := by subst hA; rfl
  iterate 2 (all_goals try cbv; all_goals repeat' (first | with_reducible exact True.intro | with_reducible refine And.intro ?_ ?_ | intro _))
  all_goals try exact oH
  refine callS hA rfl (eqNat_fs C hp hl) ?_; rintro _ rfl
  iterate 2 (all_goals try cbv; all_goals repeat' (first | with_reducible exact True.intro | with_reducible refine And.intro ?_ ?_ | intro _))
  all_goals try exact oH

set_option maxHeartbeats 1000000 in
set_option maxRecDepth 100000 in
theorem eqDy_fs (C : Cx P gl) {l : List Int} {p : List PV} {s : Bool} {e : Int} (hp : p = intsL l) (hl : l.length ≤ 2000000) : FS P gl 31 [.agg [B s, .lst p, I e], .agg [B s, .lst p, I e]] (· = B true) := by
  obtain ⟨rfl, hG⟩ := C
  refine FS_ofT (args := fun A => [.agg [B s, .lst p, I e], .agg [B s, .lst p, I e]]) (R := fun A rr => rr = B true) Tryz.hT Tryz.mix Tryz.func31 rfl rfl (Nat.le_of_ble_eq_true rfl) ?_
  generalize hP : Tryz.prog = P
  intro A hA
  have C : Tryz.Cx P gl := ⟨hP.symm, hG⟩
  have hI : intsL = A.ints := by subst hA; rfl
  iterate 2 (all_goals try cbv; all_goals repeat' (first | with_reducible exact True.intro | with_reducible refine And.intro ?_ ?_ | intro _))
  all_goals try exact oH
  refine callS hA rfl (eqWhole_fs C hp hl) ?_; rintro _ rfl
  iterate 2 (all_goals try cbv; all_goals repeat' (first | with_reducible exact True.intro | with_reducible refine And.intro ?_ ?_ | intro _))
  all_goals try exact oH
  iterate 2 (all_goals try cbv; all_goals repeat' (first | with_reducible exact True.intro | with_reducible refine And.intro ?_ ?_ | intro _))
  all_goals try exact oH

set_option maxHeartbeats 1000000 in
set_option maxRecDepth 100000 in
theorem eqIv_fs (C : Cx P gl) {l m : List Int} {p q : List PV} {s t : Bool} {e f : Int} (hp : p = intsL l) (hq : q = intsL m) (hl : l.length ≤ 2000000) (hm : m.length ≤ 2000000) :
    FS P gl 15 [.agg [B s, .lst p, I e, B t, .lst q, I f], .agg [B s, .lst p, I e, B t, .lst q, I f]] (· = B true) := by
  obtain ⟨rfl, hG⟩ := C
  refine FS_ofT (args := fun A => [.agg [B s, .lst p, I e, B t, .lst q, I f], .agg [B s, .lst p, I e, B t, .lst q, I f]]) (R := fun A rr => rr = B true) Tryz.hT Tryz.mix Tryz.func15 rfl rfl (Nat.le_of_ble_eq_true rfl) ?_
  generalize hP : Tryz.prog = P
  intro A hA
  have C : Tryz.Cx P gl := ⟨hP.symm, hG⟩
  have hI : intsL = A.ints := by subst hA; rfl
  iterate 2 (all_goals try cbv; all_goals repeat' (first | with_reducible exact True.intro | with_reducible refine And.intro ?_ ?_ | intro _))
  all_goals try exact oH
  refine callS hA rfl (eqDy_fs C hp hl) ?_; rintro _ rfl
  iterate 2 (all_goals try cbv; all_goals repeat' (first | with_reducible exact True.intro | with_reducible refine And.intro ?_ ?_ | intro _))
  all_goals try exact oH
  refine callS hA rfl (eqDy_fs C hq hm) ?_; rintro _ rfl
  iterate 2 (all_goals try cbv; all_goals repeat' (first | with_reducible exact True.intro | with_reducible refine And.intro ?_ ?_ | intro _))
  all_goals try exact oH
  iterate 2 (all_goals try cbv; all_goals repeat' (first | with_reducible exact True.intro | with_reducible refine And.intro ?_ ?_ | intro _))
  all_goals try exact oH

set_option maxHeartbeats 1000000 in
set_option maxRecDepth 100000 in
theorem szIntS_fs (C : Cx P gl) {l : List Int} {p : List PV} {k r : Int} (hp : p = intsL l) (hl : l.length ≤ 9223372036854775807) (hk0 : 0 ≤ k) (hk : k ≤ 1048576) (hr : r = if (l.length : Int) ≤ k then k - l.length else -1) : FS P gl 189 [.lst p, I k] (· = I r) := by
  obtain ⟨rfl, hG⟩ := C
  refine FS_ofT (args := fun A => [.lst p, I k]) (R := fun A rr => rr = I r) Tryz.hT Tryz.mix Tryz.func189 rfl rfl (Nat.le_of_ble_eq_true rfl) ?_
  generalize hP : Tryz.prog = P
  intro A hA
  have C : Tryz.Cx P gl := ⟨hP.symm, hG⟩
  have hI : intsL = A.ints := by subst hA; rfl
  iterate 2 (all_goals try cbv; all_goals repeat' (first | with_reducible exact True.intro | with_reducible refine And.intro ?_ ?_ | intro _))
  all_goals try exact oH
  · rename_i g
    have g : r = -1 := by rw [hr]; clear hr; (subst hA; subst_vars; simp only [AR.std, natCast_eq, sH, reduceCtorEq] at *; try simp (disch := omega) only [AR.std, natCast_eq, sH, reduceCtorEq] at *); rw [if_neg (by omega)]
    rw [g]
  · rename_i g
    have g : A.sub .i64 k (A.cast (A.len p)) = r := by rw [hr]; clear hr; (subst hA; subst_vars; simp only [AR.std, natCast_eq, sH, reduceCtorEq] at *; try simp (disch := omega) only [AR.std, natCast_eq, sH, reduceCtorEq] at *); rw [if_pos (by omega)]
    rw [← g]

set_option maxHeartbeats 1000000 in
set_option maxRecDepth 100000 in
theorem szNat_fs (C : Cx P gl) {l : List Int} {p : List PV} {k r : Int} (hp : p = intsL l) (hl : l.length ≤ 9223372036854775807) (hk0 : 0 ≤ k) (hk : k ≤ 1048576) (hr : r = if (l.length : Int) ≤ k then k - l.length else -1) : FS P gl 136 [.agg [.lst p], I k] (· = I r) := by
  have hr2 : -1 ≤ r := by rw [hr]; split <;> omega
  obtain ⟨rfl, hG⟩ := C
  refine FS_ofT (args := fun A => [.agg [.lst p], I k]) (R := fun A rr => rr = I r) Tryz.hT Tryz.mix Tryz.func136 rfl rfl (Nat.le_of_ble_eq_true rfl) ?_
  generalize hP : Tryz.prog = P
  intro A hA
  have C : Tryz.Cx P gl := ⟨hP.symm, hG⟩
  have hI : intsL = A.ints := by subst hA; rfl
  iterate 2 (all_goals try cbv; all_goals repeat' (first | with_reducible exact True.intro | with_reducible refine And.intro ?_ ?_ | intro _))
  all_goals try exact oH
  refine callS hA rfl (szIntS_fs C hp hl hk0 hk hr) ?_; rintro _ rfl
  clear hr
  iterate 2 (all_goals try cbv; all_goals repeat' (first | with_reducible exact True.intro | with_reducible refine And.intro ?_ ?_ | intro _))
  all_goals try exact oH
  rename_i g
  have g : r = -1 := by (subst hA; subst_vars; simp only [AR.std, natCast_eq, sH, reduceCtorEq] at *; try simp (disch := omega) only [AR.std, natCast_eq, sH, reduceCtorEq] at *); omega
  rw [g]

set_option maxHeartbeats 1000000 in
set_option maxRecDepth 100000 in
theorem szWhole_fs (C : Cx P gl) {l : List Int} {p : List PV} {k r : Int} {s : Bool} (hp : p = intsL l) (hl : l.length ≤ 9223372036854775807) (hk0 : 0 ≤ k) (hk : k ≤ 1048576) (hr : r = if (l.length : Int) ≤ k then k - l.length else -1) : FS P gl 84 [.agg [B s, .lst p], I k] (· = I r) := by
  have hr2 : -1 ≤ r := by rw [hr]; split <;> omega
  obtain ⟨rfl, hG⟩ := C
  refine FS_ofT (args := fun A => [.agg [B s, .lst p], I k]) (R := fun A rr => rr = I r) Tryz.hT Tryz.mix Tryz.func84 rfl rfl (Nat.le_of_ble_eq_true rfl) ?_
  generalize hP : Tryz.prog = P
  intro A hA
  have C : Tryz.Cx P gl := ⟨hP.symm, hG⟩
  have hI : intsL = A.ints := by subst hA; rfl
  iterate 2 (all_goals try cbv; all_goals repeat' (first | with_reducible exact True.intro | with_reducible refine And.intro ?_ ?_ | intro _))
  all_goals try exact oH
  refine callS hA rfl (szNat_fs C hp hl hk0 hk hr) ?_; rintro _ rfl
  clear hr
  iterate 2 (all_goals try cbv; all_goals repeat' (first | with_reducible exact True.intro | with_reducible refine And.intro ?_ ?_ | intro _))
  all_goals try exact oH
  rename_i g
  have g : r = -1 := by (subst hA; subst_vars; simp only [AR.std, natCast_eq, sH, reduceCtorEq] at *; try simp (disch := omega) only [AR.std, natCast_eq, sH, reduceCtorEq] at *); omega
  rw [g]

set_option maxHeartbeats 1000000 in
set_option maxRecDepth 100000 in
theorem szDy_fs (C : Cx P gl) {l : List Int} {p : List PV} {k r : Int} {s : Bool} {e : Int} (hp : p = intsL l) (hl : l.length ≤ 9223372036854775807) (hk0 : 0 ≤ k) (hk : k ≤ 1048576) (hr : r = if (l.length : Int) ≤ k then k - l.length else -1) : FS P gl 34 [.agg [B s, .lst p, I e], I k] (· = I r) := by
  have hr2 : -1 ≤ r := by rw [hr]; split <;> omega
  obtain ⟨rfl, hG⟩ := C
  refine FS_ofT (args := fun A => [.agg [B s, .lst p, I e], I k]) (R := fun A rr => rr = I r) Tryz.hT Tryz.mix Tryz.func34 rfl rfl (Nat.le_of_ble_eq_true rfl) ?_
  generalize hP : Tryz.prog = P
  intro A hA
  have C : Tryz.Cx P gl := ⟨hP.symm, hG⟩
  have hI : intsL = A.ints := by subst hA; rfl
  iterate 2 (all_goals try cbv; all_goals repeat' (first | with_reducible exact True.intro | with_reducible refine And.intro ?_ ?_ | intro _))
  all_goals try exact oH
  refine callS hA rfl (szWhole_fs C hp hl hk0 hk hr) ?_; rintro _ rfl
  clear hr
  iterate 2 (all_goals try cbv; all_goals repeat' (first | with_reducible exact True.intro | with_reducible refine And.intro ?_ ?_ | intro _))
  all_goals try exact oH
  rename_i g
  have g : r = -1 := by (subst hA; subst_vars; simp only [AR.std, natCast_eq, sH, reduceCtorEq] at *; try simp (disch := omega) only [AR.std, natCast_eq, sH, reduceCtorEq] at *); omega
  rw [g]

set_option maxHeartbeats 1000000 in
set_option maxRecDepth 100000 in
/-- two numbers' digits: how many are left, or fewer than none -/
theorem szIv_fs (C : Cx P gl) {l m : List Int} {p q : List PV} {s t : Bool} {e f : Int} {k r : Int} (hp : p = intsL l) (hq : q = intsL m) (hl : l.length ≤ 9223372036854775807) (hm : m.length ≤ 9223372036854775807) (hk0 : 0 ≤ k) (hk : k ≤ 1048576)
    (hr : r = if (l.length : Int) + m.length ≤ k then k - l.length - m.length else -1) : FS P gl 11 [.agg [B s, .lst p, I e, B t, .lst q, I f], I k] (· = I r) := by
  obtain ⟨r1, hr1⟩ : ∃ r1, r1 = if (l.length : Int) ≤ k then k - l.length else -1 := ⟨_, rfl⟩
  have h1 : r1 < 0 → r = -1 := by rw [hr1, hr]; split <;> split <;> omega
  have h2 : 0 ≤ r1 → r1 ≤ k ∧ r = if (m.length : Int) ≤ r1 then r1 - m.length else -1 := by rw [hr1, hr]; split <;> split <;> split <;> omega
  have hr2 : -1 ≤ r := by rw [hr]; split <;> omega
  clear hr
  obtain ⟨rfl, hG⟩ := C
  refine FS_ofT (args := fun A => [.agg [B s, .lst p, I e, B t, .lst q, I f], I k]) (R := fun A rr => rr = I r) Tryz.hT Tryz.mix Tryz.func11 rfl rfl (Nat.le_of_ble_eq_true rfl) ?_
  generalize hP : Tryz.prog = P
  intro A hA
  have C : Tryz.Cx P gl := ⟨hP.symm, hG⟩
  have hI : intsL = A.ints := by subst hA; rfl
  iterate 2 (all_goals try cbv; all_goals repeat' (first | with_reducible exact True.intro | with_reducible refine And.intro ?_ ?_ | intro _))
  all_goals try exact oH
  refine callS hA rfl (szDy_fs C hp hl hk0 hk hr1) ?_; rintro _ rfl
  clear hr1
  iterate 2 (all_goals try cbv; all_goals repeat' (first | with_reducible exact True.intro | with_reducible refine And.intro ?_ ?_ | intro _))
  all_goals try exact oH
  · rename_i g
    have g : r = -1 := h1 (by clear h1 h2; (subst hA; subst_vars; simp only [AR.std, natCast_eq, sH, reduceCtorEq] at *; try simp (disch := omega) only [AR.std, natCast_eq, sH, reduceCtorEq] at *); omega)
    rw [g]
  · rename_i g
    have g : 0 ≤ r1 := by clear h1 h2; (subst hA; subst_vars; simp only [AR.std, natCast_eq, sH, reduceCtorEq] at *; try simp (disch := omega) only [AR.std, natCast_eq, sH, reduceCtorEq] at *); omega
    have h3 := h2 g
    refine callS hA rfl (szDy_fs C hq hm g (by omega) h3.2) ?_; rintro _ rfl
    clear h1 h2 h3
    iterate 2 (all_goals try cbv; all_goals repeat' (first | with_reducible exact True.intro | with_reducible refine And.intro ?_ ?_ | intro _))
    all_goals try exact oH
    rename_i g
    have g : r = -1 := by (subst hA; subst_vars; simp only [AR.std, natCast_eq, sH, reduceCtorEq] at *; try simp (disch := omega) only [AR.std, natCast_eq, sH, reduceCtorEq] at *); omega
    rw [g]

end Tryz
end Go.Proofs

namespace Go.Proofs
open Go Go.Pe Go.Dg
namespace Tryz
set_option linter.unusedSimpArgs false
set_option linter.unusedVariables false
variable {P : Program} {gl : List (Nat × Obj)}

set_option maxHeartbeats 1000000 in
set_option maxRecDepth 100000 in
theorem eqDyS_fs (C : Cx P gl) {ys : List Cell3} {p : List PV} (hp : p = cells3 ys) (hl : ys.length ≤ 2000000) (hy : ∀ y ∈ ys, y.2.1.length ≤ 2000000) : FS P gl 94 [.lst p, .lst p] (· = B true) := by
  obtain ⟨rfl, hG⟩ := C
  refine FS_ofT (args := fun A => [.lst p, .lst p]) (R := fun A rr => rr = B true) Tryz.hT Tryz.mix Tryz.func94 rfl rfl (Nat.le_of_ble_eq_true rfl) ?_
  generalize hP : Tryz.prog = P
  intro A hA
  have C : Tryz.Cx P gl := ⟨hP.symm, hG⟩
  have hI : intsL = A.ints := by subst hA; rfl
  iterate 2 (all_goals try cbv; all_goals repeat' (first | with_reducible exact True.intro | with_reducible refine And.intro ?_ ?_ | intro _))
  all_goals try exact oG
  refine loopI hA [] (ι := Int) (fun x => [(5, .pv (I x))]) (fun x => []) (fun x => (ys.length - x).toNat) (fun x => 0 ≤ x ∧ x ≤ ys.length) 0 (by rfl) ?_ ?_ ?_
  all_goals try exact tG
  · omega
  rintro i ⟨hi0, hi1⟩
  iterate 2 (all_goals try cbv; all_goals repeat' (first | with_reducible exact True.intro | with_reducible refine And.intro ?_ ?_ | intro _))
  all_goals try exact oG
  · rename_i g
    have gi : i < ys.length := by (subst hA; subst_vars; simp only [AR.std, natCast_eq, sG, reduceCtorEq] at *; try simp (disch := omega) only [AR.std, natCast_eq, sG, reduceCtorEq] at *); omega
    have hyl := hy _ (getY_mem (show i.toNat < ys.length by omega))
    have hgl : A.gl (A.el p (A.nat i)) 1 = intsL (ys.getD i.toNat noY).2.1 := by (subst hA; subst_vars; simp only [AR.std, natCast_eq, sG, reduceCtorEq] at *; try simp (disch := omega) only [AR.std, natCast_eq, sG, reduceCtorEq] at *)
    refine callS hA rfl (eqDy_fs C hgl hyl) ?_; rintro _ rfl
    clear hgl
    iterate 2 (all_goals try cbv; all_goals repeat' (first | with_reducible exact True.intro | with_reducible refine And.intro ?_ ?_ | intro _))
    all_goals try exact oG
    obtain ⟨y1, hy1⟩ : ∃ y, y = i + 1 := ⟨_, rfl⟩
    refine ⟨⟨y1, ?_⟩, ?_, ?_⟩
    rotate_left
    · cbv
      exact nG
    · (subst hA; subst_vars; simp only [AR.std, natCast_eq, sG, reduceCtorEq] at *; try simp (disch := omega) only [AR.std, natCast_eq, sG, reduceCtorEq] at *); omega
    · rw [hy1]; (subst hA; subst_vars; simp only [AR.std, natCast_eq, sG, reduceCtorEq] at *; try simp (disch := omega) only [AR.std, natCast_eq, sG, reduceCtorEq] at *); omega

set_option maxHeartbeats 1000000 in
set_option maxRecDepth 100000 in
theorem eqMat_fs (C : Cx P gl) {ys : List Cell3} {p : List PV} {n : Int} (hp : p = cells3 ys) (hl : ys.length ≤ 2000000) (hy : ∀ y ∈ ys, y.2.1.length ≤ 2000000) : FS P gl 40 [.agg [I n, .lst p], .agg [I n, .lst p]] (· = B true) := by
  obtain ⟨rfl, hG⟩ := C
  refine FS_ofT (args := fun A => [.agg [I n, .lst p], .agg [I n, .lst p]]) (R := fun A rr => rr = B true) Tryz.hT Tryz.mix Tryz.func40 rfl rfl (Nat.le_of_ble_eq_true rfl) ?_
  generalize hP : Tryz.prog = P
  intro A hA
  have C : Tryz.Cx P gl := ⟨hP.symm, hG⟩
  have hI : intsL = A.ints := by subst hA; rfl
  iterate 2 (all_goals try cbv; all_goals repeat' (first | with_reducible exact True.intro | with_reducible refine And.intro ?_ ?_ | intro _))
  all_goals try exact oG
  refine callS hA rfl (eqDyS_fs C hp hl hy) ?_; rintro _ rfl
  iterate 2 (all_goals try cbv; all_goals repeat' (first | with_reducible exact True.intro | with_reducible refine And.intro ?_ ?_ | intro _))
  all_goals try exact oG

end Tryz
end Go.Proofs

