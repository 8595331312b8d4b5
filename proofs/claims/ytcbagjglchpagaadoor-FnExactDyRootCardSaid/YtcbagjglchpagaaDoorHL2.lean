/- Contracts: the law's own helpers: equality, sizes. -/
import Derived.Test.YtcbagjglchpagaaDoorHN8
import Derived.Test.YtcbagjglchpagaaDoorHEvD
namespace Go.Proofs
open Go Go.Pe Go.Dg
namespace Tryd
set_option linter.unusedSimpArgs false
set_option linter.unusedVariables false
variable {P : Program} {gl : List (Nat × Obj)}

set_option maxHeartbeats 1000000 in
set_option maxRecDepth 100000 in
theorem eqIntS_fs (C : Cx P gl) {l : List Int} {p : List PV} (hp : p = intsL l) (hl : l.length ≤ 2000000) : FS P gl 121 [.lst p, .lst p] (· = B true) := by
  obtain ⟨rfl, hG⟩ := C
  refine FS_ofT (args := fun A => [.lst p, .lst p]) (R := fun A rr => rr = B true) Tryd.hT Tryd.mix Tryd.func121 rfl rfl (Nat.le_of_ble_eq_true rfl) ?_
  generalize hP : Tryd.prog = P
  intro A hA
  have C : Tryd.Cx P gl := ⟨hP.symm, hG⟩
  have hI : intsL = A.ints := by subst hA; rfl
  iterate 2 (all_goals try cbv; all_goals repeat' (first | with_reducible exact True.intro | with_reducible refine And.intro ?_ ?_ | intro _))
  all_goals try exact oH
  refine loopI hA [] (ι := Int) (fun x => [(5, .pv (I x))]) (fun x => []) (fun x => (l.length - x).toNat) (fun x => 0 ≤ x ∧ x ≤ l.length) 0 (by rfl) ?_ ?_ ?_
  all_goals try exact tH
  · omega
  rintro i ⟨hi0, hi1⟩
  iterate 2 (all_goals try cbv; all_goals repeat' (first | with_reducible exact True.intro | with_reducible refine And.intro ?_ ?_ | intro _))
  all_goals try exact oH
  iterate 2 (all_goals try cbv; all_goals repeat' (first | with_reducible exact True.intro | with_reducible refine And.intro ?_ ?_ | intro _))
  all_goals try exact oH
  obtain ⟨y1, hy1⟩ : ∃ y, y = i + 1 := ⟨_, rfl⟩
  refine ⟨⟨y1, ?_⟩, ?_, ?_⟩
  rotate_left
  · cbv
    exact nH
  · (subst hA; subst_vars; simp only [AR.std, natCast_eq, sH, reduceCtorEq] at *; try simp (disch := omega) only [AR.std, natCast_eq, sH, reduceCtorEq] at *); omega
  · rw [hy1]; (subst hA; subst_vars; simp only [AR.std, natCast_eq, sH, reduceCtorEq] at *; try simp (disch := omega) only [AR.std, natCast_eq, sH, reduceCtorEq] at *); omega

set_option maxHeartbeats 1000000 in
set_option maxRecDepth 100000 in
theorem eqNat_fs (C : Cx P gl) {l : List Int} {p : List PV} (hp : p = intsL l) (hl : l.length ≤ 2000000) : FS P gl 66 [.agg [.lst p], .agg [.lst p]] (· = B true) := by
  obtain ⟨rfl, hG⟩ := C
  refine FS_ofT (args := fun A => [.agg [.lst p], .agg [.lst p]]) (R := fun A rr => rr = B true) Tryd.hT Tryd.mix Tryd.func66 rfl rfl (Nat.le_of_ble_eq_true rfl) ?_
  generalize hP : Tryd.prog = P
  intro A hA
  have C : Tryd.Cx P gl := ⟨hP.symm, hG⟩
  have hI : intsL = A.ints := by subst hA; rfl
  iterate 2 (all_goals try cbv; all_goals repeat' (first | with_reducible exact True.intro | with_reducible refine And.intro ?_ ?_ | intro _))
  all_goals try exact oH
  refine callS hA rfl (eqIntS_fs C hp hl) ?_; rintro _ rfl
  iterate 2 (all_goals try cbv; all_goals repeat' (first | with_reducible exact True.intro | with_reducible refine And.intro ?_ ?_ | intro _))
  all_goals try exact oH

set_option maxHeartbeats 1000000 in
set_option maxRecDepth 100000 in
theorem eqWhole_fs (C : Cx P gl) {l : List Int} {p : List PV} {s : Bool} (hp : p = intsL l) (hl : l.length ≤ 2000000) : FS P gl 59 [.agg [B s, .lst p], .agg [B s, .lst p]] (· = B true) := by
  obtain ⟨rfl, hG⟩ := C
  refine FS_ofT (args := fun A => [.agg [B s, .lst p], .agg [B s, .lst p]]) (R := fun A rr => rr = B true) Tryd.hT Tryd.mix Tryd.func59 rfl rfl (Nat.le_of_ble_eq_true rfl) ?_
  generalize hP : Tryd.prog = P
  intro A hA
  have C : Tryd.Cx P gl := ⟨hP.symm, hG⟩
  have hI : intsL = A.ints := by subst hA; rfl
  iterate 2 (all_goals try cbv; all_goals repeat' (first | with_reducible exact True.intro | with_reducible refine And.intro ?_ ?_ | intro _))
  all_goals try exact oH
  refine callS hA rfl (eqNat_fs C hp hl) ?_; rintro _ rfl
  iterate 2 (all_goals try cbv; all_goals repeat' (first | with_reducible exact True.intro | with_reducible refine And.intro ?_ ?_ | intro _))
  all_goals try exact oH

set_option maxHeartbeats 1000000 in
set_option maxRecDepth 100000 in
theorem eqDy_fs (C : Cx P gl) {l : List Int} {p : List PV} {s : Bool} {e : Int} (hp : p = intsL l) (hl : l.length ≤ 2000000) : FS P gl 17 [.agg [B s, .lst p, I e], .agg [B s, .lst p, I e]] (· = B true) := by
  obtain ⟨rfl, hG⟩ := C
  refine FS_ofT (args := fun A => [.agg [B s, .lst p, I e], .agg [B s, .lst p, I e]]) (R := fun A rr => rr = B true) Tryd.hT Tryd.mix Tryd.func17 rfl rfl (Nat.le_of_ble_eq_true rfl) ?_
  generalize hP : Tryd.prog = P
  intro A hA
  have C : Tryd.Cx P gl := ⟨hP.symm, hG⟩
  have hI : intsL = A.ints := by subst hA; rfl
  iterate 2 (all_goals try cbv; all_goals repeat' (first | with_reducible exact True.intro | with_reducible refine And.intro ?_ ?_ | intro _))
  all_goals try exact oH
  refine callS hA rfl (eqWhole_fs C hp hl) ?_; rintro _ rfl
  iterate 2 (all_goals try cbv; all_goals repeat' (first | with_reducible exact True.intro | with_reducible refine And.intro ?_ ?_ | intro _))
  all_goals try exact oH
  iterate 2 (all_goals try cbv; all_goals repeat' (first | with_reducible exact True.intro | with_reducible refine And.intro ?_ ?_ | intro _))
  all_goals try exact oH

set_option maxHeartbeats 1000000 in
set_option maxRecDepth 100000 in
theorem szIntS_fs (C : Cx P gl) {l : List Int} {p : List PV} {k r : Int} (hp : p = intsL l) (hl : l.length ≤ 9223372036854775807) (hk0 : 0 ≤ k) (hk : k ≤ 1048576) (hr : r = if (l.length : Int) ≤ k then k - l.length else -1) : FS P gl 143 [.lst p, I k] (· = I r) := by
  obtain ⟨rfl, hG⟩ := C
  refine FS_ofT (args := fun A => [.lst p, I k]) (R := fun A rr => rr = I r) Tryd.hT Tryd.mix Tryd.func143 rfl rfl (Nat.le_of_ble_eq_true rfl) ?_
  generalize hP : Tryd.prog = P
  intro A hA
  have C : Tryd.Cx P gl := ⟨hP.symm, hG⟩
  have hI : intsL = A.ints := by subst hA; rfl
  iterate 2 (all_goals try cbv; all_goals repeat' (first | with_reducible exact True.intro | with_reducible refine And.intro ?_ ?_ | intro _))
  all_goals try exact oH
  · rename_i g
    have g : r = -1 := by rw [hr]; clear hr; (subst hA; subst_vars; simp only [AR.std, natCast_eq, sH, reduceCtorEq] at *; try simp (disch := omega) only [AR.std, natCast_eq, sH, reduceCtorEq] at *); rw [if_neg (by omega)]
    rw [g]
  · rename_i g
    have g : A.sub .i64 k (A.cast (A.len p)) = r := by rw [hr]; clear hr; (subst hA; subst_vars; simp only [AR.std, natCast_eq, sH, reduceCtorEq] at *; try simp (disch := omega) only [AR.std, natCast_eq, sH, reduceCtorEq] at *); rw [if_pos (by omega)]
    rw [← g]

set_option maxHeartbeats 1000000 in
set_option maxRecDepth 100000 in
theorem szNat_fs (C : Cx P gl) {l : List Int} {p : List PV} {k r : Int} (hp : p = intsL l) (hl : l.length ≤ 9223372036854775807) (hk0 : 0 ≤ k) (hk : k ≤ 1048576) (hr : r = if (l.length : Int) ≤ k then k - l.length else -1) : FS P gl 94 [.agg [.lst p], I k] (· = I r) := by
  have hr2 : -1 ≤ r := by rw [hr]; split <;> omega
  obtain ⟨rfl, hG⟩ := C
  refine FS_ofT (args := fun A => [.agg [.lst p], I k]) (R := fun A rr => rr = I r) Tryd.hT Tryd.mix Tryd.func94 rfl rfl (Nat.le_of_ble_eq_true rfl) ?_
  generalize hP : Tryd.prog = P
  intro A hA
  have C : Tryd.Cx P gl := ⟨hP.symm, hG⟩
  have hI : intsL = A.ints := by subst hA; rfl
  iterate 2 (all_goals try cbv; all_goals repeat' (first | with_reducible exact True.intro | with_reducible refine And.intro ?_ ?_ | intro _))
  all_goals try exact oH
  refine callS hA rfl (szIntS_fs C hp hl hk0 hk hr) ?_; rintro _ rfl
  clear hr
  iterate 2 (all_goals try cbv; all_goals repeat' (first | with_reducible exact True.intro | with_reducible refine And.intro ?_ ?_ | intro _))
  all_goals try exact oH
  rename_i g
  have g : r = -1 := by (subst hA; subst_vars; simp only [AR.std, natCast_eq, sH, reduceCtorEq] at *; try simp (disch := omega) only [AR.std, natCast_eq, sH, reduceCtorEq] at *); omega
  rw [g]

set_option maxHeartbeats 1000000 in
set_option maxRecDepth 100000 in
theorem szWhole_fs (C : Cx P gl) {l : List Int} {p : List PV} {k r : Int} {s : Bool} (hp : p = intsL l) (hl : l.length ≤ 9223372036854775807) (hk0 : 0 ≤ k) (hk : k ≤ 1048576) (hr : r = if (l.length : Int) ≤ k then k - l.length else -1) : FS P gl 49 [.agg [B s, .lst p], I k] (· = I r) := by
  have hr2 : -1 ≤ r := by rw [hr]; split <;> omega
  obtain ⟨rfl, hG⟩ := C
  refine FS_ofT (args := fun A => [.agg [B s, .lst p], I k]) (R := fun A rr => rr = I r) Tryd.hT Tryd.mix Tryd.func49 rfl rfl (Nat.le_of_ble_eq_true rfl) ?_
  generalize hP : Tryd.prog = P
  intro A hA
  have C : Tryd.Cx P gl := ⟨hP.symm, hG⟩
  have hI : intsL = A.ints := by subst hA; rfl
  iterate 2 (all_goals try cbv; all_goals repeat' (first | with_reducible exact True.intro | with_reducible refine And.intro ?_ ?_ | intro _))
  all_goals try exact oH
  refine callS hA rfl (szNat_fs C hp hl hk0 hk hr) ?_; rintro _ rfl
  clear hr
  iterate 2 (all_goals try cbv; all_goals repeat' (first | with_reducible exact True.intro | with_reducible refine And.intro ?_ ?_ | intro _))
  all_goals try exact oH
  rename_i g
  have g : r = -1 := by (subst hA; subst_vars; simp only [AR.std, natCast_eq, sH, reduceCtorEq] at *; try simp (disch := omega) only [AR.std, natCast_eq, sH, reduceCtorEq] at *); omega
  rw [g]

set_option maxHeartbeats 1000000 in
set_option maxRecDepth 100000 in
theorem szDy_fs (C : Cx P gl) {l : List Int} {p : List PV} {k r : Int} {s : Bool} {e : Int} (hp : p = intsL l) (hl : l.length ≤ 9223372036854775807) (hk0 : 0 ≤ k) (hk : k ≤ 1048576) (hr : r = if (l.length : Int) ≤ k then k - l.length else -1) : FS P gl 13 [.agg [B s, .lst p, I e], I k] (· = I r) := by
  have hr2 : -1 ≤ r := by rw [hr]; split <;> omega
  obtain ⟨rfl, hG⟩ := C
  refine FS_ofT (args := fun A => [.agg [B s, .lst p, I e], I k]) (R := fun A rr => rr = I r) Tryd.hT Tryd.mix Tryd.func13 rfl rfl (Nat.le_of_ble_eq_true rfl) ?_
  generalize hP : Tryd.prog = P
  intro A hA
  have C : Tryd.Cx P gl := ⟨hP.symm, hG⟩
  have hI : intsL = A.ints := by subst hA; rfl
  iterate 2 (all_goals try cbv; all_goals repeat' (first | with_reducible exact True.intro | with_reducible refine And.intro ?_ ?_ | intro _))
  all_goals try exact oH
  refine callS hA rfl (szWhole_fs C hp hl hk0 hk hr) ?_; rintro _ rfl
  clear hr
  iterate 2 (all_goals try cbv; all_goals repeat' (first | with_reducible exact True.intro | with_reducible refine And.intro ?_ ?_ | intro _))
  all_goals try exact oH
  rename_i g
  have g : r = -1 := by (subst hA; subst_vars; simp only [AR.std, natCast_eq, sH, reduceCtorEq] at *; try simp (disch := omega) only [AR.std, natCast_eq, sH, reduceCtorEq] at *); omega
  rw [g]

end Tryd
end Go.Proofs
