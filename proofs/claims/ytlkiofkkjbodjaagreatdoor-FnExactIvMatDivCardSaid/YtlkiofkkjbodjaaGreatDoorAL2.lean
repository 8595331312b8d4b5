/- Contracts: the law's own helpers: equality, sizes. -/
import Derived.Test.YtlkiofkkjbodjaaGreatDoorAN8
import Derived.Test.YtlkiofkkjbodjaaGreatDoorAEvD
set_option maxHeartbeats 1000000
set_option maxRecDepth 100000
namespace Go.Proofs
open Go Go.Pe Go.Dg
namespace Tryz
set_option linter.unusedSimpArgs false
set_option linter.unusedVariables false
variable {P : Program} {gl : List (Nat × Obj)}

theorem eqIntS_fs (C : Cx P gl) {l : List Int} {p : List PV} (hp : p = intsL l) (hl : l.length ≤ 2000000) : FS P gl 231 [.lst p, .lst p] (· = B true) := by
 obtain ⟨rfl, hG⟩ := C
 refine FS_ofT (args := fun A => [.lst p, .lst p]) (R := fun A rr => rr = B true) Tryz.hT Tryz.mix Tryz.func231 rfl rfl (Nat.le_of_ble_eq_true rfl) ?_
 generalize hP : Tryz.prog = P
 intro A hA
 have C : Tryz.Cx P gl := ⟨hP.symm, hG⟩
 have hI : intsL = A.ints := by subst hA; rfl
 iterate 2 (all_goals try cbv; all_goals with_reducible repeat' first | exact True.intro | refine And.intro ?_ ?_ | intro _)
 all_goals try exact oH
 refine loopI hA [] (ι := Int) (fun x => [(5, .pv (I x))]) (fun x => []) (fun x => (l.length - x).toNat) (fun x => 0 ≤ x ∧ x ≤ l.length) 0 (by rfl) ?_ ?_ ?_
 all_goals try exact tH
 ·omega
 rintro i ⟨hi0, hi1⟩
 iterate 2 (all_goals try cbv; all_goals with_reducible repeat' first | exact True.intro | refine And.intro ?_ ?_ | intro _)
 all_goals try exact oH
 iterate 2 (all_goals try cbv; all_goals with_reducible repeat' first | exact True.intro | refine And.intro ?_ ?_ | intro _)
 all_goals try exact oH
 obtain ⟨y1, hy1⟩ : ∃ y, y = i + 1 := ⟨_, rfl⟩
 refine ⟨⟨y1, ?_⟩, ?_, ?_⟩
 rotate_left
 ·cbv
  exact nH
 ·(subst hA; subst_vars; simp only [AR.std, natCast_eq, sH, reduceCtorEq] at *; try simp (disch := omega) only [AR.std, natCast_eq, sH, reduceCtorEq] at *); omega
 ·rw [hy1]; (subst hA; subst_vars; simp only [AR.std, natCast_eq, sH, reduceCtorEq] at *; try simp (disch := omega) only [AR.std, natCast_eq, sH, reduceCtorEq] at *); omega

theorem eqNat_fs (C : Cx P gl) {l : List Int} {p : List PV} (hp : p = intsL l) (hl : l.length ≤ 2000000) : FS P gl 177 [.agg [.lst p], .agg [.lst p]] (· = B true) := by
 obtain ⟨rfl, hG⟩ := C
 refine FS_ofT (args := fun A => [.agg [.lst p], .agg [.lst p]]) (R := fun A rr => rr = B true) Tryz.hT Tryz.mix Tryz.func177 rfl rfl (Nat.le_of_ble_eq_true rfl) ?_
 generalize hP : Tryz.prog = P
 intro A hA
 have C : Tryz.Cx P gl := ⟨hP.symm, hG⟩
 have hI : intsL = A.ints := by subst hA; rfl
 iterate 2 (all_goals try cbv; all_goals with_reducible repeat' first | exact True.intro | refine And.intro ?_ ?_ | intro _)
 all_goals try exact oH
 refine callS hA rfl (eqIntS_fs C hp hl) ?_; rintro _ rfl
 iterate 2 (all_goals try cbv; all_goals with_reducible repeat' first | exact True.intro | refine And.intro ?_ ?_ | intro _)
 all_goals try exact oH

theorem eqWhole_fs (C : Cx P gl) {l : List Int} {p : List PV} {s : Bool} (hp : p = intsL l) (hl : l.length ≤ 2000000) : FS P gl 100 [.agg [B s, .lst p], .agg [B s, .lst p]] (· = B true) := by
 obtain ⟨rfl, hG⟩ := C
 refine FS_ofT (args := fun A => [.agg [B s, .lst p], .agg [B s, .lst p]]) (R := fun A rr => rr = B true) Tryz.hT Tryz.mix Tryz.func100 rfl rfl (Nat.le_of_ble_eq_true rfl) ?_
 generalize hP : Tryz.prog = P
 intro A hA
 have C : Tryz.Cx P gl := ⟨hP.symm, hG⟩
 have hI : intsL = A.ints := by subst hA; rfl
 iterate 2 (all_goals try cbv; all_goals with_reducible repeat' first | exact True.intro | refine And.intro ?_ ?_ | intro _)
 all_goals try exact oH
 refine callS hA rfl (eqNat_fs C hp hl) ?_; rintro _ rfl
 iterate 2 (all_goals try cbv; all_goals with_reducible repeat' first | exact True.intro | refine And.intro ?_ ?_ | intro _)
 all_goals try exact oH

theorem eqDy_fs (C : Cx P gl) {l : List Int} {p : List PV} {s : Bool} {e : Int} (hp : p = intsL l) (hl : l.length ≤ 2000000) : FS P gl 35 [.agg [B s, .lst p, I e], .agg [B s, .lst p, I e]] (· = B true) := by
 obtain ⟨rfl, hG⟩ := C
 refine FS_ofT (args := fun A => [.agg [B s, .lst p, I e], .agg [B s, .lst p, I e]]) (R := fun A rr => rr = B true) Tryz.hT Tryz.mix Tryz.func35 rfl rfl (Nat.le_of_ble_eq_true rfl) ?_
 generalize hP : Tryz.prog = P
 intro A hA
 have C : Tryz.Cx P gl := ⟨hP.symm, hG⟩
 have hI : intsL = A.ints := by subst hA; rfl
 iterate 2 (all_goals try cbv; all_goals with_reducible repeat' first | exact True.intro | refine And.intro ?_ ?_ | intro _)
 all_goals try exact oH
 refine callS hA rfl (eqWhole_fs C hp hl) ?_; rintro _ rfl
 iterate 2 (all_goals try cbv; all_goals with_reducible repeat' first | exact True.intro | refine And.intro ?_ ?_ | intro _)
 all_goals try exact oH
 iterate 2 (all_goals try cbv; all_goals with_reducible repeat' first | exact True.intro | refine And.intro ?_ ?_ | intro _)
 all_goals try exact oH

theorem eqIv_fs (C : Cx P gl) {l m : List Int} {p q : List PV} {s t : Bool} {e f : Int} (hp : p = intsL l) (hq : q = intsL m) (hl : l.length ≤ 2000000) (hm : m.length ≤ 2000000) :
  FS P gl 87 [.agg [B s, .lst p, I e, B t, .lst q, I f], .agg [B s, .lst p, I e, B t, .lst q, I f]] (· = B true) := by
 obtain ⟨rfl, hG⟩ := C
 refine FS_ofT (args := fun A => [.agg [B s, .lst p, I e, B t, .lst q, I f], .agg [B s, .lst p, I e, B t, .lst q, I f]]) (R := fun A rr => rr = B true) Tryz.hT Tryz.mix Tryz.func87 rfl rfl (Nat.le_of_ble_eq_true rfl) ?_
 generalize hP : Tryz.prog = P
 intro A hA
 have C : Tryz.Cx P gl := ⟨hP.symm, hG⟩
 have hI : intsL = A.ints := by subst hA; rfl
 iterate 2 (all_goals try cbv; all_goals with_reducible repeat' first | exact True.intro | refine And.intro ?_ ?_ | intro _)
 all_goals try exact oH
 refine callS hA rfl (eqDy_fs C hp hl) ?_; rintro _ rfl
 iterate 2 (all_goals try cbv; all_goals with_reducible repeat' first | exact True.intro | refine And.intro ?_ ?_ | intro _)
 all_goals try exact oH
 refine callS hA rfl (eqDy_fs C hq hm) ?_; rintro _ rfl
 iterate 2 (all_goals try cbv; all_goals with_reducible repeat' first | exact True.intro | refine And.intro ?_ ?_ | intro _)
 all_goals try exact oH
 iterate 2 (all_goals try cbv; all_goals with_reducible repeat' first | exact True.intro | refine And.intro ?_ ?_ | intro _)
 all_goals try exact oH

theorem szIntS_fs (C : Cx P gl) {l : List Int} {p : List PV} {k r : Int} (hp : p = intsL l) (hl : l.length ≤ 9223372036854775807) (hk0 : 0 ≤ k) (hk : k ≤ 1048576) (hr : r = if (l.length : Int) ≤ k then k - l.length else -1) : FS P gl 251 [.lst p, I k] (· = I r) := by
 obtain ⟨rfl, hG⟩ := C
 refine FS_ofT (args := fun A => [.lst p, I k]) (R := fun A rr => rr = I r) Tryz.hT Tryz.mix Tryz.func251 rfl rfl (Nat.le_of_ble_eq_true rfl) ?_
 generalize hP : Tryz.prog = P
 intro A hA
 have C : Tryz.Cx P gl := ⟨hP.symm, hG⟩
 have hI : intsL = A.ints := by subst hA; rfl
 iterate 2 (all_goals try cbv; all_goals with_reducible repeat' first | exact True.intro | refine And.intro ?_ ?_ | intro _)
 all_goals try exact oH
 ·rename_i g
  have g : r = -1 := by rw [hr]; clear hr; (subst hA; subst_vars; simp only [AR.std, natCast_eq, sH, reduceCtorEq] at *; try simp (disch := omega) only [AR.std, natCast_eq, sH, reduceCtorEq] at *); rw [if_neg (by omega)]
  rw [g]
 ·rename_i g
  have g : A.sub .i64 k (A.cast (A.len p)) = r := by rw [hr]; clear hr; (subst hA; subst_vars; simp only [AR.std, natCast_eq, sH, reduceCtorEq] at *; try simp (disch := omega) only [AR.std, natCast_eq, sH, reduceCtorEq] at *); rw [if_pos (by omega)]
  rw [← g]

theorem szNat_fs (C : Cx P gl) {l : List Int} {p : List PV} {k r : Int} (hp : p = intsL l) (hl : l.length ≤ 9223372036854775807) (hk0 : 0 ≤ k) (hk : k ≤ 1048576) (hr : r = if (l.length : Int) ≤ k then k - l.length else -1) : FS P gl 206 [.agg [.lst p], I k] (· = I r) := by
 have hr2 : -1 ≤ r := by rw [hr]; split <;> omega
 obtain ⟨rfl, hG⟩ := C
 refine FS_ofT (args := fun A => [.agg [.lst p], I k]) (R := fun A rr => rr = I r) Tryz.hT Tryz.mix Tryz.func206 rfl rfl (Nat.le_of_ble_eq_true rfl) ?_
 generalize hP : Tryz.prog = P
 intro A hA
 have C : Tryz.Cx P gl := ⟨hP.symm, hG⟩
 have hI : intsL = A.ints := by subst hA; rfl
 iterate 2 (all_goals try cbv; all_goals with_reducible repeat' first | exact True.intro | refine And.intro ?_ ?_ | intro _)
 all_goals try exact oH
 refine callS hA rfl (szIntS_fs C hp hl hk0 hk hr) ?_; rintro _ rfl
 clear hr
 iterate 2 (all_goals try cbv; all_goals with_reducible repeat' first | exact True.intro | refine And.intro ?_ ?_ | intro _)
 all_goals try exact oH
 rename_i g
 have g : r = -1 := by (subst hA; subst_vars; simp only [AR.std, natCast_eq, sH, reduceCtorEq] at *; try simp (disch := omega) only [AR.std, natCast_eq, sH, reduceCtorEq] at *); omega
 rw [g]

theorem szWhole_fs (C : Cx P gl) {l : List Int} {p : List PV} {k r : Int} {s : Bool} (hp : p = intsL l) (hl : l.length ≤ 9223372036854775807) (hk0 : 0 ≤ k) (hk : k ≤ 1048576) (hr : r = if (l.length : Int) ≤ k then k - l.length else -1) : FS P gl 138 [.agg [B s, .lst p], I k] (· = I r) := by
 have hr2 : -1 ≤ r := by rw [hr]; split <;> omega
 obtain ⟨rfl, hG⟩ := C
 refine FS_ofT (args := fun A => [.agg [B s, .lst p], I k]) (R := fun A rr => rr = I r) Tryz.hT Tryz.mix Tryz.func138 rfl rfl (Nat.le_of_ble_eq_true rfl) ?_
 generalize hP : Tryz.prog = P
 intro A hA
 have C : Tryz.Cx P gl := ⟨hP.symm, hG⟩
 have hI : intsL = A.ints := by subst hA; rfl
 iterate 2 (all_goals try cbv; all_goals with_reducible repeat' first | exact True.intro | refine And.intro ?_ ?_ | intro _)
 all_goals try exact oH
 refine callS hA rfl (szNat_fs C hp hl hk0 hk hr) ?_; rintro _ rfl
 clear hr
 iterate 2 (all_goals try cbv; all_goals with_reducible repeat' first | exact True.intro | refine And.intro ?_ ?_ | intro _)
 all_goals try exact oH
 rename_i g
 have g : r = -1 := by (subst hA; subst_vars; simp only [AR.std, natCast_eq, sH, reduceCtorEq] at *; try simp (disch := omega) only [AR.std, natCast_eq, sH, reduceCtorEq] at *); omega
 rw [g]

theorem szDy_fs (C : Cx P gl) {l : List Int} {p : List PV} {k r : Int} {s : Bool} {e : Int} (hp : p = intsL l) (hl : l.length ≤ 9223372036854775807) (hk0 : 0 ≤ k) (hk : k ≤ 1048576) (hr : r = if (l.length : Int) ≤ k then k - l.length else -1) : FS P gl 65 [.agg [B s, .lst p, I e], I k] (· = I r) := by
 have hr2 : -1 ≤ r := by rw [hr]; split <;> omega
 obtain ⟨rfl, hG⟩ := C
 refine FS_ofT (args := fun A => [.agg [B s, .lst p, I e], I k]) (R := fun A rr => rr = I r) Tryz.hT Tryz.mix Tryz.func65 rfl rfl (Nat.le_of_ble_eq_true rfl) ?_
 generalize hP : Tryz.prog = P
 intro A hA
 have C : Tryz.Cx P gl := ⟨hP.symm, hG⟩
 have hI : intsL = A.ints := by subst hA; rfl
 iterate 2 (all_goals try cbv; all_goals with_reducible repeat' first | exact True.intro | refine And.intro ?_ ?_ | intro _)
 all_goals try exact oH
 refine callS hA rfl (szWhole_fs C hp hl hk0 hk hr) ?_; rintro _ rfl
 clear hr
 iterate 2 (all_goals try cbv; all_goals with_reducible repeat' first | exact True.intro | refine And.intro ?_ ?_ | intro _)
 all_goals try exact oH
 rename_i g
 have g : r = -1 := by (subst hA; subst_vars; simp only [AR.std, natCast_eq, sH, reduceCtorEq] at *; try simp (disch := omega) only [AR.std, natCast_eq, sH, reduceCtorEq] at *); omega
 rw [g]

theorem szIv_fs (C : Cx P gl) {l m : List Int} {p q : List PV} {s t : Bool} {e f : Int} {k r : Int} (hp : p = intsL l) (hq : q = intsL m) (hl : l.length ≤ 9223372036854775807) (hm : m.length ≤ 9223372036854775807) (hk0 : 0 ≤ k) (hk : k ≤ 1048576)
  (hr : r = if (l.length : Int) + m.length ≤ k then k - l.length - m.length else -1) : FS P gl 119 [.agg [B s, .lst p, I e, B t, .lst q, I f], I k] (· = I r) := by
 obtain ⟨r1, hr1⟩ : ∃ r1, r1 = if (l.length : Int) ≤ k then k - l.length else -1 := ⟨_, rfl⟩
 have h1 : r1 < 0 → r = -1 := by rw [hr1, hr]; split <;> split <;> omega
 have h2 : 0 ≤ r1 → r1 ≤ k ∧ r = if (m.length : Int) ≤ r1 then r1 - m.length else -1 := by rw [hr1, hr]; split <;> split <;> split <;> omega
 have hr2 : -1 ≤ r := by rw [hr]; split <;> omega
 clear hr
 obtain ⟨rfl, hG⟩ := C
 refine FS_ofT (args := fun A => [.agg [B s, .lst p, I e, B t, .lst q, I f], I k]) (R := fun A rr => rr = I r) Tryz.hT Tryz.mix Tryz.func119 rfl rfl (Nat.le_of_ble_eq_true rfl) ?_
 generalize hP : Tryz.prog = P
 intro A hA
 have C : Tryz.Cx P gl := ⟨hP.symm, hG⟩
 have hI : intsL = A.ints := by subst hA; rfl
 iterate 2 (all_goals try cbv; all_goals with_reducible repeat' first | exact True.intro | refine And.intro ?_ ?_ | intro _)
 all_goals try exact oH
 refine callS hA rfl (szDy_fs C hp hl hk0 hk hr1) ?_; rintro _ rfl
 clear hr1
 iterate 2 (all_goals try cbv; all_goals with_reducible repeat' first | exact True.intro | refine And.intro ?_ ?_ | intro _)
 all_goals try exact oH
 ·rename_i g
  have g : r = -1 := h1 (by clear h1 h2; (subst hA; subst_vars; simp only [AR.std, natCast_eq, sH, reduceCtorEq] at *; try simp (disch := omega) only [AR.std, natCast_eq, sH, reduceCtorEq] at *); omega)
  rw [g]
 ·rename_i g
  have g : 0 ≤ r1 := by clear h1 h2; (subst hA; subst_vars; simp only [AR.std, natCast_eq, sH, reduceCtorEq] at *; try simp (disch := omega) only [AR.std, natCast_eq, sH, reduceCtorEq] at *); omega
  have h3 := h2 g
  refine callS hA rfl (szDy_fs C hq hm g (by omega) h3.2) ?_; rintro _ rfl
  clear h1 h2 h3
  iterate 2 (all_goals try cbv; all_goals with_reducible repeat' first | exact True.intro | refine And.intro ?_ ?_ | intro _)
  all_goals try exact oH
  rename_i g
  have g : r = -1 := by (subst hA; subst_vars; simp only [AR.std, natCast_eq, sH, reduceCtorEq] at *; try simp (disch := omega) only [AR.std, natCast_eq, sH, reduceCtorEq] at *); omega
  rw [g]

end Tryz
end Go.Proofs
