/- Contracts: results that own nothing. -/
import Derived.Test.YthmkdfmapdbenaaGreatDoorCN14
namespace Go.Proofs
open Go Go.Pe Go.Dg
namespace Tryz
set_option linter.unusedSimpArgs false
set_option linter.unusedVariables false
variable {P : Program} {gl : List (Nat × Obj)}

set_option maxHeartbeats 1000000 in
set_option maxRecDepth 100000 in
theorem clone0_fs (C : Cx P gl) : FS P gl 183 [.lst []] (· = .lst []) := by
  obtain ⟨rfl, hG⟩ := C
  refine FS_ofT (args := fun A => [.lst []]) (R := fun A rr => rr = .lst []) Tryz.hT Tryz.mix Tryz.func183 rfl rfl (Nat.le_of_ble_eq_true rfl) ?_
  generalize hP : Tryz.prog = P
  intro A hA
  have C : Tryz.Cx P gl := ⟨hP.symm, hG⟩
  have hI : intsL = A.ints := by subst hA; rfl
  iterate 2 (all_goals try cbv; all_goals repeat' (first | with_reducible exact True.intro | with_reducible refine And.intro ?_ ?_ | intro _))
  all_goals try exact oH
  iterate 2 (all_goals try cbv; all_goals repeat' (first | with_reducible exact True.intro | with_reducible refine And.intro ?_ ?_ | intro _))
  all_goals try exact oH
  · subst hA; intro p hp; cases hp
  · subst hA; intro p hp; cases hp
  · subst hA; rfl

set_option maxHeartbeats 1000000 in
set_option maxRecDepth 100000 in
theorem natOf0_fs (C : Cx P gl) : FS P gl 152 [.lst []] (· = .tup [.agg [.lst []], B true]) := by
  obtain ⟨rfl, hG⟩ := C
  refine FS_ofT (args := fun A => [.lst []]) (R := fun A rr => rr = .tup [.agg [.lst []], B true]) Tryz.hT Tryz.mix Tryz.func152 rfl rfl (Nat.le_of_ble_eq_true rfl) ?_
  generalize hP : Tryz.prog = P
  intro A hA
  have C : Tryz.Cx P gl := ⟨hP.symm, hG⟩
  have hI : intsL = A.ints := by subst hA; rfl
  iterate 2 (all_goals try cbv; all_goals repeat' (first | with_reducible exact True.intro | with_reducible refine And.intro ?_ ?_ | intro _))
  all_goals try exact oH
  refine callS hA rfl (clone0_fs C) ?_; rintro _ rfl
  iterate 2 (all_goals try cbv; all_goals repeat' (first | with_reducible exact True.intro | with_reducible refine And.intro ?_ ?_ | intro _))
  all_goals try exact oH

set_option maxHeartbeats 1000000 in
set_option maxRecDepth 100000 in
theorem natOfn_fs (C : Cx P gl) {l : List Int} {p : List PV} (hp : p = intsL l) (h : 100 < l.length) (h1 : l.length ≤ 1000000000) : FS P gl 152 [.lst p] (· = .tup [.agg [.lst []], B false]) := by
  obtain ⟨rfl, hG⟩ := C
  refine FS_ofT (args := fun A => [.lst p]) (R := fun A rr => rr = .tup [.agg [.lst []], B false]) Tryz.hT Tryz.mix Tryz.func152 rfl rfl (Nat.le_of_ble_eq_true rfl) ?_
  generalize hP : Tryz.prog = P
  intro A hA
  have C : Tryz.Cx P gl := ⟨hP.symm, hG⟩
  have hI : intsL = A.ints := by subst hA; rfl
  iterate 2 (all_goals try cbv; all_goals repeat' (first | with_reducible exact True.intro | with_reducible refine And.intro ?_ ?_ | intro _))
  all_goals try exact oH

set_option maxHeartbeats 1000000 in
set_option maxRecDepth 100000 in
theorem wholeOf0_fs (C : Cx P gl) {s : Bool} : FS P gl 114 [B s, .lst []] (· = .tup [.agg [B false, .lst []], B true]) := by
  obtain ⟨rfl, hG⟩ := C
  refine FS_ofT (args := fun A => [B s, .lst []]) (R := fun A rr => rr = .tup [.agg [B false, .lst []], B true]) Tryz.hT Tryz.mix Tryz.func114 rfl rfl (Nat.le_of_ble_eq_true rfl) ?_
  generalize hP : Tryz.prog = P
  intro A hA
  have C : Tryz.Cx P gl := ⟨hP.symm, hG⟩
  have hI : intsL = A.ints := by subst hA; rfl
  iterate 2 (all_goals try cbv; all_goals repeat' (first | with_reducible exact True.intro | with_reducible refine And.intro ?_ ?_ | intro _))
  all_goals try exact oH
  refine callS hA rfl (natOf0_fs C) ?_; rintro _ rfl
  iterate 2 (all_goals try cbv; all_goals repeat' (first | with_reducible exact True.intro | with_reducible refine And.intro ?_ ?_ | intro _))
  all_goals try exact oH
  iterate 2 (all_goals try cbv; all_goals repeat' (first | with_reducible exact True.intro | with_reducible refine And.intro ?_ ?_ | intro _))
  all_goals try exact oH
  subst hA; cases s <;> rfl

set_option maxHeartbeats 1000000 in
set_option maxRecDepth 100000 in
theorem wholeOfn_fs (C : Cx P gl) {l : List Int} {p : List PV} {s : Bool} (hp : p = intsL l) (h : 100 < l.length) (h1 : l.length ≤ 1000000000) : FS P gl 114 [B s, .lst p] (· = .tup [.agg [B false, .lst []], B false]) := by
  obtain ⟨rfl, hG⟩ := C
  refine FS_ofT (args := fun A => [B s, .lst p]) (R := fun A rr => rr = .tup [.agg [B false, .lst []], B false]) Tryz.hT Tryz.mix Tryz.func114 rfl rfl (Nat.le_of_ble_eq_true rfl) ?_
  generalize hP : Tryz.prog = P
  intro A hA
  have C : Tryz.Cx P gl := ⟨hP.symm, hG⟩
  have hI : intsL = A.ints := by subst hA; rfl
  iterate 2 (all_goals try cbv; all_goals repeat' (first | with_reducible exact True.intro | with_reducible refine And.intro ?_ ?_ | intro _))
  all_goals try exact oH
  refine callS hA rfl (natOfn_fs C hp h h1) ?_; rintro _ rfl
  iterate 2 (all_goals try cbv; all_goals repeat' (first | with_reducible exact True.intro | with_reducible refine And.intro ?_ ?_ | intro _))
  all_goals try exact oH
  iterate 2 (all_goals try cbv; all_goals repeat' (first | with_reducible exact True.intro | with_reducible refine And.intro ?_ ?_ | intro _))
  all_goals try exact oH

set_option maxHeartbeats 1000000 in
set_option maxRecDepth 100000 in
theorem odd0_fs (C : Cx P gl) {e : Int} {s : Bool} : FS P gl 113 [.agg [B s, .lst [], I e]] (· = .agg [B false, .lst [], I 0]) := by
  obtain ⟨rfl, hG⟩ := C
  refine FS_ofT (args := fun A => [.agg [B s, .lst [], I e]]) (R := fun A rr => rr = .agg [B false, .lst [], I 0]) Tryz.hT Tryz.mix Tryz.func113 rfl rfl (Nat.le_of_ble_eq_true rfl) ?_
  generalize hP : Tryz.prog = P
  intro A hA
  have C : Tryz.Cx P gl := ⟨hP.symm, hG⟩
  have hI : intsL = A.ints := by subst hA; rfl
  iterate 2 (all_goals try cbv; all_goals repeat' (first | with_reducible exact True.intro | with_reducible refine And.intro ?_ ?_ | intro _))
  all_goals try exact oH
  iterate 2 (all_goals try cbv; all_goals repeat' (first | with_reducible exact True.intro | with_reducible refine And.intro ?_ ?_ | intro _))
  all_goals try exact oH

set_option maxHeartbeats 1000000 in
set_option maxRecDepth 100000 in
/-- nought -/
theorem dy0_fs (C : Cx P gl) {e : Int} {s : Bool} : FS P gl 64 [.agg [B s, .lst [], I e]] (· = .tup [.agg [B false, .lst [], I 0], B true]) := by
  obtain ⟨rfl, hG⟩ := C
  refine FS_ofT (args := fun A => [.agg [B s, .lst [], I e]]) (R := fun A rr => rr = .tup [.agg [B false, .lst [], I 0], B true]) Tryz.hT Tryz.mix Tryz.func64 rfl rfl (Nat.le_of_ble_eq_true rfl) ?_
  generalize hP : Tryz.prog = P
  intro A hA
  have C : Tryz.Cx P gl := ⟨hP.symm, hG⟩
  have hI : intsL = A.ints := by subst hA; rfl
  iterate 2 (all_goals try cbv; all_goals repeat' (first | with_reducible exact True.intro | with_reducible refine And.intro ?_ ?_ | intro _))
  all_goals try exact oH
  refine callS hA rfl (odd0_fs C) ?_; rintro _ rfl
  iterate 2 (all_goals try cbv; all_goals repeat' (first | with_reducible exact True.intro | with_reducible refine And.intro ?_ ?_ | intro _))
  all_goals try exact oH
  refine callS hA rfl (wholeOf0_fs C) ?_; rintro _ rfl
  iterate 2 (all_goals try cbv; all_goals repeat' (first | with_reducible exact True.intro | with_reducible refine And.intro ?_ ?_ | intro _))
  all_goals try exact oH
  refine ⟨_, fun _ => within_fs C (b := true) rfl, ?_⟩
  iterate 2 (all_goals try cbv; all_goals repeat' (first | with_reducible exact True.intro | with_reducible refine And.intro ?_ ?_ | intro _))
  all_goals try exact oH
  iterate 2 (all_goals try cbv; all_goals repeat' (first | with_reducible exact True.intro | with_reducible refine And.intro ?_ ?_ | intro _))
  all_goals try exact oH



end Tryz
end Go.Proofs
