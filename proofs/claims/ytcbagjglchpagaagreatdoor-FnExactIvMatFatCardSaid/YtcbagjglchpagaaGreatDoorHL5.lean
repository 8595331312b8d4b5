/- Contracts: the law's own helpers: marks in an interval. -/
import Derived.Test.YtcbagjglchpagaaGreatDoorHL1
import Derived.Test.YtcbagjglchpagaaGreatDoorHL3b
namespace Go.Proofs
open Go Go.Pe Go.Dg
namespace Tryz
set_option linter.unusedSimpArgs false
set_option linter.unusedVariables false
variable {P : Program} {gl : List (Nat × Obj)}

set_option maxHeartbeats 1000000 in
set_option maxRecDepth 100000 in
theorem toIntS_fs (C : Cx P gl) {l : List Int} {p : List PV} (hp : p = intsL l) (hl : l.length ≤ 2000000) : FS P gl 191 [.lst p] (· = .lst p) := by
  obtain ⟨rfl, hG⟩ := C
  refine FS_ofT (args := fun A => [.lst p]) (R := fun A rr => rr = .lst p) Tryz.hT Tryz.mix Tryz.func191 rfl rfl (Nat.le_of_ble_eq_true rfl) ?_
  generalize hP : Tryz.prog = P
  intro A hA
  have C : Tryz.Cx P gl := ⟨hP.symm, hG⟩
  have hI : intsL = A.ints := by subst hA; rfl
  iterate 2 (all_goals try cbv; all_goals repeat' (first | with_reducible exact True.intro | with_reducible refine And.intro ?_ ?_ | intro _))
  all_goals try exact oH
  refine loopI hA [] (ι := Int × List Int) (fun x => [(3, .own 0), (4, .pv (I x.1))]) (fun x => [(0, .row 3 1 (A.ints x.2))]) (fun x => (l.length - x.1).toNat) (fun x => cpI l x.1 x.2) (0, List.replicate l.length 0) (by rfl) ?_ ?_ ?_
  all_goals try exact tH
  · exact cpI_zero l
  rintro ⟨i, o⟩ hinv
  simp only at hinv
  have hnext := fun hi => cpI_next hinv hi
  have hexit := fun hi => cpI_exit hinv hi
  obtain ⟨hi0, hi1, hol, _⟩ := id hinv
  clear hinv
  iterate 2 (all_goals try cbv; all_goals repeat' (first | with_reducible exact True.intro | with_reducible refine And.intro ?_ ?_ | intro _))
  all_goals try exact oH
  iterate 2 (all_goals try cbv; all_goals repeat' (first | with_reducible exact True.intro | with_reducible refine And.intro ?_ ?_ | intro _))
  all_goals try exact oH
  · obtain ⟨y1, hy1⟩ : ∃ y, y = i + 1 := ⟨_, rfl⟩
    obtain ⟨y2, hy2⟩ : ∃ y, y = o.set i.toNat (l.getD i.toNat 0) := ⟨_, rfl⟩
    refine ⟨⟨(y1, y2), ?_⟩, ?_, ?_⟩
    rotate_left
    · cbv
      exact nH
    · (subst hA; subst_vars; simp only [AR.std, natCast_eq, sH, reduceCtorEq] at *; try simp (disch := omega) only [AR.std, natCast_eq, sH, reduceCtorEq] at *); omega
    · rw [hy1, hy2]; exact hnext (by (subst hA; subst_vars; simp only [AR.std, natCast_eq, sH, reduceCtorEq] at *; try simp (disch := omega) only [AR.std, natCast_eq, sH, reduceCtorEq] at *); omega)
  · have e : A.ints o = p := by rw [hexit (by clear hnext hexit; (subst hA; subst_vars; simp only [AR.std, natCast_eq, sH, reduceCtorEq] at *; try simp (disch := omega) only [AR.std, natCast_eq, sH, reduceCtorEq] at *); omega), hp]; subst hA; rfl
    simp only [e]

set_option maxHeartbeats 1000000 in
set_option maxRecDepth 100000 in
theorem toNat_fs (C : Cx P gl) {l : List Int} {p : List PV} (hp : p = intsL l) (hl : l.length ≤ 2000000) : FS P gl 139 [.agg [.lst p]] (· = .agg [.lst p]) := by
  obtain ⟨rfl, hG⟩ := C
  refine FS_ofT (args := fun A => [.agg [.lst p]]) (R := fun A rr => rr = .agg [.lst p]) Tryz.hT Tryz.mix Tryz.func139 rfl rfl (Nat.le_of_ble_eq_true rfl) ?_
  generalize hP : Tryz.prog = P
  intro A hA
  have C : Tryz.Cx P gl := ⟨hP.symm, hG⟩
  have hI : intsL = A.ints := by subst hA; rfl
  iterate 2 (all_goals try cbv; all_goals repeat' (first | with_reducible exact True.intro | with_reducible refine And.intro ?_ ?_ | intro _))
  all_goals try exact oH
  refine callS hA rfl (toIntS_fs C hp hl) ?_; rintro _ rfl
  iterate 2 (all_goals try cbv; all_goals repeat' (first | with_reducible exact True.intro | with_reducible refine And.intro ?_ ?_ | intro _))
  all_goals try exact oH

set_option maxHeartbeats 1000000 in
set_option maxRecDepth 100000 in
theorem toWhole_fs (C : Cx P gl) {l : List Int} {p : List PV} {s : Bool} (hp : p = intsL l) (hl : l.length ≤ 2000000) : FS P gl 87 [.agg [B s, .lst p]] (· = .agg [B s, .lst p]) := by
  obtain ⟨rfl, hG⟩ := C
  refine FS_ofT (args := fun A => [.agg [B s, .lst p]]) (R := fun A rr => rr = .agg [B s, .lst p]) Tryz.hT Tryz.mix Tryz.func87 rfl rfl (Nat.le_of_ble_eq_true rfl) ?_
  generalize hP : Tryz.prog = P
  intro A hA
  have C : Tryz.Cx P gl := ⟨hP.symm, hG⟩
  have hI : intsL = A.ints := by subst hA; rfl
  iterate 2 (all_goals try cbv; all_goals repeat' (first | with_reducible exact True.intro | with_reducible refine And.intro ?_ ?_ | intro _))
  all_goals try exact oH
  refine callS hA rfl (toNat_fs C hp hl) ?_; rintro _ rfl
  iterate 2 (all_goals try cbv; all_goals repeat' (first | with_reducible exact True.intro | with_reducible refine And.intro ?_ ?_ | intro _))
  all_goals try exact oH

set_option maxHeartbeats 1000000 in
set_option maxRecDepth 100000 in
theorem toDy_fs (C : Cx P gl) {l : List Int} {p : List PV} {s : Bool} {e : Int} (hp : p = intsL l) (hl : l.length ≤ 2000000) : FS P gl 36 [.agg [B s, .lst p, I e]] (· = .agg [B s, .lst p, I e]) := by
  obtain ⟨rfl, hG⟩ := C
  refine FS_ofT (args := fun A => [.agg [B s, .lst p, I e]]) (R := fun A rr => rr = .agg [B s, .lst p, I e]) Tryz.hT Tryz.mix Tryz.func36 rfl rfl (Nat.le_of_ble_eq_true rfl) ?_
  generalize hP : Tryz.prog = P
  intro A hA
  have C : Tryz.Cx P gl := ⟨hP.symm, hG⟩
  have hI : intsL = A.ints := by subst hA; rfl
  iterate 2 (all_goals try cbv; all_goals repeat' (first | with_reducible exact True.intro | with_reducible refine And.intro ?_ ?_ | intro _))
  all_goals try exact oH
  refine callS hA rfl (toWhole_fs C hp hl) ?_; rintro _ rfl
  iterate 2 (all_goals try cbv; all_goals repeat' (first | with_reducible exact True.intro | with_reducible refine And.intro ?_ ?_ | intro _))
  all_goals try exact oH

set_option maxHeartbeats 1000000 in
set_option maxRecDepth 100000 in
theorem toIv_fs (C : Cx P gl) {l m : List Int} {p q : List PV} {s t : Bool} {e f : Int} (hp : p = intsL l) (hq : q = intsL m) (hl : l.length ≤ 2000000) (hm : m.length ≤ 2000000) :
    FS P gl 13 [.agg [B s, .lst p, I e, B t, .lst q, I f]] (· = .agg [B s, .lst p, I e, B t, .lst q, I f]) := by
  obtain ⟨rfl, hG⟩ := C
  refine FS_ofT (args := fun A => [.agg [B s, .lst p, I e, B t, .lst q, I f]]) (R := fun A rr => rr = .agg [B s, .lst p, I e, B t, .lst q, I f]) Tryz.hT Tryz.mix Tryz.func13 rfl rfl (Nat.le_of_ble_eq_true rfl) ?_
  generalize hP : Tryz.prog = P
  intro A hA
  have C : Tryz.Cx P gl := ⟨hP.symm, hG⟩
  have hI : intsL = A.ints := by subst hA; rfl
  iterate 2 (all_goals try cbv; all_goals repeat' (first | with_reducible exact True.intro | with_reducible refine And.intro ?_ ?_ | intro _))
  all_goals try exact oH
  refine callS hA rfl (toDy_fs C hp hl) ?_; rintro _ rfl
  iterate 2 (all_goals try cbv; all_goals repeat' (first | with_reducible exact True.intro | with_reducible refine And.intro ?_ ?_ | intro _))
  all_goals try exact oH
  refine callS hA rfl (toDy_fs C hq hm) ?_; rintro _ rfl
  iterate 2 (all_goals try cbv; all_goals repeat' (first | with_reducible exact True.intro | with_reducible refine And.intro ?_ ?_ | intro _))
  all_goals try exact oH

end Tryz
end Go.Proofs

namespace Go.Proofs
open Go Go.Pe Go.Dg
namespace Tryz
set_option linter.unusedSimpArgs false
set_option linter.unusedVariables false
variable {P : Program} {gl : List (Nat × Obj)}

set_option maxHeartbeats 1000000 in
set_option maxRecDepth 100000 in
theorem heldIv_fs (C : Cx P gl) {n m : Nat} {p q : List PV} {k y z : Int} {s t : Bool} {e f : Int} (hp : p = intsL (up1 k n)) (hy : y = k + n) (hq : q = intsL (up1 y m)) (hz : z = y + m) (hn : n ≤ 2000000) (hm : m ≤ 2000000) (hk0 : 0 ≤ k) (hk : k ≤ 100000000) :
    FS P gl 17 [.agg [B s, .lst p, I e, B t, .lst q, I f], I k] (· = I z) := by
  have hy0 : 0 ≤ y := by omega
  have hy1 : y ≤ 1000000000 := by omega
  have hz0 : 0 ≤ z := by omega
  obtain ⟨rfl, hG⟩ := C
  refine FS_ofT (args := fun A => [.agg [B s, .lst p, I e, B t, .lst q, I f], I k]) (R := fun A rr => rr = I z) Tryz.hT Tryz.mix Tryz.func17 rfl rfl (Nat.le_of_ble_eq_true rfl) ?_
  generalize hP : Tryz.prog = P
  intro A hA
  have C : Tryz.Cx P gl := ⟨hP.symm, hG⟩
  have hI : intsL = A.ints := by subst hA; rfl
  iterate 2 (all_goals try cbv; all_goals repeat' (first | with_reducible exact True.intro | with_reducible refine And.intro ?_ ?_ | intro _))
  all_goals try exact oH
  refine callS hA rfl (heldDy_fs C hp hy hn hk0 (by omega)) ?_; rintro _ rfl
  iterate 2 (all_goals try cbv; all_goals repeat' (first | with_reducible exact True.intro | with_reducible refine And.intro ?_ ?_ | intro _))
  all_goals try exact oH
  refine callS hA rfl (heldDy_fs C hq hz hm hy0 hy1) ?_; rintro _ rfl
  iterate 2 (all_goals try cbv; all_goals repeat' (first | with_reducible exact True.intro | with_reducible refine And.intro ?_ ?_ | intro _))
  all_goals try exact oH

set_option maxHeartbeats 1000000 in
set_option maxRecDepth 100000 in
theorem markIv_on_fx (C : Cx P gl) {l : List Int} {p r : List PV} {k z : Int} {s t : Bool} {e f : Int} (hp : p = intsL l) (hr : r = intsL (up1 k l.length)) (hz : z = k + l.length) (hl : l.length ≤ 2000000) (hk0 : 0 ≤ k) (hk : k ≤ 100000000) :
    FX P gl 16 [.row 3 1 p] [.agg [.pv (B s), .own 0, .pv (I e), .pv (B t), .pv (.lst []), .pv (I f)], .pv (I k)] (fun own rr => own = [.row 3 1 r] ∧ rr = .pv (I z)) := by
  obtain ⟨rfl, hG⟩ := C
  refine FX_ofT (own := fun A => [.row 3 1 p]) (args := fun A => [.agg [.pv (B s), .own 0, .pv (I e), .pv (B t), .pv (.lst []), .pv (I f)], .pv (I k)]) (R := fun A ow rr => ow = [.row 3 1 r] ∧ rr = .pv (I z)) Tryz.hT Tryz.mix Tryz.func16 rfl rfl (Nat.le_of_ble_eq_true rfl) ?_
  generalize hP : Tryz.prog = P
  intro A hA
  have C : Tryz.Cx P gl := ⟨hP.symm, hG⟩
  have hI : intsL = A.ints := by subst hA; rfl
  iterate 2 (all_goals try cbv; all_goals repeat' (first | with_reducible exact True.intro | with_reducible refine And.intro ?_ ?_ | intro _))
  all_goals try exact oH
  refine callX hA [0] (by decide) rfl rfl rfl (markDy_fx C hp hr hz hl hk0 (by omega)) ?_
  rintro _ _ ⟨rfl, rfl⟩
  refine ⟨rfl, ?_⟩
  iterate 2 (all_goals try cbv; all_goals repeat' (first | with_reducible exact True.intro | with_reducible refine And.intro ?_ ?_ | intro _))
  all_goals try exact oH
  refine callS hA rfl (markDy0_fs C) ?_; rintro _ rfl
  iterate 2 (all_goals try cbv; all_goals repeat' (first | with_reducible exact True.intro | with_reducible refine And.intro ?_ ?_ | intro _))
  all_goals try exact oH
  subst hA
  exact ⟨[0], _, _, by decide, Nat.le_refl _, rfl, rfl, rfl, rfl, rfl, rfl⟩

set_option maxHeartbeats 1000000 in
set_option maxRecDepth 100000 in
theorem markIv_no_fx (C : Cx P gl) {l : List Int} {p r : List PV} {k z : Int} {s t : Bool} {e f : Int} (hp : p = intsL l) (hr : r = intsL (up1 k l.length)) (hz : z = k + l.length) (hl : l.length ≤ 2000000) (hk0 : 0 ≤ k) (hk : k ≤ 100000000) :
    FX P gl 16 [.row 3 1 p] [.agg [.pv (B s), .pv (.lst []), .pv (I e), .pv (B t), .own 0, .pv (I f)], .pv (I k)] (fun own rr => own = [.row 3 1 r] ∧ rr = .pv (I z)) := by
  obtain ⟨rfl, hG⟩ := C
  refine FX_ofT (own := fun A => [.row 3 1 p]) (args := fun A => [.agg [.pv (B s), .pv (.lst []), .pv (I e), .pv (B t), .own 0, .pv (I f)], .pv (I k)]) (R := fun A ow rr => ow = [.row 3 1 r] ∧ rr = .pv (I z)) Tryz.hT Tryz.mix Tryz.func16 rfl rfl (Nat.le_of_ble_eq_true rfl) ?_
  generalize hP : Tryz.prog = P
  intro A hA
  have C : Tryz.Cx P gl := ⟨hP.symm, hG⟩
  have hI : intsL = A.ints := by subst hA; rfl
  iterate 2 (all_goals try cbv; all_goals repeat' (first | with_reducible exact True.intro | with_reducible refine And.intro ?_ ?_ | intro _))
  all_goals try exact oH
  refine callS hA rfl (markDy0_fs C) ?_; rintro _ rfl
  iterate 2 (all_goals try cbv; all_goals repeat' (first | with_reducible exact True.intro | with_reducible refine And.intro ?_ ?_ | intro _))
  all_goals try exact oH
  refine callX hA [0] (by decide) rfl rfl rfl (markDy_fx C hp hr hz hl hk0 (by omega)) ?_
  rintro _ _ ⟨rfl, rfl⟩
  refine ⟨rfl, ?_⟩
  iterate 2 (all_goals try cbv; all_goals repeat' (first | with_reducible exact True.intro | with_reducible refine And.intro ?_ ?_ | intro _))
  all_goals try exact oH
  subst hA
  exact ⟨[0], _, _, by decide, Nat.le_refl _, rfl, rfl, rfl, rfl, rfl, rfl⟩

set_option maxHeartbeats 1000000 in
set_option maxRecDepth 100000 in
theorem markIv0_fs (C : Cx P gl) {k : Int} {s t : Bool} {e f : Int} : FS P gl 16 [.agg [B s, .lst [], I e, B t, .lst [], I f], I k] (· = I k) := by
  obtain ⟨rfl, hG⟩ := C
  refine FS_ofT (args := fun A => [.agg [B s, .lst [], I e, B t, .lst [], I f], I k]) (R := fun A rr => rr = I k) Tryz.hT Tryz.mix Tryz.func16 rfl rfl (Nat.le_of_ble_eq_true rfl) ?_
  generalize hP : Tryz.prog = P
  intro A hA
  have C : Tryz.Cx P gl := ⟨hP.symm, hG⟩
  have hI : intsL = A.ints := by subst hA; rfl
  iterate 2 (all_goals try cbv; all_goals repeat' (first | with_reducible exact True.intro | with_reducible refine And.intro ?_ ?_ | intro _))
  all_goals try exact oH
  refine callS hA rfl (markDy0_fs C) ?_; rintro _ rfl
  iterate 2 (all_goals try cbv; all_goals repeat' (first | with_reducible exact True.intro | with_reducible refine And.intro ?_ ?_ | intro _))
  all_goals try exact oH
  refine callS hA rfl (markDy0_fs C) ?_; rintro _ rfl
  iterate 2 (all_goals try cbv; all_goals repeat' (first | with_reducible exact True.intro | with_reducible refine And.intro ?_ ?_ | intro _))
  all_goals try exact oH

end Tryz
end Go.Proofs

