/- Contracts: spans. -/
import Derived.Test.YtlkiofkkjbodjaaGreatDoorAN14
set_option maxHeartbeats 1000000
set_option maxRecDepth 100000
namespace Go.Proofs
open Go Go.Pe Go.Dg
namespace Tryz
set_option linter.unusedSimpArgs false
set_option linter.unusedVariables false
variable {P : Program} {gl : List (Nat × Obj)}

theorem clone0_fs (C : Cx P gl) : FS P gl 258 [.lst []] (· = .lst []) := by
 obtain ⟨rfl, hG⟩ := C
 refine FS_ofT (args := fun A => [.lst []]) (R := fun A rr => rr = .lst []) Tryz.hT Tryz.mix Tryz.func258 rfl rfl (Nat.le_of_ble_eq_true rfl) ?_
 generalize hP : Tryz.prog = P
 intro A hA
 have C : Tryz.Cx P gl := ⟨hP.symm, hG⟩
 have hI : intsL = A.ints := by subst hA; rfl
 iterate 2 (all_goals try cbv; all_goals with_reducible repeat' first | exact True.intro | refine And.intro ?_ ?_ | intro _)
 all_goals try exact oH
 iterate 2 (all_goals try cbv; all_goals with_reducible repeat' first | exact True.intro | refine And.intro ?_ ?_ | intro _)
 all_goals try exact oH
 ·subst hA; intro p hp; cases hp
 ·subst hA; intro p hp; cases hp
 ·subst hA; rfl

theorem natOf0_fs (C : Cx P gl) : FS P gl 239 [.lst []] (· = .tup [.agg [.lst []], B true]) := by
 obtain ⟨rfl, hG⟩ := C
 refine FS_ofT (args := fun A => [.lst []]) (R := fun A rr => rr = .tup [.agg [.lst []], B true]) Tryz.hT Tryz.mix Tryz.func239 rfl rfl (Nat.le_of_ble_eq_true rfl) ?_
 generalize hP : Tryz.prog = P
 intro A hA
 have C : Tryz.Cx P gl := ⟨hP.symm, hG⟩
 have hI : intsL = A.ints := by subst hA; rfl
 iterate 2 (all_goals try cbv; all_goals with_reducible repeat' first | exact True.intro | refine And.intro ?_ ?_ | intro _)
 all_goals try exact oH
 refine callS hA rfl (clone0_fs C) ?_; rintro _ rfl
 iterate 2 (all_goals try cbv; all_goals with_reducible repeat' first | exact True.intro | refine And.intro ?_ ?_ | intro _)
 all_goals try exact oH

theorem natOfn_fs (C : Cx P gl) {l : List Int} {p : List PV} (hp : p = intsL l) (h : 100 < l.length) (h1 : l.length ≤ 1000000000) : FS P gl 239 [.lst p] (· = .tup [.agg [.lst []], B false]) := by
 obtain ⟨rfl, hG⟩ := C
 refine FS_ofT (args := fun A => [.lst p]) (R := fun A rr => rr = .tup [.agg [.lst []], B false]) Tryz.hT Tryz.mix Tryz.func239 rfl rfl (Nat.le_of_ble_eq_true rfl) ?_
 generalize hP : Tryz.prog = P
 intro A hA
 have C : Tryz.Cx P gl := ⟨hP.symm, hG⟩
 have hI : intsL = A.ints := by subst hA; rfl
 iterate 2 (all_goals try cbv; all_goals with_reducible repeat' first | exact True.intro | refine And.intro ?_ ?_ | intro _)
 all_goals try exact oH

theorem wholeOf0_fs (C : Cx P gl) {s : Bool} : FS P gl 188 [B s, .lst []] (· = .tup [.agg [B false, .lst []], B true]) := by
 obtain ⟨rfl, hG⟩ := C
 refine FS_ofT (args := fun A => [B s, .lst []]) (R := fun A rr => rr = .tup [.agg [B false, .lst []], B true]) Tryz.hT Tryz.mix Tryz.func188 rfl rfl (Nat.le_of_ble_eq_true rfl) ?_
 generalize hP : Tryz.prog = P
 intro A hA
 have C : Tryz.Cx P gl := ⟨hP.symm, hG⟩
 have hI : intsL = A.ints := by subst hA; rfl
 iterate 2 (all_goals try cbv; all_goals with_reducible repeat' first | exact True.intro | refine And.intro ?_ ?_ | intro _)
 all_goals try exact oH
 refine callS hA rfl (natOf0_fs C) ?_; rintro _ rfl
 iterate 2 (all_goals try cbv; all_goals with_reducible repeat' first | exact True.intro | refine And.intro ?_ ?_ | intro _)
 all_goals try exact oH
 iterate 2 (all_goals try cbv; all_goals with_reducible repeat' first | exact True.intro | refine And.intro ?_ ?_ | intro _)
 all_goals try exact oH
 subst hA; cases s <;> rfl

theorem wholeOfn_fs (C : Cx P gl) {l : List Int} {p : List PV} {s : Bool} (hp : p = intsL l) (h : 100 < l.length) (h1 : l.length ≤ 1000000000) : FS P gl 188 [B s, .lst p] (· = .tup [.agg [B false, .lst []], B false]) := by
 obtain ⟨rfl, hG⟩ := C
 refine FS_ofT (args := fun A => [B s, .lst p]) (R := fun A rr => rr = .tup [.agg [B false, .lst []], B false]) Tryz.hT Tryz.mix Tryz.func188 rfl rfl (Nat.le_of_ble_eq_true rfl) ?_
 generalize hP : Tryz.prog = P
 intro A hA
 have C : Tryz.Cx P gl := ⟨hP.symm, hG⟩
 have hI : intsL = A.ints := by subst hA; rfl
 iterate 2 (all_goals try cbv; all_goals with_reducible repeat' first | exact True.intro | refine And.intro ?_ ?_ | intro _)
 all_goals try exact oH
 refine callS hA rfl (natOfn_fs C hp h h1) ?_; rintro _ rfl
 iterate 2 (all_goals try cbv; all_goals with_reducible repeat' first | exact True.intro | refine And.intro ?_ ?_ | intro _)
 all_goals try exact oH
 iterate 2 (all_goals try cbv; all_goals with_reducible repeat' first | exact True.intro | refine And.intro ?_ ?_ | intro _)
 all_goals try exact oH

theorem odd0_fs (C : Cx P gl) {e : Int} {s : Bool} : FS P gl 187 [.agg [B s, .lst [], I e]] (· = .agg [B false, .lst [], I 0]) := by
 obtain ⟨rfl, hG⟩ := C
 refine FS_ofT (args := fun A => [.agg [B s, .lst [], I e]]) (R := fun A rr => rr = .agg [B false, .lst [], I 0]) Tryz.hT Tryz.mix Tryz.func187 rfl rfl (Nat.le_of_ble_eq_true rfl) ?_
 generalize hP : Tryz.prog = P
 intro A hA
 have C : Tryz.Cx P gl := ⟨hP.symm, hG⟩
 have hI : intsL = A.ints := by subst hA; rfl
 iterate 2 (all_goals try cbv; all_goals with_reducible repeat' first | exact True.intro | refine And.intro ?_ ?_ | intro _)
 all_goals try exact oH
 iterate 2 (all_goals try cbv; all_goals with_reducible repeat' first | exact True.intro | refine And.intro ?_ ?_ | intro _)
 all_goals try exact oH

theorem dy0_fs (C : Cx P gl) {e : Int} {s : Bool} : FS P gl 111 [.agg [B s, .lst [], I e]] (· = .tup [.agg [B false, .lst [], I 0], B true]) := by
 obtain ⟨rfl, hG⟩ := C
 refine FS_ofT (args := fun A => [.agg [B s, .lst [], I e]]) (R := fun A rr => rr = .tup [.agg [B false, .lst [], I 0], B true]) Tryz.hT Tryz.mix Tryz.func111 rfl rfl (Nat.le_of_ble_eq_true rfl) ?_
 generalize hP : Tryz.prog = P
 intro A hA
 have C : Tryz.Cx P gl := ⟨hP.symm, hG⟩
 have hI : intsL = A.ints := by subst hA; rfl
 iterate 2 (all_goals try cbv; all_goals with_reducible repeat' first | exact True.intro | refine And.intro ?_ ?_ | intro _)
 all_goals try exact oH
 refine callS hA rfl (odd0_fs C) ?_; rintro _ rfl
 iterate 2 (all_goals try cbv; all_goals with_reducible repeat' first | exact True.intro | refine And.intro ?_ ?_ | intro _)
 all_goals try exact oH
 refine callS hA rfl (wholeOf0_fs C) ?_; rintro _ rfl
 iterate 2 (all_goals try cbv; all_goals with_reducible repeat' first | exact True.intro | refine And.intro ?_ ?_ | intro _)
 all_goals try exact oH
 refine ⟨_, fun _ => within_fs C (b := true) rfl, ?_⟩
 iterate 2 (all_goals try cbv; all_goals with_reducible repeat' first | exact True.intro | refine And.intro ?_ ?_ | intro _)
 all_goals try exact oH
 iterate 2 (all_goals try cbv; all_goals with_reducible repeat' first | exact True.intro | refine And.intro ?_ ?_ | intro _)
 all_goals try exact oH

end Tryz
end Go.Proofs

set_option maxHeartbeats 1000000
set_option maxRecDepth 100000
namespace Go.Proofs
open Go Go.Pe Go.Dg
namespace Tryz
set_option linter.unusedSimpArgs false
set_option linter.unusedVariables false
variable {P : Program} {gl : List (Nat × Obj)}

theorem dyn_fs (C : Cx P gl) {z e : Int} {p : List PV} {s : Bool} (hp : p = intsL (dg z.natAbs)) (hs : s = decide (z < 0))
  (h0 : e.natAbs ≤ 1000000000) (hl : (dg z.natAbs).length ≤ 10000000) (hn : z ≠ 0) (hfit : ¬fits (mk z e)) :
  FS P gl 111 [.agg [B s, .lst p, I e]] (· = .tup [.agg [B false, .lst [], I 0], B false]) := by
 obtain ⟨d, hd⟩ : ∃ d, d = mk z e := ⟨_, rfl⟩
 obtain ⟨r, hr⟩ : ∃ r, r = intsL (dg (cZ d).natAbs) := ⟨_, rfl⟩
 obtain ⟨u, hu⟩ : ∃ u, u = decide (cZ d < 0) := ⟨_, rfl⟩
 obtain ⟨f, hf⟩ : ∃ f, f = cE d := ⟨_, rfl⟩
 rw [← hd] at hfit
 have hle : (dg (cZ d).natAbs).length ≤ 1000000000 := by
  rw [hd]; have := dg_len_mono (cZ_le z e); omega
 have hl2 : 0 < (dg (cZ d).natAbs).length := by
  rcases Nat.eq_zero_or_pos (dg (cZ d).natAbs).length with h | h
  ·rw [dg_len0] at h
   have : d = 0 := cZ_eq_zero.1 (by omega)
   rw [this, ← mk_zero e, mk_inj] at hd
   exact absurd hd.symm hn
  ·exact h
 have hodd := @odd_fs P gl C z e f p r s u d hp hs hd hr hu hf h0 hl
 by_cases hc : (dg (cZ d).natAbs).length ≤ 100
 ·have hw : false = (decide (-3000 ≤ f) && decide (f ≤ 3000)) := by
   have : ¬(-3000 ≤ f ∧ f ≤ 3000) := by rw [hf]; exact fun h => hfit ⟨hc, h.1, h.2⟩
   rw [eq_comm, Bool.and_eq_false_iff, decide_eq_false_iff_not, decide_eq_false_iff_not]; omega
  clear hfit hodd
  obtain ⟨rfl, hG⟩ := C
  refine FS_ofT (args := fun A => [.agg [B s, .lst p, I e]]) (R := fun A rr => rr = .tup [.agg [B false, .lst [], I 0], B false]) Tryz.hT Tryz.mix Tryz.func111 rfl rfl (Nat.le_of_ble_eq_true rfl) ?_
  generalize hP : Tryz.prog = P
  intro A hA
  have C : Tryz.Cx P gl := ⟨hP.symm, hG⟩
  have hI : intsL = A.ints := by subst hA; rfl
  iterate 2 (all_goals try cbv; all_goals with_reducible repeat' first | exact True.intro | refine And.intro ?_ ?_ | intro _)
  all_goals try exact oH
  refine callS hA rfl (odd_fs C hp hs hd hr hu hf h0 hl) ?_; rintro _ rfl
  iterate 2 (all_goals try cbv; all_goals with_reducible repeat' first | exact True.intro | refine And.intro ?_ ?_ | intro _)
  all_goals try exact oH
  refine callX hA [] List.nodup_nil rfl rfl rfl (wholeOf_fx C hr hl2 hc) ?_; rintro _ _ ⟨rfl, rfl⟩; refine ⟨rfl, ?_⟩
  iterate 2 (all_goals try cbv; all_goals with_reducible repeat' first | exact True.intro | refine And.intro ?_ ?_ | intro _)
  all_goals try exact oH
  refine ⟨_, fun _ => within_fs C hw, ?_⟩
  iterate 2 (all_goals try cbv; all_goals with_reducible repeat' first | exact True.intro | refine And.intro ?_ ?_ | intro _)
  all_goals try exact oH
  iterate 2 (all_goals try cbv; all_goals with_reducible repeat' first | exact True.intro | refine And.intro ?_ ?_ | intro _)
  all_goals try exact oH
 ·have hc : 100 < (dg (cZ d).natAbs).length := by omega
  clear hfit hodd
  obtain ⟨rfl, hG⟩ := C
  refine FS_ofT (args := fun A => [.agg [B s, .lst p, I e]]) (R := fun A rr => rr = .tup [.agg [B false, .lst [], I 0], B false]) Tryz.hT Tryz.mix Tryz.func111 rfl rfl (Nat.le_of_ble_eq_true rfl) ?_
  generalize hP : Tryz.prog = P
  intro A hA
  have C : Tryz.Cx P gl := ⟨hP.symm, hG⟩
  have hI : intsL = A.ints := by subst hA; rfl
  iterate 2 (all_goals try cbv; all_goals with_reducible repeat' first | exact True.intro | refine And.intro ?_ ?_ | intro _)
  all_goals try exact oH
  refine callS hA rfl (odd_fs C hp hs hd hr hu hf h0 hl) ?_; rintro _ rfl
  iterate 2 (all_goals try cbv; all_goals with_reducible repeat' first | exact True.intro | refine And.intro ?_ ?_ | intro _)
  all_goals try exact oH
  refine callS hA rfl (wholeOfn_fs C hr hc hle) ?_; rintro _ rfl
  iterate 2 (all_goals try cbv; all_goals with_reducible repeat' first | exact True.intro | refine And.intro ?_ ?_ | intro _)
  all_goals try exact oH
  obtain ⟨w, hw⟩ : ∃ w, w = (decide (-3000 ≤ f) && decide (f ≤ 3000)) := ⟨_, rfl⟩
  refine ⟨_, fun _ => within_fs C hw, ?_⟩
  iterate 2 (all_goals try cbv; all_goals with_reducible repeat' first | exact True.intro | refine And.intro ?_ ?_ | intro _)
  all_goals try exact oH
  iterate 2 (all_goals try cbv; all_goals with_reducible repeat' first | exact True.intro | refine And.intro ?_ ?_ | intro _)
  all_goals try exact oH

end Tryz
end Go.Proofs

set_option maxHeartbeats 1000000
set_option maxRecDepth 100000
namespace Go.Proofs
open Go Go.Pe Go.Dg
namespace Tryz
set_option linter.unusedSimpArgs false
set_option linter.unusedVariables false
variable {P : Program} {gl : List (Nat × Obj)}

theorem dyExact_fs (C : Cx P gl) {e : Int} {p : List PV} {s : Bool} : FS P gl 84 [.agg [B s, .lst p, I e]] (· = .agg [B s, .lst p, I e]) := by
 obtain ⟨rfl, hG⟩ := C
 refine FS_ofT (args := fun A => [.agg [B s, .lst p, I e]]) (R := fun A rr => rr = .agg [B s, .lst p, I e]) Tryz.hT Tryz.mix Tryz.func84 rfl rfl (Nat.le_of_ble_eq_true rfl) ?_
 generalize hP : Tryz.prog = P
 intro A hA
 have C : Tryz.Cx P gl := ⟨hP.symm, hG⟩
 have hI : intsL = A.ints := by subst hA; rfl
 iterate 2 (all_goals try cbv; all_goals with_reducible repeat' first | exact True.intro | refine And.intro ?_ ?_ | intro _)
 all_goals try exact oH
 iterate 2 (all_goals try cbv; all_goals with_reducible repeat' first | exact True.intro | refine And.intro ?_ ?_ | intro _)
 all_goals try exact oH

theorem span_fs (C : Cx P gl) {e f : Int} {p q : List PV} {s t : Bool} : FS P gl 125 [.agg [B s, .lst p, I e, B t, .lst q, I f]] (· = .agg [B s, .lst p, I e, B t, .lst q, I f]) := by
 obtain ⟨rfl, hG⟩ := C
 refine FS_ofT (args := fun A => [.agg [B s, .lst p, I e, B t, .lst q, I f]]) (R := fun A rr => rr = .agg [B s, .lst p, I e, B t, .lst q, I f]) Tryz.hT Tryz.mix Tryz.func125 rfl rfl (Nat.le_of_ble_eq_true rfl) ?_
 generalize hP : Tryz.prog = P
 intro A hA
 have C : Tryz.Cx P gl := ⟨hP.symm, hG⟩
 have hI : intsL = A.ints := by subst hA; rfl
 iterate 2 (all_goals try cbv; all_goals with_reducible repeat' first | exact True.intro | refine And.intro ?_ ?_ | intro _)
 all_goals try exact oH
 refine ⟨_, dyExact_fs C, ?_⟩
 iterate 2 (all_goals try cbv; all_goals with_reducible repeat' first | exact True.intro | refine And.intro ?_ ?_ | intro _)
 all_goals try exact oH
 refine callS hA rfl (dyExact_fs C) ?_; rintro _ rfl
 iterate 2 (all_goals try cbv; all_goals with_reducible repeat' first | exact True.intro | refine And.intro ?_ ?_ | intro _)
 all_goals try exact oH

end Tryz
end Go.Proofs

