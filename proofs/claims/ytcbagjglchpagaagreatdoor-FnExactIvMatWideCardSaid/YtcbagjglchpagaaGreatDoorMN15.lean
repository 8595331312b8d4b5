/- Contracts: results that own nothing. -/
import Derived.Test.YtcbagjglchpagaaGreatDoorMN13
namespace Go.Proofs
open Go Go.Pe Go.Dg
namespace Tryz
set_option linter.unusedSimpArgs false
set_option linter.unusedVariables false
variable {P : Program} {gl : List (Nat × Obj)}

set_option maxHeartbeats 1000000 in
set_option maxRecDepth 100000 in
/-- a copy that is one's own -/
theorem clone_fx (C : Cx P gl) {l : List Int} {p : List PV} (hp : p = intsL l) (h : 0 < l.length) (h1 : l.length ≤ 1000000) : FX P gl 210 [] [.pv (.lst p)] (fun own r => own = [.row 3 1 p] ∧ r = .own 0) := by
  obtain ⟨rfl, hG⟩ := C
  refine FX_ofT (own := fun A => []) (args := fun A => [.pv (.lst p)]) (R := fun A ow rr => ow = [.row 3 1 p] ∧ rr = .own 0) Tryz.hT Tryz.mix Tryz.func210 rfl rfl (Nat.le_of_ble_eq_true rfl) ?_
  generalize hP : Tryz.prog = P
  intro A hA
  have C : Tryz.Cx P gl := ⟨hP.symm, hG⟩
  have hI : intsL = A.ints := by subst hA; rfl
  iterate 2 (all_goals try cbv; all_goals repeat' (first | with_reducible exact True.intro | with_reducible refine And.intro ?_ ?_ | intro _))
  all_goals try exact oH
  · rename_i hb hbt
    exfalso
    have := hb hbt
    rw [this] at hp
    have h2 := congrArg List.length hp
    rw [ints_len] at h2
    simp at h2
    simp [h2] at h
  iterate 2 (all_goals try cbv; all_goals repeat' (first | with_reducible exact True.intro | with_reducible refine And.intro ?_ ?_ | intro _))
  all_goals try exact oH
  · subst hA; intro p hp; cases hp
  · subst hA
    exact ⟨[0], _, _, by decide, Nat.zero_le _, rfl, rfl, rfl, rfl, rfl, rfl⟩

set_option maxHeartbeats 1000000 in
set_option maxRecDepth 100000 in
theorem natOf_fx (C : Cx P gl) {l : List Int} {p : List PV} (hp : p = intsL l) (h : 0 < l.length) (h1 : l.length ≤ 100) : FX P gl 187 [] [.pv (.lst p)] (fun own r => own = [.row 3 1 p] ∧ r = .tup [.agg [.own 0], .pv (B true)]) := by
  obtain ⟨rfl, hG⟩ := C
  refine FX_ofT (own := fun A => []) (args := fun A => [.pv (.lst p)]) (R := fun A ow rr => ow = [.row 3 1 p] ∧ rr = .tup [.agg [.own 0], .pv (B true)]) Tryz.hT Tryz.mix Tryz.func187 rfl rfl (Nat.le_of_ble_eq_true rfl) ?_
  generalize hP : Tryz.prog = P
  intro A hA
  have C : Tryz.Cx P gl := ⟨hP.symm, hG⟩
  have hI : intsL = A.ints := by subst hA; rfl
  iterate 2 (all_goals try cbv; all_goals repeat' (first | with_reducible exact True.intro | with_reducible refine And.intro ?_ ?_ | intro _))
  all_goals try exact oH
  refine callX hA [] List.nodup_nil rfl rfl rfl (clone_fx C hp h (by omega)) ?_; rintro _ _ ⟨rfl, rfl⟩; refine ⟨rfl, ?_⟩
  iterate 2 (all_goals try cbv; all_goals repeat' (first | with_reducible exact True.intro | with_reducible refine And.intro ?_ ?_ | intro _))
  all_goals try exact oH
  subst hA
  exact ⟨[1], _, _, by decide, Nat.zero_le _, rfl, rfl, rfl, rfl, rfl, rfl⟩

set_option maxHeartbeats 1000000 in
set_option maxRecDepth 100000 in
theorem wholeOf_fx (C : Cx P gl) {l : List Int} {p : List PV} {s : Bool} (hp : p = intsL l) (h : 0 < l.length) (h1 : l.length ≤ 100) :
    FX P gl 132 [] [.pv (B s), .pv (.lst p)] (fun own r => own = [.row 3 1 p] ∧ r = .tup [.agg [.pv (B s), .own 0], .pv (B true)]) := by
  obtain ⟨rfl, hG⟩ := C
  refine FX_ofT (own := fun A => []) (args := fun A => [.pv (B s), .pv (.lst p)]) (R := fun A ow rr => ow = [.row 3 1 p] ∧ rr = .tup [.agg [.pv (B s), .own 0], .pv (B true)]) Tryz.hT Tryz.mix Tryz.func132 rfl rfl (Nat.le_of_ble_eq_true rfl) ?_
  generalize hP : Tryz.prog = P
  intro A hA
  have C : Tryz.Cx P gl := ⟨hP.symm, hG⟩
  have hI : intsL = A.ints := by subst hA; rfl
  iterate 2 (all_goals try cbv; all_goals repeat' (first | with_reducible exact True.intro | with_reducible refine And.intro ?_ ?_ | intro _))
  all_goals try exact oH
  refine callX hA [] List.nodup_nil rfl rfl rfl (natOf_fx C hp h h1) ?_; rintro _ _ ⟨rfl, rfl⟩; refine ⟨rfl, ?_⟩
  iterate 2 (all_goals try cbv; all_goals repeat' (first | with_reducible exact True.intro | with_reducible refine And.intro ?_ ?_ | intro _))
  all_goals try exact oH
  iterate 2 (all_goals try cbv; all_goals repeat' (first | with_reducible exact True.intro | with_reducible refine And.intro ?_ ?_ | intro _))
  all_goals try exact oH
  have e0 := len_d hA hp
  have e1 : A.pick s (decide (l.length ≠ 0)) false = s := by subst hA; rw [decide_eq_true (by omega)]; cases s <;> rfl
  simp only [e0, e1]
  subst hA
  exact ⟨[1], _, _, by decide, Nat.zero_le _, rfl, rfl, rfl, rfl, rfl, rfl⟩

set_option maxHeartbeats 1000000 in
set_option maxRecDepth 100000 in
theorem dy_fx (C : Cx P gl) {z e f : Int} {p r : List PV} {s u : Bool} {d : Dyadic} (hp : p = intsL (dg z.natAbs)) (hs : s = decide (z < 0)) (hd : d = mk z e)
    (hr : r = intsL (dg (cZ d).natAbs)) (hu : u = decide (cZ d < 0)) (hf : f = cE d) (h0 : e.natAbs ≤ 1000000000) (hl : (dg z.natAbs).length ≤ 10000000) (hn : z ≠ 0) (hfit : fits d) :
    FX P gl 80 [] [.pv (.agg [B s, .lst p, I e])] (fun own rr => own = [.row 3 1 r] ∧ rr = .tup [.agg [.pv (B u), .own 0, .pv (I f)], .pv (B true)]) := by
  have hl2 : 0 < (dg (cZ d).natAbs).length := by
    rcases Nat.eq_zero_or_pos (dg (cZ d).natAbs).length with h | h
    · rw [dg_len0] at h
      have : d = 0 := cZ_eq_zero.1 (by omega)
      rw [this, ← mk_zero e, mk_inj] at hd
      exact absurd hd.symm hn
    · exact h
  have hl3 := hfit.1
  have hf1 : -3000 ≤ f := by rw [hf]; exact hfit.2.1
  have hf2 : f ≤ 3000 := by rw [hf]; exact hfit.2.2
  have hw : true = (decide (-3000 ≤ f) && decide (f ≤ 3000)) := by rw [decide_eq_true hf1, decide_eq_true hf2]; rfl
  obtain ⟨rfl, hG⟩ := C
  refine FX_ofT (own := fun A => []) (args := fun A => [.pv (.agg [B s, .lst p, I e])]) (R := fun A ow rr => ow = [.row 3 1 r] ∧ rr = .tup [.agg [.pv (B u), .own 0, .pv (I f)], .pv (B true)]) Tryz.hT Tryz.mix Tryz.func80 rfl rfl (Nat.le_of_ble_eq_true rfl) ?_
  generalize hP : Tryz.prog = P
  intro A hA
  have C : Tryz.Cx P gl := ⟨hP.symm, hG⟩
  have hI : intsL = A.ints := by subst hA; rfl
  iterate 2 (all_goals try cbv; all_goals repeat' (first | with_reducible exact True.intro | with_reducible refine And.intro ?_ ?_ | intro _))
  all_goals try exact oH
  refine callS hA rfl (odd_fs C hp hs hd hr hu hf h0 hl) ?_; rintro _ rfl
  iterate 2 (all_goals try cbv; all_goals repeat' (first | with_reducible exact True.intro | with_reducible refine And.intro ?_ ?_ | intro _))
  all_goals try exact oH
  refine callX hA [] List.nodup_nil rfl rfl rfl (wholeOf_fx C hr hl2 hl3) ?_; rintro _ _ ⟨rfl, rfl⟩; refine ⟨rfl, ?_⟩
  iterate 2 (all_goals try cbv; all_goals repeat' (first | with_reducible exact True.intro | with_reducible refine And.intro ?_ ?_ | intro _))
  all_goals try exact oH
  refine ⟨_, fun _ => within_fs C hw, ?_⟩
  iterate 2 (all_goals try cbv; all_goals repeat' (first | with_reducible exact True.intro | with_reducible refine And.intro ?_ ?_ | intro _))
  all_goals try exact oH
  iterate 2 (all_goals try cbv; all_goals repeat' (first | with_reducible exact True.intro | with_reducible refine And.intro ?_ ?_ | intro _))
  all_goals try exact oH
  subst hA
  exact ⟨[2], _, _, by decide, Nat.zero_le _, rfl, rfl, rfl, rfl, rfl, rfl⟩

end Tryz
end Go.Proofs

namespace Go.Proofs
open Go Go.Pe Go.Dg
namespace Tryz
set_option linter.unusedSimpArgs false
set_option linter.unusedVariables false
variable {P : Program} {gl : List (Nat × Obj)}

set_option maxHeartbeats 1000000 in
set_option maxRecDepth 100000 in
theorem clone0_fs (C : Cx P gl) : FS P gl 210 [.lst []] (· = .lst []) := by
  obtain ⟨rfl, hG⟩ := C
  refine FS_ofT (args := fun A => [.lst []]) (R := fun A rr => rr = .lst []) Tryz.hT Tryz.mix Tryz.func210 rfl rfl (Nat.le_of_ble_eq_true rfl) ?_
  generalize hP : Tryz.prog = P
  intro A hA
  have C : Tryz.Cx P gl := ⟨hP.symm, hG⟩
  have hI : intsL = A.ints := by subst hA; rfl
  iterate 2 (all_goals try cbv; all_goals repeat' (first | with_reducible exact True.intro | with_reducible refine And.intro ?_ ?_ | intro _))
  all_goals try exact oH
  iterate 2 (all_goals try cbv; all_goals repeat' (first | with_reducible exact True.intro | with_reducible refine And.intro ?_ ?_ | intro _))
  all_goals try exact oH
  · subst hA; intro p hp; cases hp
  · subst hA; intro p hp; cases hp
  · subst hA; rfl

set_option maxHeartbeats 1000000 in
set_option maxRecDepth 100000 in
theorem natOf0_fs (C : Cx P gl) : FS P gl 187 [.lst []] (· = .tup [.agg [.lst []], B true]) := by
  obtain ⟨rfl, hG⟩ := C
  refine FS_ofT (args := fun A => [.lst []]) (R := fun A rr => rr = .tup [.agg [.lst []], B true]) Tryz.hT Tryz.mix Tryz.func187 rfl rfl (Nat.le_of_ble_eq_true rfl) ?_
  generalize hP : Tryz.prog = P
  intro A hA
  have C : Tryz.Cx P gl := ⟨hP.symm, hG⟩
  have hI : intsL = A.ints := by subst hA; rfl
  iterate 2 (all_goals try cbv; all_goals repeat' (first | with_reducible exact True.intro | with_reducible refine And.intro ?_ ?_ | intro _))
  all_goals try exact oH
  refine callS hA rfl (clone0_fs C) ?_; rintro _ rfl
  iterate 2 (all_goals try cbv; all_goals repeat' (first | with_reducible exact True.intro | with_reducible refine And.intro ?_ ?_ | intro _))
  all_goals try exact oH

set_option maxHeartbeats 1000000 in
set_option maxRecDepth 100000 in
theorem natOfn_fs (C : Cx P gl) {l : List Int} {p : List PV} (hp : p = intsL l) (h : 100 < l.length) (h1 : l.length ≤ 1000000000) : FS P gl 187 [.lst p] (· = .tup [.agg [.lst []], B false]) := by
  obtain ⟨rfl, hG⟩ := C
  refine FS_ofT (args := fun A => [.lst p]) (R := fun A rr => rr = .tup [.agg [.lst []], B false]) Tryz.hT Tryz.mix Tryz.func187 rfl rfl (Nat.le_of_ble_eq_true rfl) ?_
  generalize hP : Tryz.prog = P
  intro A hA
  have C : Tryz.Cx P gl := ⟨hP.symm, hG⟩
  have hI : intsL = A.ints := by subst hA; rfl
  iterate 2 (all_goals try cbv; all_goals repeat' (first | with_reducible exact True.intro | with_reducible refine And.intro ?_ ?_ | intro _))
  all_goals try exact oH

set_option maxHeartbeats 1000000 in
set_option maxRecDepth 100000 in
theorem wholeOf0_fs (C : Cx P gl) {s : Bool} : FS P gl 132 [B s, .lst []] (· = .tup [.agg [B false, .lst []], B true]) := by
  obtain ⟨rfl, hG⟩ := C
  refine FS_ofT (args := fun A => [B s, .lst []]) (R := fun A rr => rr = .tup [.agg [B false, .lst []], B true]) Tryz.hT Tryz.mix Tryz.func132 rfl rfl (Nat.le_of_ble_eq_true rfl) ?_
  generalize hP : Tryz.prog = P
  intro A hA
  have C : Tryz.Cx P gl := ⟨hP.symm, hG⟩
  have hI : intsL = A.ints := by subst hA; rfl
  iterate 2 (all_goals try cbv; all_goals repeat' (first | with_reducible exact True.intro | with_reducible refine And.intro ?_ ?_ | intro _))
  all_goals try exact oH
  refine callS hA rfl (natOf0_fs C) ?_; rintro _ rfl
  iterate 2 (all_goals try cbv; all_goals repeat' (first | with_reducible exact True.intro | with_reducible refine And.intro ?_ ?_ | intro _))
  all_goals try exact oH
  iterate 2 (all_goals try cbv; all_goals repeat' (first | with_reducible exact True.intro | with_reducible refine And.intro ?_ ?_ | intro _))
  all_goals try exact oH
  subst hA; cases s <;> rfl

set_option maxHeartbeats 1000000 in
set_option maxRecDepth 100000 in
theorem wholeOfn_fs (C : Cx P gl) {l : List Int} {p : List PV} {s : Bool} (hp : p = intsL l) (h : 100 < l.length) (h1 : l.length ≤ 1000000000) : FS P gl 132 [B s, .lst p] (· = .tup [.agg [B false, .lst []], B false]) := by
  obtain ⟨rfl, hG⟩ := C
  refine FS_ofT (args := fun A => [B s, .lst p]) (R := fun A rr => rr = .tup [.agg [B false, .lst []], B false]) Tryz.hT Tryz.mix Tryz.func132 rfl rfl (Nat.le_of_ble_eq_true rfl) ?_
  generalize hP : Tryz.prog = P
  intro A hA
  have C : Tryz.Cx P gl := ⟨hP.symm, hG⟩
  have hI : intsL = A.ints := by subst hA; rfl
  iterate 2 (all_goals try cbv; all_goals repeat' (first | with_reducible exact True.intro | with_reducible refine And.intro ?_ ?_ | intro _))
  all_goals try exact oH
  refine callS hA rfl (natOfn_fs C hp h h1) ?_; rintro _ rfl
  iterate 2 (all_goals try cbv; all_goals repeat' (first | with_reducible exact True.intro | with_reducible refine And.intro ?_ ?_ | intro _))
  all_goals try exact oH
  iterate 2 (all_goals try cbv; all_goals repeat' (first | with_reducible exact True.intro | with_reducible refine And.intro ?_ ?_ | intro _))
  all_goals try exact oH

set_option maxHeartbeats 1000000 in
set_option maxRecDepth 100000 in
theorem odd0_fs (C : Cx P gl) {e : Int} {s : Bool} : FS P gl 131 [.agg [B s, .lst [], I e]] (· = .agg [B false, .lst [], I 0]) := by
  obtain ⟨rfl, hG⟩ := C
  refine FS_ofT (args := fun A => [.agg [B s, .lst [], I e]]) (R := fun A rr => rr = .agg [B false, .lst [], I 0]) Tryz.hT Tryz.mix Tryz.func131 rfl rfl (Nat.le_of_ble_eq_true rfl) ?_
  generalize hP : Tryz.prog = P
  intro A hA
  have C : Tryz.Cx P gl := ⟨hP.symm, hG⟩
  have hI : intsL = A.ints := by subst hA; rfl
  iterate 2 (all_goals try cbv; all_goals repeat' (first | with_reducible exact True.intro | with_reducible refine And.intro ?_ ?_ | intro _))
  all_goals try exact oH
  iterate 2 (all_goals try cbv; all_goals repeat' (first | with_reducible exact True.intro | with_reducible refine And.intro ?_ ?_ | intro _))
  all_goals try exact oH

set_option maxHeartbeats 1000000 in
set_option maxRecDepth 100000 in
/-- nought -/
theorem dy0_fs (C : Cx P gl) {e : Int} {s : Bool} : FS P gl 80 [.agg [B s, .lst [], I e]] (· = .tup [.agg [B false, .lst [], I 0], B true]) := by
  obtain ⟨rfl, hG⟩ := C
  refine FS_ofT (args := fun A => [.agg [B s, .lst [], I e]]) (R := fun A rr => rr = .tup [.agg [B false, .lst [], I 0], B true]) Tryz.hT Tryz.mix Tryz.func80 rfl rfl (Nat.le_of_ble_eq_true rfl) ?_
  generalize hP : Tryz.prog = P
  intro A hA
  have C : Tryz.Cx P gl := ⟨hP.symm, hG⟩
  have hI : intsL = A.ints := by subst hA; rfl
  iterate 2 (all_goals try cbv; all_goals repeat' (first | with_reducible exact True.intro | with_reducible refine And.intro ?_ ?_ | intro _))
  all_goals try exact oH
  refine callS hA rfl (odd0_fs C) ?_; rintro _ rfl
  iterate 2 (all_goals try cbv; all_goals repeat' (first | with_reducible exact True.intro | with_reducible refine And.intro ?_ ?_ | intro _))
  all_goals try exact oH
  refine callS hA rfl (wholeOf0_fs C) ?_; rintro _ rfl
  iterate 2 (all_goals try cbv; all_goals repeat' (first | with_reducible exact True.intro | with_reducible refine And.intro ?_ ?_ | intro _))
  all_goals try exact oH
  refine ⟨_, fun _ => within_fs C (b := true) rfl, ?_⟩
  iterate 2 (all_goals try cbv; all_goals repeat' (first | with_reducible exact True.intro | with_reducible refine And.intro ?_ ?_ | intro _))
  all_goals try exact oH
  iterate 2 (all_goals try cbv; all_goals repeat' (first | with_reducible exact True.intro | with_reducible refine And.intro ?_ ?_ | intro _))
  all_goals try exact oH

end Tryz
end Go.Proofs

