/- Contracts: numbers rounded, in the program. -/
import Derived.Test.YtcbagjglchpagaaGreatDoorCN30
import Derived.Test.YtcbagjglchpagaaGreatDoorCEvD
namespace Go.Proofs
open Go Go.Pe Go.Dg
namespace Tryz
set_option linter.unusedSimpArgs false
set_option linter.unusedVariables false
variable {P : Program} {gl : List (Nat × Obj)}

set_option maxHeartbeats 1000000 in
set_option maxRecDepth 100000 in
theorem roundedS_fs (C : Cx P gl) {l : List Int} {p : List PV} {s zb lb : Bool} {e low m : Int} (hp : p = intsL l) (hzb : zb = decide (l.length = 0)) (hlb : lb = decide (low ≤ e)) (h : zb = true ∨ lb = true) :
    FS P gl 105 [.agg [B s, .lst p, I e], I low, I m] (· = .tup [.agg [B s, .lst p, I e], B true]) := by
  have hz := fun (P' : Program) (C' : Cx P' gl) => isZero_fs C' (s := s) (e := e) hp hzb
  clear hp hzb
  obtain ⟨rfl, hG⟩ := C
  refine FS_ofT (args := fun A => [.agg [B s, .lst p, I e], I low, I m]) (R := fun A rr => rr = .tup [.agg [B s, .lst p, I e], B true]) Tryz.hT Tryz.mix Tryz.func105 rfl rfl (Nat.le_of_ble_eq_true rfl) ?_
  generalize hP : Tryz.prog = P
  intro A hA
  have C : Tryz.Cx P gl := ⟨hP.symm, hG⟩
  have hI : intsL = A.ints := by subst hA; rfl
  have hle : A.le low e = lb := by rw [hlb]; subst hA; rfl
  clear hlb
  iterate 2 (all_goals try cbv; all_goals repeat' (first | with_reducible exact True.intro | with_reducible refine And.intro ?_ ?_ | intro _))
  all_goals try exact oH
  all_goals try simp only [hle]
  all_goals try (refine ⟨_, fun _ => hz P C, ?_⟩)
  iterate 2 (all_goals try cbv; all_goals repeat' (first | with_reducible exact True.intro | with_reducible refine And.intro ?_ ?_ | intro _))
  all_goals try exact oH
  all_goals (exfalso; clear hz hle hI; rename_i g; subst hA; revert g h; cases zb <;> cases lb <;> simp [AR.std])

set_option maxHeartbeats 1000000 in
set_option maxRecDepth 100000 in
theorem roundedO_fs (C : Cx P gl) {z1 z e low m : Int} {p r : List PV} {s1 s ex : Bool} (hp : p = intsL (dg z1.natAbs)) (hs1 : s1 = decide (z1 < 0)) (h1 : z1 ≠ 0) (h2 : e < low) (hz : z = zover z1 1 (e - low) m) (hr : r = intsL (dg z.natAbs)) (hs : s = decide (z < 0))
    (hex : ex = decide (z1.natAbs * 2 ^ (e - low).toNat % ((1 : Int).natAbs * 2 ^ (-(e - low)).toNat) = 0)) (hb1 : e.natAbs ≤ 1000000) (hb3 : low.natAbs ≤ 1000000) (hl1 : (dg z1.natAbs).length ≤ 500000) :
    FS P gl 105 [.agg [B s1, .lst p, I e], I low, I m] (· = .tup [.agg [B s, .lst r, I low], B ex]) := by
  have e0 : e - 0 - low = e - low := by omega
  have hz := fun (P' : Program) (C' : Cx P' gl) => isZero_fs C' (s := s1) (e := e) (b := false) hp (by
    have : 0 < z1.natAbs := by omega
    have := dg_ne_nil this
    symm; exact decide_eq_false (by omega))
  obtain ⟨p1, hp1⟩ : ∃ p1, p1 = intsL (dg 1) := ⟨_, rfl⟩
  have hsm := fun (P' : Program) (C' : Cx P' gl) => small_fs C' (k := 1) (n := 1) rfl hp1 (by decide)
  have hov := fun (P' : Program) (C' : Cx P' gl) => over_fs C' (z1 := z1) (z2 := 1) (e1 := e) (e2 := 0) (low := low) (m := m) (z := z) (s := s) (r := r) (ex := ex) (s2 := false) hp hp1 hs1 rfl (by decide) (by rw [e0]; assumption) hr hs (by rw [e0]; exact hex) hb1 (by decide) hb3 hl1 (Nat.le_trans (dg_len 1 (by decide)) (by decide))
  clear hp hs1 h1 hr hs hex hp1 e0 hb1 hb3 hl1
  obtain ⟨rfl, hG⟩ := C
  refine FS_ofT (args := fun A => [.agg [B s1, .lst p, I e], I low, I m]) (R := fun A rr => rr = .tup [.agg [B s, .lst r, I low], B ex]) Tryz.hT Tryz.mix Tryz.func105 rfl rfl (Nat.le_of_ble_eq_true rfl) ?_
  generalize hP : Tryz.prog = P
  intro A hA
  have C : Tryz.Cx P gl := ⟨hP.symm, hG⟩
  have hI : intsL = A.ints := by subst hA; rfl
  have hle : A.le low e = false := by subst hA; exact decide_eq_false (by omega)
  iterate 2 (all_goals try cbv; all_goals repeat' (first | with_reducible exact True.intro | with_reducible refine And.intro ?_ ?_ | intro _))
  all_goals try exact oH
  all_goals try simp only [hle]
  all_goals try (refine ⟨_, fun _ => hz P C, ?_⟩)
  iterate 2 (all_goals try cbv; all_goals repeat' (first | with_reducible exact True.intro | with_reducible refine And.intro ?_ ?_ | intro _))
  all_goals try exact oH
  refine ⟨_, hsm P C, ?_⟩
  iterate 2 (all_goals try cbv; all_goals repeat' (first | with_reducible exact True.intro | with_reducible refine And.intro ?_ ?_ | intro _))
  all_goals try exact oH
  refine ⟨_, hov P C, ?_⟩
  iterate 2 (all_goals try cbv; all_goals repeat' (first | with_reducible exact True.intro | with_reducible refine And.intro ?_ ?_ | intro _))
  all_goals try exact oH

/-- a number in canonical form, rounded -/
theorem xRounded {d : Dyadic} {low m : Int} (hl : (dg (cZ d).natAbs).length ≤ 500000) (hE : (cE d).natAbs ≤ 1000000) (hb : low.natAbs ≤ 1000000) {L E : Nat} (hL : (dg (cZ d).natAbs).length + 2 ≤ L) (hE2 : (cE d).natAbs ≤ E) (hb2 : low.natAbs ≤ E) :
    ∃ (y : Cell3) (ex : Bool), X (roundD d low m) L E y ∧
      ∀ (P : Program) (gl : List (Nat × Obj)) (p r : List PV), Cx P gl → p = intsL (canY d).2.1 → r = intsL y.2.1 → FS P gl 105 [.agg [B (canY d).1, .lst p, I (canY d).2.2], I low, I m] (· = .tup [.agg [B y.1, .lst r, I y.2.2], B ex]) := by
  by_cases h : d = 0 ∨ low ≤ cE d
  · refine ⟨canY d, true, ?_, ?_⟩
    · rw [roundD_same h]
      exact ⟨cZ d, rfl, rfl, (mk_canon d).symm, by omega, hE2⟩
    · intro P gl p r C hp hr
      rw [hr, ← hp]
      refine roundedS_fs C hp rfl rfl ?_
      rcases h with h | h
      · left
        refine decide_eq_true ?_
        show (dg (cZ d).natAbs).length = 0
        rw [h, cZ_zero, show Int.natAbs 0 = 0 from rfl, dg_zero]
        rfl
      · right; exact decide_eq_true h
  · have hd : d ≠ 0 := fun e => h (.inl e)
    have hlt : cE d < low := by apply Int.lt_of_not_ge; intro e; exact h (.inr e)
    obtain ⟨z, hz⟩ : ∃ z, z = zover (cZ d) 1 (cE d - low) m := ⟨_, rfl⟩
    have hzl := zover_len (cZ d) 1 (cE d - low) m
    rw [← hz, show (cE d - low).toNat = 0 by omega] at hzl
    refine ⟨(decide (z < 0), dg z.natAbs, low), decide ((cZ d).natAbs * 2 ^ (cE d - low).toNat % ((1 : Int).natAbs * 2 ^ (-(cE d - low)).toNat) = 0), ⟨z, rfl, rfl, by rw [roundD_else h, hz], by omega, hb2⟩, ?_⟩
    intro P gl p r C hp hr
    exact roundedO_fs C hp rfl (by rw [Ne, cZ_eq_zero]; exact hd) hlt hz hr rfl rfl hE hb hl

end Tryz
end Go.Proofs
