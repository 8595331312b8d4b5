/- Contracts: IvMatDiv in the program and in the reference. -/
import Derived.Test.YtlkiofkkjbodjaaGreatDoorAP15
set_option maxHeartbeats 2000000
set_option maxRecDepth 100000
namespace Go.Proofs
open Go Go.Pe Go.Dg
namespace Tryz
set_option linter.unusedSimpArgs false
set_option linter.unusedVariables false
variable {P : Program} {gl : List (Nat × Obj)}

theorem implIvMatDiv_o_fx (C : Cx P gl) {vs : List Cell6} {p r : List PV} {n : Int} {kd low : Int} (hp : p = cells6 vs) (ok : ivmOk n vs ∧ (1 ≤ kd ∧ kd ≤ 1000000) ∧ -200 ≤ low ∧ low ≤ 200) (fit : ∀ k, k < vs.length → fits ((fun k => divD (dvA vs k) (mk kd 0) low 3) k) ∧ fits ((fun k => divD (dvB vs k) (mk kd 0) low 2) k)) (hr : r = cells6 (canV (fun k => divD (dvA vs k) (mk kd 0) low 3) (fun k => divD (dvB vs k) (mk kd 0) low 2) vs.length))
  (hl : vs.length ≤ 2000000) (hy : ∀ v ∈ vs, v.1.2.1.length ≤ 2000000 ∧ v.2.2.1.length ≤ 2000000) :
  FX P gl 17 [] [.pv (.agg [I n, .lst p]), .pv (I kd), .pv (I low)] (fun own rr => own = [.tree 110 6 3 r] ∧ rr = .tup [.agg [.pv (I n), .own 0], .pv (B true)]) := by
 obtain ⟨ok1, ok2⟩ := ok
 have am := fun (P' : Program) (C' : Cx P' gl) => implIvMatOk_fs C' (n := n) (b := true) hp ⟨fun _ => ok1, fun _ => rfl⟩ hl hy
 obtain ⟨n1, n4, hvl, hva⟩ := ok1
 have hvl2 := ivmLen n1 n4 hvl
 obtain ⟨xs, x1, x2, x3⟩ := ivDivided_ex (n := n) (low := low) hva ok2.1.1 ok2.1.2 (by omega) hvl2
 obtain ⟨px, hpx⟩ : ∃ px, px = cells6 xs := ⟨_, rfl⟩
 have gr := fun (P' : Program) (C' : Cx P' gl) => x3 P' gl p px C' hp hpx
 have g1 := fun (P' : Program) (C' : Cx P' gl) => ivField_fs C' (n := n) hp hl
 have lo := fun (P' : Program) (C' : Cx P' gl) => isFine_fs C' (n := low) (b := true) (by rw [decide_eq_true ok2.2.1, decide_eq_true ok2.2.2]; rfl)
 have wi := fun (P' : Program) (C' : Cx P' gl) => within_fs C' (n := kd) (l := 1) (h := 1000000) (b := true) (by rw [decide_eq_true ok2.1.1, decide_eq_true ok2.1.2]; rfl)
 have mt := fun (P' : Program) (C' : Cx P' gl) => ivMat_fn C' (n := n) (r := r) hpx x2 (by omega) (by omega) (fun k hk => fit k (by omega)) (by rw [hr, x1]) (by omega)
 clear x1 x2 x3 hva  hvl hpx fit hp hy  hr
 obtain ⟨rfl, hG⟩ := C
 refine FX_ofC (own := fun A => []) (args := fun A => [.pv (.agg [I n, .lst p]), .pv (I kd), .pv (I low)]) (R := fun A ow rr => ow = [.tree 110 6 3 r] ∧ rr = .tup [.agg [.pv (I n), .own 0], .pv (B true)]) Tryz.hT Tryz.mix Tryz.func17 rfl rfl (Nat.le_of_ble_eq_true rfl) ?_
 generalize hP : Tryz.prog = P
 intro A hA
 have C : Tryz.Cx P gl := ⟨hP.symm, hG⟩
 have hI : intsL = A.ints := by subst hA; rfl
 have q1 : A.bnot true = false := by subst hA; rfl
 have q2 : A.bnot false = true := by subst hA; rfl
 have q3 : ∀ x, A.pick false true x = x := fun x => by subst hA; cases x <;> rfl
 have q4 : ∀ x, A.pick true true x = true := fun x => by subst hA; cases x <;> rfl
 iterate 2 (all_goals try cbv; all_goals with_reducible repeat' first | exact True.intro | refine And.intro ?_ ?_ | intro _)
 all_goals try exact oI
 refine callS hA rfl (am P C) ?_; rintro _ rfl
 iterate 2 (all_goals try cbv; all_goals with_reducible repeat' first | exact True.intro | refine And.intro ?_ ?_ | intro _)
 all_goals try exact oI
 all_goals try simp only [q1, q2, q3, q4]
 refine ⟨_, fun _ => wi P C, ?_⟩
 iterate 2 (all_goals try cbv; all_goals with_reducible repeat' first | exact True.intro | refine And.intro ?_ ?_ | intro _)
 all_goals try exact oI
 all_goals try simp only [q1, q2, q3, q4]
 refine ⟨_, fun _ => lo P C, ?_⟩
 iterate 2 (all_goals try cbv; all_goals with_reducible repeat' first | exact True.intro | refine And.intro ?_ ?_ | intro _)
 all_goals try exact oI
 all_goals try simp only [q1, q2, q3, q4]
 iterate 2 (all_goals try cbv; all_goals with_reducible repeat' first | exact True.intro | refine And.intro ?_ ?_ | intro _)
 all_goals try exact oI
 all_goals try simp only [q1, q2, q3, q4]
 first | (refine callS hA rfl (g1 P C) ?_; rintro _ rfl) | refine ⟨_, g1 P C, ?_⟩
 iterate 2 (all_goals try cbv; all_goals with_reducible repeat' first | exact True.intro | refine And.intro ?_ ?_ | intro _)
 all_goals try exact oI
 first | (refine callS hA rfl (gr P C) ?_; rintro _ rfl) | refine ⟨_, gr P C, ?_⟩
 iterate 2 (all_goals try cbv; all_goals with_reducible repeat' first | exact True.intro | refine And.intro ?_ ?_ | intro _)
 all_goals try exact oI
 refine callN hA rfl (mt P C) ?_; rintro _ _ ⟨rfl, rfl⟩; refine ⟨rfl, ?_⟩
 iterate 2 (all_goals try cbv; all_goals with_reducible repeat' first | exact True.intro | refine And.intro ?_ ?_ | intro _)
 all_goals try exact oI
 subst hA
 exact ⟨[2], _, _, by decide, Nat.zero_le _, rfl, rfl, rfl, rfl, rfl, rfl⟩

theorem implIvMatDiv_o_fn (C : Cx P gl) {vs : List Cell6} {p r : List PV} {n : Int} {kd low : Int} (hp : p = cells6 vs) (ok : ivmOk n vs ∧ (1 ≤ kd ∧ kd ≤ 1000000) ∧ -200 ≤ low ∧ low ≤ 200) (fit : ∀ k, k < vs.length → fits ((fun k => divD (dvA vs k) (mk kd 0) low 3) k) ∧ fits ((fun k => divD (dvB vs k) (mk kd 0) low 2) k)) (hr : r = cells6 (canV (fun k => divD (dvA vs k) (mk kd 0) low 3) (fun k => divD (dvB vs k) (mk kd 0) low 2) vs.length))
  (hl : vs.length ≤ 2000000) (hy : ∀ v ∈ vs, v.1.2.1.length ≤ 2000000 ∧ v.2.2.1.length ≤ 2000000) :
  FN P gl 17 [.agg [I n, .lst p], I kd, I low] (fun own rr => own = [.tree 110 6 3 r] ∧ rr = .tup [.agg [.pv (I n), .own 0], .pv (B true)]) :=
 FN_of (implIvMatDiv_o_fx C hp ok fit hr hl hy) (by rintro _ _ ⟨rfl, rfl⟩; exact ⟨by simp [closedB], rfl⟩)

theorem implIvMatDiv_X_fs (C : Cx P gl) {vs : List Cell6} {p : List PV} {n : Int} {kd low : Int} (hp : p = cells6 vs) (ok : ivmOk n vs ∧ (1 ≤ kd ∧ kd ≤ 1000000) ∧ -200 ≤ low ∧ low ≤ 200) (fit : ¬∀ k, k < vs.length → fits ((fun k => divD (dvA vs k) (mk kd 0) low 3) k) ∧ fits ((fun k => divD (dvB vs k) (mk kd 0) low 2) k))
  (hl : vs.length ≤ 2000000) (hy : ∀ v ∈ vs, v.1.2.1.length ≤ 2000000 ∧ v.2.2.1.length ≤ 2000000) :
  FS P gl 17 [.agg [I n, .lst p], I kd, I low] (· = .tup [.agg [I 0, .lst []], B false]) := by
 obtain ⟨ok1, ok2⟩ := ok
 have am := fun (P' : Program) (C' : Cx P' gl) => implIvMatOk_fs C' (n := n) (b := true) hp ⟨fun _ => ok1, fun _ => rfl⟩ hl hy
 obtain ⟨n1, n4, hvl, hva⟩ := ok1
 have hvl2 := ivmLen n1 n4 hvl
 obtain ⟨xs, x1, x2, x3⟩ := ivDivided_ex (n := n) (low := low) hva ok2.1.1 ok2.1.2 (by omega) hvl2
 obtain ⟨px, hpx⟩ : ∃ px, px = cells6 xs := ⟨_, rfl⟩
 have gr := fun (P' : Program) (C' : Cx P' gl) => x3 P' gl p px C' hp hpx
 have g1 := fun (P' : Program) (C' : Cx P' gl) => ivField_fs C' (n := n) hp hl
 have lo := fun (P' : Program) (C' : Cx P' gl) => isFine_fs C' (n := low) (b := true) (by rw [decide_eq_true ok2.2.1, decide_eq_true ok2.2.2]; rfl)
 have wi := fun (P' : Program) (C' : Cx P' gl) => within_fs C' (n := kd) (l := 1) (h := 1000000) (b := true) (by rw [decide_eq_true ok2.1.1, decide_eq_true ok2.1.2]; rfl)
 have mt := fun (P' : Program) (C' : Cx P' gl) => ivMat_fs C' (n := n) hpx x2 (by omega) (by omega) (fun h => fit (fun k hk => h k (by omega))) (by omega)
 clear x1 x2 x3 hva  hvl hpx fit hp hy
 obtain ⟨rfl, hG⟩ := C
 refine FS_ofC (args := fun A => [.agg [I n, .lst p], I kd, I low]) (R := fun A rr => rr = .tup [.agg [I 0, .lst []], B false]) Tryz.hT Tryz.mix Tryz.func17 rfl rfl (Nat.le_of_ble_eq_true rfl) ?_
 generalize hP : Tryz.prog = P
 intro A hA
 have C : Tryz.Cx P gl := ⟨hP.symm, hG⟩
 have hI : intsL = A.ints := by subst hA; rfl
 have q1 : A.bnot true = false := by subst hA; rfl
 have q2 : A.bnot false = true := by subst hA; rfl
 have q3 : ∀ x, A.pick false true x = x := fun x => by subst hA; cases x <;> rfl
 have q4 : ∀ x, A.pick true true x = true := fun x => by subst hA; cases x <;> rfl
 iterate 2 (all_goals try cbv; all_goals with_reducible repeat' first | exact True.intro | refine And.intro ?_ ?_ | intro _)
 all_goals try exact oI
 refine callS hA rfl (am P C) ?_; rintro _ rfl
 iterate 2 (all_goals try cbv; all_goals with_reducible repeat' first | exact True.intro | refine And.intro ?_ ?_ | intro _)
 all_goals try exact oI
 all_goals try simp only [q1, q2, q3, q4]
 refine ⟨_, fun _ => wi P C, ?_⟩
 iterate 2 (all_goals try cbv; all_goals with_reducible repeat' first | exact True.intro | refine And.intro ?_ ?_ | intro _)
 all_goals try exact oI
 all_goals try simp only [q1, q2, q3, q4]
 refine ⟨_, fun _ => lo P C, ?_⟩
 iterate 2 (all_goals try cbv; all_goals with_reducible repeat' first | exact True.intro | refine And.intro ?_ ?_ | intro _)
 all_goals try exact oI
 all_goals try simp only [q1, q2, q3, q4]
 iterate 2 (all_goals try cbv; all_goals with_reducible repeat' first | exact True.intro | refine And.intro ?_ ?_ | intro _)
 all_goals try exact oI
 all_goals try simp only [q1, q2, q3, q4]
 first | (refine callS hA rfl (g1 P C) ?_; rintro _ rfl) | refine ⟨_, g1 P C, ?_⟩
 iterate 2 (all_goals try cbv; all_goals with_reducible repeat' first | exact True.intro | refine And.intro ?_ ?_ | intro _)
 all_goals try exact oI
 first | (refine callS hA rfl (gr P C) ?_; rintro _ rfl) | refine ⟨_, gr P C, ?_⟩
 iterate 2 (all_goals try cbv; all_goals with_reducible repeat' first | exact True.intro | refine And.intro ?_ ?_ | intro _)
 all_goals try exact oI
 first | (refine callS hA rfl (mt P C) ?_; rintro _ rfl) | refine ⟨_, mt P C, ?_⟩
 iterate 2 (all_goals try cbv; all_goals with_reducible repeat' first | exact True.intro | refine And.intro ?_ ?_ | intro _)
 all_goals try exact oI

theorem implIvMatDiv_N_fs (C : Cx P gl) {vs : List Cell6} {p : List PV} {n : Int} {kd low : Int} (hp : p = cells6 vs) (ok : ¬(ivmOk n vs ∧ (1 ≤ kd ∧ kd ≤ 1000000) ∧ -200 ≤ low ∧ low ≤ 200))
  (hl : vs.length ≤ 2000000) (hy : ∀ v ∈ vs, v.1.2.1.length ≤ 2000000 ∧ v.2.2.1.length ≤ 2000000) :
  FS P gl 17 [.agg [I n, .lst p], I kd, I low] (· = .tup [.agg [I 0, .lst []], B false]) := by
 obtain ⟨b0, hb0⟩ := bool_of (ivmOk n vs)
 have am := fun (P' : Program) (C' : Cx P' gl) => implIvMatOk_fs C' (n := n) hp hb0 hl hy
 obtain ⟨b1, hlb1⟩ : ∃ b, b = (decide (1 ≤ kd) && decide (kd ≤ 1000000)) := ⟨_, rfl⟩
 obtain ⟨b2, hlb2⟩ : ∃ b, b = (decide (-200 ≤ low) && decide (low ≤ 200)) := ⟨_, rfl⟩
 have lo1 := fun (P' : Program) (C' : Cx P' gl) => within_fs C' hlb1
 have lo2 := fun (P' : Program) (C' : Cx P' gl) => isFine_fs C' hlb2
 have hno : b0 = true → b1 = true → b2 = true → False := by
  intro h1 h2 h3
  rw [hlb1, Bool.and_eq_true, decide_eq_true_eq, decide_eq_true_eq] at h2
  rw [hlb2, Bool.and_eq_true, decide_eq_true_eq, decide_eq_true_eq] at h3
  exact ok ⟨hb0.1 h1, h2, h3⟩
 clear ok hp hy hb0 hlb1 hlb2
 obtain ⟨rfl, hG⟩ := C
 refine FS_ofT (args := fun A => [.agg [I n, .lst p], I kd, I low]) (R := fun A rr => rr = .tup [.agg [I 0, .lst []], B false]) Tryz.hT Tryz.mix Tryz.func17 rfl rfl (Nat.le_of_ble_eq_true rfl) ?_
 generalize hP : Tryz.prog = P
 intro A hA
 have C : Tryz.Cx P gl := ⟨hP.symm, hG⟩
 have hI : intsL = A.ints := by subst hA; rfl
 iterate 2 (all_goals try cbv; all_goals with_reducible repeat' first | exact True.intro | refine And.intro ?_ ?_ | intro _)
 all_goals try exact oI
 refine callS hA rfl (am P C) ?_; rintro _ rfl
 iterate 2 (all_goals try cbv; all_goals with_reducible repeat' first | exact True.intro | refine And.intro ?_ ?_ | intro _)
 all_goals try exact oI
 refine ⟨_, fun _ => lo1 P C, ?_⟩
 iterate 2 (all_goals try cbv; all_goals with_reducible repeat' first | exact True.intro | refine And.intro ?_ ?_ | intro _)
 all_goals try exact oI
 refine ⟨_, fun _ => lo2 P C, ?_⟩
 iterate 2 (all_goals try cbv; all_goals with_reducible repeat' first | exact True.intro | refine And.intro ?_ ?_ | intro _)
 all_goals try exact oI
 iterate 2 (all_goals try cbv; all_goals with_reducible repeat' first | exact True.intro | refine And.intro ?_ ?_ | intro _)
 all_goals try exact oI
 all_goals (
  exfalso
  rename_i gg
  clear am lo1 lo2 hI
  subst hA
  revert gg hno
  cases b0 <;> cases b1 <;> cases b2 <;> intro hno gg <;> first | exact hno rfl rfl rfl | exact absurd gg (by decide))

theorem specIvMatDiv_N_fs (C : Cx P gl) {vs : List Cell6} {p : List PV} {n : Int} {kd low : Int} (hp : p = cells6 vs) (ok : ¬(ivmOk n vs ∧ (1 ≤ kd ∧ kd ≤ 1000000) ∧ -200 ≤ low ∧ low ≤ 200))
  (hl : vs.length ≤ 2000000) (hy : ∀ v ∈ vs, v.1.2.1.length ≤ 2000000 ∧ v.2.2.1.length ≤ 2000000) :
  FS P gl 16 [.agg [I n, .lst p], I kd, I low] (· = .tup [.agg [I 0, .lst []], B false]) := by
 obtain ⟨b0, hb0⟩ := bool_of (ivmOk n vs)
 have am := fun (P' : Program) (C' : Cx P' gl) => specIvMatOk_fs C' (n := n) hp hb0 hl hy
 obtain ⟨b2, hlb2⟩ : ∃ b, b = (decide (-200 ≤ low) && decide (low ≤ 200)) := ⟨_, rfl⟩
 obtain ⟨d1, hd1⟩ : ∃ b, b = decide (kd < 1) := ⟨_, rfl⟩
 obtain ⟨d2, hd2⟩ : ∃ b, b = decide (1000000 < kd) := ⟨_, rfl⟩
 have lo2 := fun (P' : Program) (C' : Cx P' gl) => l7low_fs C' hlb2
 have hno : b0 = true → d1 = false → d2 = false → b2 = true → False := by
  intro h1 h2 h3 h4
  rw [hd1, decide_eq_false_iff_not] at h2
  rw [hd2, decide_eq_false_iff_not] at h3
  rw [hlb2, Bool.and_eq_true, decide_eq_true_eq, decide_eq_true_eq] at h4
  exact ok ⟨hb0.1 h1, ⟨by omega, by omega⟩, h4⟩
 obtain ⟨rfl, hG⟩ := C
 refine FS_ofT (args := fun A => [.agg [I n, .lst p], I kd, I low]) (R := fun A rr => rr = .tup [.agg [I 0, .lst []], B false]) Tryz.hT Tryz.mix Tryz.func16 rfl rfl (Nat.le_of_ble_eq_true rfl) ?_
 generalize hP : Tryz.prog = P
 intro A hA
 have C : Tryz.Cx P gl := ⟨hP.symm, hG⟩
 have hI : intsL = A.ints := by subst hA; rfl
 have f1 : A.lt kd 1 = d1 := by rw [hd1]; subst hA; rfl
 have f2 : A.lt 1000000 kd = d2 := by rw [hd2]; subst hA; rfl
 clear ok hp hy hb0 hlb2 hd1 hd2
 iterate 2 (all_goals try cbv; all_goals with_reducible repeat' first | exact True.intro | refine And.intro ?_ ?_ | intro _)
 all_goals try exact oI
 refine callS hA rfl (am P C) ?_; rintro _ rfl
 iterate 2 (all_goals try cbv; all_goals with_reducible repeat' first | exact True.intro | refine And.intro ?_ ?_ | intro _)
 all_goals try exact oI
 refine ⟨_, fun _ => lo2 P C, ?_⟩
 iterate 2 (all_goals try cbv; all_goals with_reducible repeat' first | exact True.intro | refine And.intro ?_ ?_ | intro _)
 all_goals try exact oI
 iterate 2 (all_goals try cbv; all_goals with_reducible repeat' first | exact True.intro | refine And.intro ?_ ?_ | intro _)
 all_goals try exact oI
 all_goals (
  exfalso
  rename_i gg
  have hh : A.pick (A.pick (A.pick (A.bnot b0) true d1) true d2) true (A.bnot b2) = false := by rw [← f1, ← f2]; exact gg
  clear am lo2 hI gg f1 f2
  subst hA
  revert hh hno
  cases b0 <;> cases d1 <;> cases d2 <;> cases b2 <;> intro hno hh <;> first | exact hno rfl rfl rfl rfl | exact absurd hh (by decide))

theorem specIvMatDiv_fs (C : Cx P gl) {vs : List Cell6} {p r : List PV} {n : Int} {kd low : Int} {n' : Int} {w : Bool} (hp : p = cells6 vs) (hw : w = true ↔ (ivmOk n vs ∧ (1 ≤ kd ∧ kd ≤ 1000000) ∧ -200 ≤ low ∧ low ≤ 200) ∧ ∀ k, k < vs.length → fits ((fun k => divD (dvA vs k) (mk kd 0) low 3) k) ∧ fits ((fun k => divD (dvB vs k) (mk kd 0) low 2) k))
  (h1 : w = true → r = cells6 (canV (fun k => divD (dvA vs k) (mk kd 0) low 3) (fun k => divD (dvB vs k) (mk kd 0) low 2) vs.length) ∧ n' = n) (h2 : w = false → r = [] ∧ n' = 0)
  (hl : vs.length ≤ 2000000) (hy : ∀ v ∈ vs, v.1.2.1.length ≤ 2000000 ∧ v.2.2.1.length ≤ 2000000) :
  FS P gl 16 [.agg [I n, .lst p], I kd, I low] (· = .tup [.agg [I n', .lst r], B w]) := by
 obtain ⟨b, hb⟩ := bool_of (ivmOk n vs ∧ (1 ≤ kd ∧ kd ≤ 1000000) ∧ -200 ≤ low ∧ low ≤ 200)
 cases b with
 | false =>
  have hwf : w = false := by
   cases hwc : w with
   | false => rfl
   | true => exact absurd (hb.2 (hw.1 hwc).1) (by decide)
  obtain ⟨e1, e2⟩ := h2 hwf
  rw [e1, e2, hwf]
  exact specIvMatDiv_N_fs C hp (fun h => absurd (hb.2 h) (by decide)) hl hy
 | true =>
  have ok := hb.1 rfl
  obtain ⟨ok1, ok2⟩ := ok
  have am := fun (P' : Program) (C' : Cx P' gl) => specIvMatOk_fs C' (n := n) (b := true) hp ⟨fun _ => ok1, fun _ => rfl⟩ hl hy
  obtain ⟨n1, n4, hvl, hva⟩ := ok1
  have hvl2 := ivmLen n1 n4 hvl
  have lo := fun (P' : Program) (C' : Cx P' gl) => l7low_fs C' (n := low) (b := true) (by rw [decide_eq_true ok2.2.1, decide_eq_true ok2.2.2]; rfl)
  obtain ⟨kn, hkn⟩ : ∃ kn : Nat, kd = kn := ⟨kd.toNat, by omega⟩
  obtain ⟨pw, hpw⟩ : ∃ pw, pw = cells6 (canV (fun k => divD (dvA vs k) (mk kd 0) low 3) (fun k => divD (dvB vs k) (mk kd 0) low 2) vs.length) := ⟨_, rfl⟩
  have ad := fun (P' : Program) (C' : Cx P' gl) => l10div_fs C' (n := n) (kd := kd) (low := low) (r := pw) (qk := intsL (dg kn)) (qd := intsL (dg (cZ (mk kd 0)).natAbs)) (ud := decide (cZ (mk kd 0) < 0)) (gd := cE (mk kd 0)) (Y := fun k => (canY (divD (dvA vs k) (mk kd 0) low 3), canY (divD (dvB vs k) (mk kd 0) low 2))) hp hpw (by omega) (by omega) hvl (fun P2 C2 => l3ofK_fs C2 hkn rfl (by omega)) (fun P2 C2 => l4makeK_fs C2 hkn rfl (by omega)) (fun k hk => l4divV hva hk ok2.1.1 ok2.1.2 (by omega))
  have hwm : w = true ↔ ivmOk n (canV (fun k => divD (dvA vs k) (mk kd 0) low 3) (fun k => divD (dvB vs k) (mk kd 0) low 2) vs.length) := by
   constructor
   ·intro h
    exact ⟨n1, n4, by rw [canV_len]; exact hvl, canV_ok.2 (fun k hk => ⟨((hw.1 h).2 k hk).1, ((hw.1 h).2 k hk).2, (fun k hk => divD_le (mkK_pos ok2.1.1) (allV_le hva hk)) k hk⟩)⟩
   ·intro h
    exact hw.2 ⟨hb.1 rfl, fun k hk => ⟨(canV_ok.1 h.2.2.2 k hk).1, (canV_ok.1 h.2.2.2 k hk).2.1⟩⟩
  have bnd : ∀ k, k < vs.length → (dg (cZ ((fun k => divD (dvA vs k) (mk kd 0) low 3) k)).natAbs).length ≤ 100000 ∧ (dg (cZ ((fun k => divD (dvB vs k) (mk kd 0) low 2) k)).natAbs).length ≤ 100000 := fun k hk => vdiv_len hva hk ok2.1.1 ok2.1.2 (by omega)
  have ft := fun (P' : Program) (C' : Cx P' gl) => l10fits_fs C' (n := n) (n' := n') (q := r) (b := w) (L := 100000) hpw (canV_W bnd) (by omega) (by rw [canV_len]; omega) hwm (fun h => by rw [hpw]; exact h1 h) h2
  clear h1 h2 hw hb hp hy  hwm hpw hva  hvl bnd
  obtain ⟨rfl, hG⟩ := C
  refine FS_ofT (args := fun A => [.agg [I n, .lst p], I kd, I low]) (R := fun A rr => rr = .tup [.agg [I n', .lst r], B w]) Tryz.hT Tryz.mix Tryz.func16 rfl rfl (Nat.le_of_ble_eq_true rfl) ?_
  generalize hP : Tryz.prog = P
  intro A hA
  have C : Tryz.Cx P gl := ⟨hP.symm, hG⟩
  have hI : intsL = A.ints := by subst hA; rfl
  have q1 : A.bnot true = false := by subst hA; rfl
  have q2 : A.bnot false = true := by subst hA; rfl
  have q3 : ∀ x, A.pick false true x = x := fun x => by subst hA; cases x <;> rfl
  have q4 : ∀ x, A.pick true true x = true := fun x => by subst hA; cases x <;> rfl
  have q5 : A.lt kd 1 = false := by clear am lo ad ft; subst hA; exact decide_eq_false (by omega)
  have q6 : A.lt 1000000 kd = false := by clear am lo ad ft; subst hA; exact decide_eq_false (by omega)
  iterate 2 (all_goals try cbv; all_goals with_reducible repeat' first | exact True.intro | refine And.intro ?_ ?_ | intro _)
  all_goals try exact oI
  refine callS hA rfl (am P C) ?_; rintro _ rfl
  iterate 2 (all_goals try cbv; all_goals with_reducible repeat' first | exact True.intro | refine And.intro ?_ ?_ | intro _)
  all_goals try exact oI
  all_goals try simp only [q1, q2, q3, q4, q5, q6]
  refine ⟨_, fun _ => lo P C, ?_⟩
  iterate 2 (all_goals try cbv; all_goals with_reducible repeat' first | exact True.intro | refine And.intro ?_ ?_ | intro _)
  all_goals try exact oI
  all_goals try simp only [q1, q2, q3, q4, q5, q6]
  iterate 2 (all_goals try cbv; all_goals with_reducible repeat' first | exact True.intro | refine And.intro ?_ ?_ | intro _)
  all_goals try exact oI
  all_goals try simp only [q1, q2, q3, q4, q5, q6]
  first | (refine callS hA rfl (ad P C) ?_; rintro _ rfl) | refine ⟨_, ad P C, ?_⟩
  iterate 2 (all_goals try cbv; all_goals with_reducible repeat' first | exact True.intro | refine And.intro ?_ ?_ | intro _)
  all_goals try exact oI
  first | (refine callS hA rfl (ft P C) ?_; rintro _ rfl) | refine ⟨_, ft P C, ?_⟩
  iterate 2 (all_goals try cbv; all_goals with_reducible repeat' first | exact True.intro | refine And.intro ?_ ?_ | intro _)
  all_goals try exact oI

end Tryz
end Go.Proofs
