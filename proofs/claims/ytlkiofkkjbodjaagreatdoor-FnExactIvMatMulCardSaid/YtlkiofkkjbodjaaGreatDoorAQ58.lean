/- Contracts: IvMatMul in the program and in the reference. -/
import Derived.Test.YtlkiofkkjbodjaaGreatDoorAP16
set_option maxHeartbeats 2000000
set_option maxRecDepth 100000
namespace Go.Proofs
open Go Go.Pe Go.Dg
namespace Tryz
set_option linter.unusedSimpArgs false
set_option linter.unusedVariables false
variable {P : Program} {gl : List (Nat × Obj)}

theorem implIvMatMul_o_fx (C : Cx P gl) {vs ws : List Cell6} {p q r : List PV} {n m : Int} (hp : p = cells6 vs) (hq : q = cells6 ws) (ok : ivmOk n vs ∧ ivmOk m ws ∧ n = m) (fit : ∀ k, k < vs.length → fits ((ivmLo n vs ws) k) ∧ fits ((ivmHi n vs ws) k)) (hr : r = cells6 (canV (ivmLo n vs ws) (ivmHi n vs ws) vs.length))
  (hl : vs.length ≤ 2000000) (hy : ∀ v ∈ vs, v.1.2.1.length ≤ 2000000 ∧ v.2.2.1.length ≤ 2000000) (hm : ws.length ≤ 2000000) (hz : ∀ v ∈ ws, v.1.2.1.length ≤ 2000000 ∧ v.2.2.1.length ≤ 2000000) :
  FX P gl 19 [] [.pv (.agg [I n, .lst p]), .pv (.agg [I m, .lst q])] (fun own rr => own = [.tree 110 6 3 r] ∧ rr = .tup [.agg [.pv (I n), .own 0], .pv (B true)]) := by
 obtain ⟨ok1, ok2, rfl⟩ := ok
 have am := fun (P' : Program) (C' : Cx P' gl) => areIvMats_fs C' (n := n) (m := n) (b := true) hp hq ⟨fun _ => ⟨ok1, ok2, rfl⟩, fun _ => rfl⟩ hl hy hm hz
 obtain ⟨n1, n4, hvl, hva⟩ := ok1
 obtain ⟨_, _, hwl, hwa⟩ := ok2
 have hlw : ws.length = vs.length := by omega
 have hvl2 := ivmLen n1 n4 hvl
 obtain ⟨xs, x1, x2, x3⟩ := ivTimes_ex n1 n4 hvl hwl hva hwa
 obtain ⟨px, hpx⟩ : ∃ px, px = cells6 xs := ⟨_, rfl⟩
 have gr := fun (P' : Program) (C' : Cx P' gl) => x3 P' gl p q px C' hp hq hpx
 have g1 := fun (P' : Program) (C' : Cx P' gl) => ivField_fs C' (n := n) hp hl
 have g2 := fun (P' : Program) (C' : Cx P' gl) => ivField_fs C' (n := n) hq hm
 have mt := fun (P' : Program) (C' : Cx P' gl) => ivMat_fn C' (n := n) (r := r) hpx x2 (by omega) (by omega) (fun k hk => fit k (by omega)) (by rw [hr, x1]) (by omega)
 clear x1 x2 x3 hva hwa hwl hvl hpx fit hp hq hy hz hr
 obtain ⟨rfl, hG⟩ := C
 refine FX_ofC (own := fun A => []) (args := fun A => [.pv (.agg [I n, .lst p]), .pv (.agg [I n, .lst q])]) (R := fun A ow rr => ow = [.tree 110 6 3 r] ∧ rr = .tup [.agg [.pv (I n), .own 0], .pv (B true)]) Tryz.hT Tryz.mix Tryz.func19 rfl rfl (Nat.le_of_ble_eq_true rfl) ?_
 generalize hP : Tryz.prog = P
 intro A hA
 have C : Tryz.Cx P gl := ⟨hP.symm, hG⟩
 have hI : intsL = A.ints := by subst hA; rfl
 have q1 : A.bnot true = false := by subst hA; rfl
 have q2 : A.bnot false = true := by subst hA; rfl
 have q3 : ∀ x, A.pick false true x = x := fun x => by subst hA; cases x <;> rfl
 have q4 : ∀ x, A.pick true true x = true := fun x => by subst hA; cases x <;> rfl
 iterate 2 (all_goals try cbv; all_goals with_reducible repeat' first | exact True.intro | refine And.intro ?_ ?_ | intro _)
 all_goals try exact oI
 refine callS hA rfl (am P C) ?_; rintro _ rfl
 iterate 2 (all_goals try cbv; all_goals with_reducible repeat' first | exact True.intro | refine And.intro ?_ ?_ | intro _)
 all_goals try exact oI
 all_goals try simp only [q1, q2, q3, q4]
 iterate 2 (all_goals try cbv; all_goals with_reducible repeat' first | exact True.intro | refine And.intro ?_ ?_ | intro _)
 all_goals try exact oI
 all_goals try simp only [q1, q2, q3, q4]
 first | (refine callS hA rfl (g1 P C) ?_; rintro _ rfl) | refine ⟨_, g1 P C, ?_⟩
 iterate 2 (all_goals try cbv; all_goals with_reducible repeat' first | exact True.intro | refine And.intro ?_ ?_ | intro _)
 all_goals try exact oI
 first | (refine callS hA rfl (g2 P C) ?_; rintro _ rfl) | refine ⟨_, g2 P C, ?_⟩
 iterate 2 (all_goals try cbv; all_goals with_reducible repeat' first | exact True.intro | refine And.intro ?_ ?_ | intro _)
 all_goals try exact oI
 first | (refine callS hA rfl (gr P C) ?_; rintro _ rfl) | refine ⟨_, gr P C, ?_⟩
 iterate 2 (all_goals try cbv; all_goals with_reducible repeat' first | exact True.intro | refine And.intro ?_ ?_ | intro _)
 all_goals try exact oI
 refine callN hA rfl (mt P C) ?_; rintro _ _ ⟨rfl, rfl⟩; refine ⟨rfl, ?_⟩
 iterate 2 (all_goals try cbv; all_goals with_reducible repeat' first | exact True.intro | refine And.intro ?_ ?_ | intro _)
 all_goals try exact oI
 subst hA
 exact ⟨[3], _, _, by decide, Nat.zero_le _, rfl, rfl, rfl, rfl, rfl, rfl⟩

theorem implIvMatMul_o_fn (C : Cx P gl) {vs ws : List Cell6} {p q r : List PV} {n m : Int} (hp : p = cells6 vs) (hq : q = cells6 ws) (ok : ivmOk n vs ∧ ivmOk m ws ∧ n = m) (fit : ∀ k, k < vs.length → fits ((ivmLo n vs ws) k) ∧ fits ((ivmHi n vs ws) k)) (hr : r = cells6 (canV (ivmLo n vs ws) (ivmHi n vs ws) vs.length))
  (hl : vs.length ≤ 2000000) (hy : ∀ v ∈ vs, v.1.2.1.length ≤ 2000000 ∧ v.2.2.1.length ≤ 2000000) (hm : ws.length ≤ 2000000) (hz : ∀ v ∈ ws, v.1.2.1.length ≤ 2000000 ∧ v.2.2.1.length ≤ 2000000) :
  FN P gl 19 [.agg [I n, .lst p], .agg [I m, .lst q]] (fun own rr => own = [.tree 110 6 3 r] ∧ rr = .tup [.agg [.pv (I n), .own 0], .pv (B true)]) :=
 FN_of (implIvMatMul_o_fx C hp hq ok fit hr hl hy hm hz) (by rintro _ _ ⟨rfl, rfl⟩; exact ⟨by simp [closedB], rfl⟩)

theorem implIvMatMul_X_fs (C : Cx P gl) {vs ws : List Cell6} {p q : List PV} {n m : Int} (hp : p = cells6 vs) (hq : q = cells6 ws) (ok : ivmOk n vs ∧ ivmOk m ws ∧ n = m) (fit : ¬∀ k, k < vs.length → fits ((ivmLo n vs ws) k) ∧ fits ((ivmHi n vs ws) k))
  (hl : vs.length ≤ 2000000) (hy : ∀ v ∈ vs, v.1.2.1.length ≤ 2000000 ∧ v.2.2.1.length ≤ 2000000) (hm : ws.length ≤ 2000000) (hz : ∀ v ∈ ws, v.1.2.1.length ≤ 2000000 ∧ v.2.2.1.length ≤ 2000000) :
  FS P gl 19 [.agg [I n, .lst p], .agg [I m, .lst q]] (· = .tup [.agg [I 0, .lst []], B false]) := by
 obtain ⟨ok1, ok2, rfl⟩ := ok
 have am := fun (P' : Program) (C' : Cx P' gl) => areIvMats_fs C' (n := n) (m := n) (b := true) hp hq ⟨fun _ => ⟨ok1, ok2, rfl⟩, fun _ => rfl⟩ hl hy hm hz
 obtain ⟨n1, n4, hvl, hva⟩ := ok1
 obtain ⟨_, _, hwl, hwa⟩ := ok2
 have hlw : ws.length = vs.length := by omega
 have hvl2 := ivmLen n1 n4 hvl
 obtain ⟨xs, x1, x2, x3⟩ := ivTimes_ex n1 n4 hvl hwl hva hwa
 obtain ⟨px, hpx⟩ : ∃ px, px = cells6 xs := ⟨_, rfl⟩
 have gr := fun (P' : Program) (C' : Cx P' gl) => x3 P' gl p q px C' hp hq hpx
 have g1 := fun (P' : Program) (C' : Cx P' gl) => ivField_fs C' (n := n) hp hl
 have g2 := fun (P' : Program) (C' : Cx P' gl) => ivField_fs C' (n := n) hq hm
 have mt := fun (P' : Program) (C' : Cx P' gl) => ivMat_fs C' (n := n) hpx x2 (by omega) (by omega) (fun h => fit (fun k hk => h k (by omega))) (by omega)
 clear x1 x2 x3 hva hwa hwl hvl hpx fit hp hq hy hz
 obtain ⟨rfl, hG⟩ := C
 refine FS_ofC (args := fun A => [.agg [I n, .lst p], .agg [I n, .lst q]]) (R := fun A rr => rr = .tup [.agg [I 0, .lst []], B false]) Tryz.hT Tryz.mix Tryz.func19 rfl rfl (Nat.le_of_ble_eq_true rfl) ?_
 generalize hP : Tryz.prog = P
 intro A hA
 have C : Tryz.Cx P gl := ⟨hP.symm, hG⟩
 have hI : intsL = A.ints := by subst hA; rfl
 have q1 : A.bnot true = false := by subst hA; rfl
 have q2 : A.bnot false = true := by subst hA; rfl
 have q3 : ∀ x, A.pick false true x = x := fun x => by subst hA; cases x <;> rfl
 have q4 : ∀ x, A.pick true true x = true := fun x => by subst hA; cases x <;> rfl
 iterate 2 (all_goals try cbv; all_goals with_reducible repeat' first | exact True.intro | refine And.intro ?_ ?_ | intro _)
 all_goals try exact oI
 refine callS hA rfl (am P C) ?_; rintro _ rfl
 iterate 2 (all_goals try cbv; all_goals with_reducible repeat' first | exact True.intro | refine And.intro ?_ ?_ | intro _)
 all_goals try exact oI
 all_goals try simp only [q1, q2, q3, q4]
 iterate 2 (all_goals try cbv; all_goals with_reducible repeat' first | exact True.intro | refine And.intro ?_ ?_ | intro _)
 all_goals try exact oI
 all_goals try simp only [q1, q2, q3, q4]
 first | (refine callS hA rfl (g1 P C) ?_; rintro _ rfl) | refine ⟨_, g1 P C, ?_⟩
 iterate 2 (all_goals try cbv; all_goals with_reducible repeat' first | exact True.intro | refine And.intro ?_ ?_ | intro _)
 all_goals try exact oI
 first | (refine callS hA rfl (g2 P C) ?_; rintro _ rfl) | refine ⟨_, g2 P C, ?_⟩
 iterate 2 (all_goals try cbv; all_goals with_reducible repeat' first | exact True.intro | refine And.intro ?_ ?_ | intro _)
 all_goals try exact oI
 first | (refine callS hA rfl (gr P C) ?_; rintro _ rfl) | refine ⟨_, gr P C, ?_⟩
 iterate 2 (all_goals try cbv; all_goals with_reducible repeat' first | exact True.intro | refine And.intro ?_ ?_ | intro _)
 all_goals try exact oI
 first | (refine callS hA rfl (mt P C) ?_; rintro _ rfl) | refine ⟨_, mt P C, ?_⟩
 iterate 2 (all_goals try cbv; all_goals with_reducible repeat' first | exact True.intro | refine And.intro ?_ ?_ | intro _)
 all_goals try exact oI

theorem implIvMatMul_N_fs (C : Cx P gl) {vs ws : List Cell6} {p q : List PV} {n m : Int} (hp : p = cells6 vs) (hq : q = cells6 ws) (ok : ¬(ivmOk n vs ∧ ivmOk m ws ∧ n = m))
  (hl : vs.length ≤ 2000000) (hy : ∀ v ∈ vs, v.1.2.1.length ≤ 2000000 ∧ v.2.2.1.length ≤ 2000000) (hm : ws.length ≤ 2000000) (hz : ∀ v ∈ ws, v.1.2.1.length ≤ 2000000 ∧ v.2.2.1.length ≤ 2000000) :
  FS P gl 19 [.agg [I n, .lst p], .agg [I m, .lst q]] (· = .tup [.agg [I 0, .lst []], B false]) := by
 have am := fun (P' : Program) (C' : Cx P' gl) => areIvMats_fs C' (n := n) (m := m) (b := false) hp hq ⟨fun h => absurd h (by decide), fun h => absurd h ok⟩ hl hy hm hz
 clear ok hp hq hy hz
 obtain ⟨rfl, hG⟩ := C
 refine FS_ofT (args := fun A => [.agg [I n, .lst p], .agg [I m, .lst q]]) (R := fun A rr => rr = .tup [.agg [I 0, .lst []], B false]) Tryz.hT Tryz.mix Tryz.func19 rfl rfl (Nat.le_of_ble_eq_true rfl) ?_
 generalize hP : Tryz.prog = P
 intro A hA
 have C : Tryz.Cx P gl := ⟨hP.symm, hG⟩
 have hI : intsL = A.ints := by subst hA; rfl
 iterate 2 (all_goals try cbv; all_goals with_reducible repeat' first | exact True.intro | refine And.intro ?_ ?_ | intro _)
 all_goals try exact oI
 refine callS hA rfl (am P C) ?_; rintro _ rfl
 iterate 2 (all_goals try cbv; all_goals with_reducible repeat' first | exact True.intro | refine And.intro ?_ ?_ | intro _)
 all_goals try exact oI
 iterate 2 (all_goals try cbv; all_goals with_reducible repeat' first | exact True.intro | refine And.intro ?_ ?_ | intro _)
 all_goals try exact oI

theorem specIvMatMul_fs (C : Cx P gl) {vs ws : List Cell6} {p q r : List PV} {n m : Int} {n' : Int} {w : Bool} (hp : p = cells6 vs) (hq : q = cells6 ws) (hw : w = true ↔ (ivmOk n vs ∧ ivmOk m ws ∧ n = m) ∧ ∀ k, k < vs.length → fits ((ivmLo n vs ws) k) ∧ fits ((ivmHi n vs ws) k))
  (h1 : w = true → r = cells6 (canV (ivmLo n vs ws) (ivmHi n vs ws) vs.length) ∧ n' = n) (h2 : w = false → r = [] ∧ n' = 0)
  (hl : vs.length ≤ 2000000) (hy : ∀ v ∈ vs, v.1.2.1.length ≤ 2000000 ∧ v.2.2.1.length ≤ 2000000) (hm : ws.length ≤ 2000000) (hz : ∀ v ∈ ws, v.1.2.1.length ≤ 2000000 ∧ v.2.2.1.length ≤ 2000000) :
  FS P gl 18 [.agg [I n, .lst p], .agg [I m, .lst q]] (· = .tup [.agg [I n', .lst r], B w]) := by
 obtain ⟨b, hb⟩ := bool_of (ivmOk n vs ∧ ivmOk m ws ∧ n = m)
 have am := fun (P' : Program) (C' : Cx P' gl) => l10both_fs C' (n := n) (m := m) (b := b) hp hq hb hl hy hm hz
 cases b with
 | false =>
  have hwf : w = false := by
   cases hwc : w with
   | false => rfl
   | true => exact absurd (hb.2 (hw.1 hwc).1) (by decide)
  obtain ⟨e1, e2⟩ := h2 hwf
  rw [e1, e2, hwf]
  obtain ⟨rfl, hG⟩ := C
  refine FS_ofT (args := fun A => [.agg [I n, .lst p], .agg [I m, .lst q]]) (R := fun A rr => rr = .tup [.agg [I 0, .lst []], B false]) Tryz.hT Tryz.mix Tryz.func18 rfl rfl (Nat.le_of_ble_eq_true rfl) ?_
  generalize hP : Tryz.prog = P
  intro A hA
  have C : Tryz.Cx P gl := ⟨hP.symm, hG⟩
  have hI : intsL = A.ints := by subst hA; rfl
  iterate 2 (all_goals try cbv; all_goals with_reducible repeat' first | exact True.intro | refine And.intro ?_ ?_ | intro _)
  all_goals try exact oI
  refine callS hA rfl (am P C) ?_; rintro _ rfl
  iterate 2 (all_goals try cbv; all_goals with_reducible repeat' first | exact True.intro | refine And.intro ?_ ?_ | intro _)
  all_goals try exact oI
  iterate 2 (all_goals try cbv; all_goals with_reducible repeat' first | exact True.intro | refine And.intro ?_ ?_ | intro _)
  all_goals try exact oI
 | true =>
  have ok := hb.1 rfl
  obtain ⟨ok1, ok2, rfl⟩ := ok
  obtain ⟨n1, n4, hvl, hva⟩ := ok1
  obtain ⟨_, _, hwl, hwa⟩ := ok2
  have hlw : ws.length = vs.length := by omega
  have hvl2 := ivmLen n1 n4 hvl
  obtain ⟨pw, hpw⟩ : ∃ pw, pw = cells6 (canV (ivmLo n vs ws) (ivmHi n vs ws) vs.length) := ⟨_, rfl⟩
  have ad := fun (P' : Program) (C' : Cx P' gl) => l10mul_fs C' (n := n) (m := n) (r := pw) hp hq hpw n1 n4 hvl hwl hva hwa
  have hwm : w = true ↔ ivmOk n (canV (ivmLo n vs ws) (ivmHi n vs ws) vs.length) := by
   constructor
   ·intro h
    exact ⟨n1, n4, by rw [canV_len]; exact hvl, canV_ok.2 (fun k hk => ⟨((hw.1 h).2 k hk).1, ((hw.1 h).2 k hk).2, (fun k hk => ivm_le n1 n4 hvl hwl hva hwa (by omega)) k hk⟩)⟩
   ·intro h
    exact hw.2 ⟨hb.1 rfl, fun k hk => ⟨(canV_ok.1 h.2.2.2 k hk).1, (canV_ok.1 h.2.2.2 k hk).2.1⟩⟩
  have bnd : ∀ k, k < vs.length → (dg (cZ ((ivmLo n vs ws) k)).natAbs).length ≤ 100000 ∧ (dg (cZ ((ivmHi n vs ws) k)).natAbs).length ≤ 100000 := fun k hk => vmul_len n1 n4 hvl hwl hva hwa (by omega)
  have ft := fun (P' : Program) (C' : Cx P' gl) => l10fits_fs C' (n := n) (n' := n') (q := r) (b := w) (L := 100000) hpw (canV_W bnd) (by omega) (by rw [canV_len]; omega) hwm (fun h => by rw [hpw]; exact h1 h) h2
  clear h1 h2 hw hb hp hq hy hz hwm hpw hva hwa hwl hvl bnd
  obtain ⟨rfl, hG⟩ := C
  refine FS_ofT (args := fun A => [.agg [I n, .lst p], .agg [I n, .lst q]]) (R := fun A rr => rr = .tup [.agg [I n', .lst r], B w]) Tryz.hT Tryz.mix Tryz.func18 rfl rfl (Nat.le_of_ble_eq_true rfl) ?_
  generalize hP : Tryz.prog = P
  intro A hA
  have C : Tryz.Cx P gl := ⟨hP.symm, hG⟩
  have hI : intsL = A.ints := by subst hA; rfl
  have q1 : A.bnot true = false := by subst hA; rfl
  have q2 : A.bnot false = true := by subst hA; rfl
  have q3 : ∀ x, A.pick false true x = x := fun x => by subst hA; cases x <;> rfl
  have q4 : ∀ x, A.pick true true x = true := fun x => by subst hA; cases x <;> rfl
  iterate 2 (all_goals try cbv; all_goals with_reducible repeat' first | exact True.intro | refine And.intro ?_ ?_ | intro _)
  all_goals try exact oI
  refine callS hA rfl (am P C) ?_; rintro _ rfl
  iterate 2 (all_goals try cbv; all_goals with_reducible repeat' first | exact True.intro | refine And.intro ?_ ?_ | intro _)
  all_goals try exact oI
  all_goals try simp only [q1, q2, q3, q4]
  iterate 2 (all_goals try cbv; all_goals with_reducible repeat' first | exact True.intro | refine And.intro ?_ ?_ | intro _)
  all_goals try exact oI
  all_goals try simp only [q1, q2, q3, q4]
  first | (refine callS hA rfl (ad P C) ?_; rintro _ rfl) | refine ⟨_, ad P C, ?_⟩
  iterate 2 (all_goals try cbv; all_goals with_reducible repeat' first | exact True.intro | refine And.intro ?_ ?_ | intro _)
  all_goals try exact oI
  first | (refine callS hA rfl (ft P C) ?_; rintro _ rfl) | refine ⟨_, ft P C, ?_⟩
  iterate 2 (all_goals try cbv; all_goals with_reducible repeat' first | exact True.intro | refine And.intro ?_ ?_ | intro _)
  all_goals try exact oI

end Tryz
end Go.Proofs
