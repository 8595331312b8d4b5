/- Contracts: MatMul in the program and in the reference. -/
import Derived.Test.YthmkdfmapdbenaaGreatDoorBM14
import Derived.Test.YthmkdfmapdbenaaGreatDoorBM16
namespace Go.Proofs
open Go Go.Pe Go.Dg
namespace Tryz
set_option linter.unusedSimpArgs false
set_option linter.unusedVariables false
variable {P : Program} {gl : List (Nat × Obj)}

set_option maxHeartbeats 1000000 in
set_option maxRecDepth 100000 in
theorem implMatMul_o_fx (C : Cx P gl) {ys zs : List Cell3} {p q r : List PV} {n m : Int} (hp : p = cells3 ys) (hq : q = cells3 zs) (ok : matOk n ys ∧ matOk m zs ∧ n = m) (fit : ∀ k, k < ys.length → fits ((mulD n (dvY ys) (dvY zs)) k)) (hr : r = cells3 (canL (mulD n (dvY ys) (dvY zs)) ys.length))
    (hl : ys.length ≤ 2000000) (hy : ∀ y ∈ ys, y.2.1.length ≤ 2000000) (hm : zs.length ≤ 2000000) (hz : ∀ y ∈ zs, y.2.1.length ≤ 2000000) :
    FX P gl 24 [] [.pv (.agg [I n, .lst p]), .pv (.agg [I m, .lst q])] (fun own rr => own = [.tree 41 3 3 r] ∧ rr = .tup [.agg [.pv (I n), .own 0], .pv (B true)]) := by
  obtain ⟨ok1, ok2, rfl⟩ := ok
  have am := fun (P' : Program) (C' : Cx P' gl) => areMats_fs C' (n := n) (m := n) (b := true) hp hq ⟨fun _ => ⟨ok1, ok2, rfl⟩, fun _ => rfl⟩ hl hy hm hz
  obtain ⟨n1, n4, hyl, hya⟩ := ok1
  obtain ⟨_, _, hzl, hza⟩ := ok2
  have hlz : zs.length = ys.length := by omega
  have hyl2 := matLen n1 n4 hyl
  obtain ⟨ws, w1, w2, w3⟩ := gridTimes_ex (allY_XL hya) (allY_XL hza) (by omega) (by omega) (by omega) n4 hyl hzl
  have hlw : ws.length = ys.length := by omega
  obtain ⟨pw, hpw⟩ : ∃ pw, pw = cells3 ws := ⟨_, rfl⟩
  have gr := fun (P' : Program) (C' : Cx P' gl) => w3 P' gl p q pw C' hp hq hpw
  have g1 := fun (P' : Program) (C' : Cx P' gl) => matGrid_fs C' (n := n) hp hl
  have g2 := fun (P' : Program) (C' : Cx P' gl) => matGrid_fs C' (n := n) hq hm
  have mt := fun (P' : Program) (C' : Cx P' gl) => gridMat_fn C' (n := n) (r := r) hpw w2 (by omega) (by omega) (fun k hk => fit k (by omega)) (by rw [hr, hlw]) (by omega)
  clear w1 w2 w3 hya hza hyl hzl hpw fit hr hp hq hy hz
  obtain ⟨rfl, hG⟩ := C
  refine FX_ofC (own := fun A => []) (args := fun A => [.pv (.agg [I n, .lst p]), .pv (.agg [I n, .lst q])]) (R := fun A ow rr => ow = [.tree 41 3 3 r] ∧ rr = .tup [.agg [.pv (I n), .own 0], .pv (B true)]) Tryz.hT Tryz.mix Tryz.func24 rfl rfl (Nat.le_of_ble_eq_true rfl) ?_
  generalize hP : Tryz.prog = P
  intro A hA
  have C : Tryz.Cx P gl := ⟨hP.symm, hG⟩
  have hI : intsL = A.ints := by subst hA; rfl
  iterate 2 (all_goals try cbv; all_goals repeat' (first | with_reducible exact True.intro | with_reducible refine And.intro ?_ ?_ | intro _))
  all_goals first | ((first | (with_reducible first | refine q1 hA ?_ | refine q2 hA ?_ | refine q3 hA ?_ | refine q4 hA ?_ | refine q5 hA ?_ | refine q6 hA ?_ | refine q7 hA ?_ | refine q8 hA ?_ | refine q9 hA ?_ | refine q0 hA ?_ | refine tru_of ?_) | exfalso); subst hA; subst_vars; simp only [AR.std, natCast_eq, sF, sB, sC, sD, sE, reduceCtorEq] at *; (try simp (disch := omega) only [AR.std, natCast_eq, sF, sB, sC, sD, sE, reduceCtorEq] at *); first | done | rfl | omega | exact ints_ok _ | exact ints_all _ | (apply ints_part <;> first | omega | rfl)) | skip
  refine callS hA rfl (am P C) ?_; rintro _ rfl
  iterate 2 (all_goals try cbv; all_goals repeat' (first | with_reducible exact True.intro | with_reducible refine And.intro ?_ ?_ | intro _))
  all_goals first | ((first | (with_reducible first | refine q1 hA ?_ | refine q2 hA ?_ | refine q3 hA ?_ | refine q4 hA ?_ | refine q5 hA ?_ | refine q6 hA ?_ | refine q7 hA ?_ | refine q8 hA ?_ | refine q9 hA ?_ | refine q0 hA ?_ | refine tru_of ?_) | exfalso); subst hA; subst_vars; simp only [AR.std, natCast_eq, sF, sB, sC, sD, sE, reduceCtorEq] at *; (try simp (disch := omega) only [AR.std, natCast_eq, sF, sB, sC, sD, sE, reduceCtorEq] at *); first | done | rfl | omega | exact ints_ok _ | exact ints_all _ | (apply ints_part <;> first | omega | rfl)) | skip
  iterate 2 (all_goals try cbv; all_goals repeat' (first | with_reducible exact True.intro | with_reducible refine And.intro ?_ ?_ | intro _))
  all_goals first | ((first | (with_reducible first | refine q1 hA ?_ | refine q2 hA ?_ | refine q3 hA ?_ | refine q4 hA ?_ | refine q5 hA ?_ | refine q6 hA ?_ | refine q7 hA ?_ | refine q8 hA ?_ | refine q9 hA ?_ | refine q0 hA ?_ | refine tru_of ?_) | exfalso); subst hA; subst_vars; simp only [AR.std, natCast_eq, sF, sB, sC, sD, sE, reduceCtorEq] at *; (try simp (disch := omega) only [AR.std, natCast_eq, sF, sB, sC, sD, sE, reduceCtorEq] at *); first | done | rfl | omega | exact ints_ok _ | exact ints_all _ | (apply ints_part <;> first | omega | rfl)) | skip
  refine ⟨_, g1 P C, ?_⟩
  iterate 2 (all_goals try cbv; all_goals repeat' (first | with_reducible exact True.intro | with_reducible refine And.intro ?_ ?_ | intro _))
  all_goals first | ((first | (with_reducible first | refine q1 hA ?_ | refine q2 hA ?_ | refine q3 hA ?_ | refine q4 hA ?_ | refine q5 hA ?_ | refine q6 hA ?_ | refine q7 hA ?_ | refine q8 hA ?_ | refine q9 hA ?_ | refine q0 hA ?_ | refine tru_of ?_) | exfalso); subst hA; subst_vars; simp only [AR.std, natCast_eq, sF, sB, sC, sD, sE, reduceCtorEq] at *; (try simp (disch := omega) only [AR.std, natCast_eq, sF, sB, sC, sD, sE, reduceCtorEq] at *); first | done | rfl | omega | exact ints_ok _ | exact ints_all _ | (apply ints_part <;> first | omega | rfl)) | skip
  refine callS hA rfl (g2 P C) ?_; rintro _ rfl
  iterate 2 (all_goals try cbv; all_goals repeat' (first | with_reducible exact True.intro | with_reducible refine And.intro ?_ ?_ | intro _))
  all_goals first | ((first | (with_reducible first | refine q1 hA ?_ | refine q2 hA ?_ | refine q3 hA ?_ | refine q4 hA ?_ | refine q5 hA ?_ | refine q6 hA ?_ | refine q7 hA ?_ | refine q8 hA ?_ | refine q9 hA ?_ | refine q0 hA ?_ | refine tru_of ?_) | exfalso); subst hA; subst_vars; simp only [AR.std, natCast_eq, sF, sB, sC, sD, sE, reduceCtorEq] at *; (try simp (disch := omega) only [AR.std, natCast_eq, sF, sB, sC, sD, sE, reduceCtorEq] at *); first | done | rfl | omega | exact ints_ok _ | exact ints_all _ | (apply ints_part <;> first | omega | rfl)) | skip
  refine callS hA rfl (gr P C) ?_; rintro _ rfl
  iterate 2 (all_goals try cbv; all_goals repeat' (first | with_reducible exact True.intro | with_reducible refine And.intro ?_ ?_ | intro _))
  all_goals first | ((first | (with_reducible first | refine q1 hA ?_ | refine q2 hA ?_ | refine q3 hA ?_ | refine q4 hA ?_ | refine q5 hA ?_ | refine q6 hA ?_ | refine q7 hA ?_ | refine q8 hA ?_ | refine q9 hA ?_ | refine q0 hA ?_ | refine tru_of ?_) | exfalso); subst hA; subst_vars; simp only [AR.std, natCast_eq, sF, sB, sC, sD, sE, reduceCtorEq] at *; (try simp (disch := omega) only [AR.std, natCast_eq, sF, sB, sC, sD, sE, reduceCtorEq] at *); first | done | rfl | omega | exact ints_ok _ | exact ints_all _ | (apply ints_part <;> first | omega | rfl)) | skip
  refine callN hA rfl (mt P C) ?_; rintro _ _ ⟨rfl, rfl⟩; refine ⟨rfl, ?_⟩
  iterate 2 (all_goals try cbv; all_goals repeat' (first | with_reducible exact True.intro | with_reducible refine And.intro ?_ ?_ | intro _))
  all_goals first | ((first | (with_reducible first | refine q1 hA ?_ | refine q2 hA ?_ | refine q3 hA ?_ | refine q4 hA ?_ | refine q5 hA ?_ | refine q6 hA ?_ | refine q7 hA ?_ | refine q8 hA ?_ | refine q9 hA ?_ | refine q0 hA ?_ | refine tru_of ?_) | exfalso); subst hA; subst_vars; simp only [AR.std, natCast_eq, sF, sB, sC, sD, sE, reduceCtorEq] at *; (try simp (disch := omega) only [AR.std, natCast_eq, sF, sB, sC, sD, sE, reduceCtorEq] at *); first | done | rfl | omega | exact ints_ok _ | exact ints_all _ | (apply ints_part <;> first | omega | rfl)) | skip
  subst hA
  exact ⟨[3], _, _, by decide, Nat.zero_le _, rfl, rfl, rfl, rfl, rfl, rfl⟩

theorem implMatMul_o_fn (C : Cx P gl) {ys zs : List Cell3} {p q r : List PV} {n m : Int} (hp : p = cells3 ys) (hq : q = cells3 zs) (ok : matOk n ys ∧ matOk m zs ∧ n = m) (fit : ∀ k, k < ys.length → fits ((mulD n (dvY ys) (dvY zs)) k)) (hr : r = cells3 (canL (mulD n (dvY ys) (dvY zs)) ys.length))
    (hl : ys.length ≤ 2000000) (hy : ∀ y ∈ ys, y.2.1.length ≤ 2000000) (hm : zs.length ≤ 2000000) (hz : ∀ y ∈ zs, y.2.1.length ≤ 2000000) :
    FN P gl 24 [.agg [I n, .lst p], .agg [I m, .lst q]] (fun own rr => own = [.tree 41 3 3 r] ∧ rr = .tup [.agg [.pv (I n), .own 0], .pv (B true)]) :=
  FN_of (implMatMul_o_fx C hp hq ok fit hr hl hy hm hz) (by rintro _ _ ⟨rfl, rfl⟩; exact ⟨by simp [closedB], rfl⟩)

set_option maxHeartbeats 1000000 in
set_option maxRecDepth 100000 in
theorem implMatMul_X_fs (C : Cx P gl) {ys zs : List Cell3} {p q : List PV} {n m : Int} (hp : p = cells3 ys) (hq : q = cells3 zs) (ok : matOk n ys ∧ matOk m zs ∧ n = m) (fit : ¬∀ k, k < ys.length → fits ((mulD n (dvY ys) (dvY zs)) k))
    (hl : ys.length ≤ 2000000) (hy : ∀ y ∈ ys, y.2.1.length ≤ 2000000) (hm : zs.length ≤ 2000000) (hz : ∀ y ∈ zs, y.2.1.length ≤ 2000000) :
    FS P gl 24 [.agg [I n, .lst p], .agg [I m, .lst q]] (· = .tup [.agg [I 0, .lst []], B false]) := by
  obtain ⟨ok1, ok2, rfl⟩ := ok
  have am := fun (P' : Program) (C' : Cx P' gl) => areMats_fs C' (n := n) (m := n) (b := true) hp hq ⟨fun _ => ⟨ok1, ok2, rfl⟩, fun _ => rfl⟩ hl hy hm hz
  obtain ⟨n1, n4, hyl, hya⟩ := ok1
  obtain ⟨_, _, hzl, hza⟩ := ok2
  have hlz : zs.length = ys.length := by omega
  have hyl2 := matLen n1 n4 hyl
  obtain ⟨ws, w1, w2, w3⟩ := gridTimes_ex (allY_XL hya) (allY_XL hza) (by omega) (by omega) (by omega) n4 hyl hzl
  have hlw : ws.length = ys.length := by omega
  obtain ⟨pw, hpw⟩ : ∃ pw, pw = cells3 ws := ⟨_, rfl⟩
  have gr := fun (P' : Program) (C' : Cx P' gl) => w3 P' gl p q pw C' hp hq hpw
  have g1 := fun (P' : Program) (C' : Cx P' gl) => matGrid_fs C' (n := n) hp hl
  have g2 := fun (P' : Program) (C' : Cx P' gl) => matGrid_fs C' (n := n) hq hm
  have mt := fun (P' : Program) (C' : Cx P' gl) => gridMat_fs C' (n := n) hpw w2 (by omega) (by omega) (fun h => fit (fun k hk => h k (by omega))) (by omega)
  clear w1 w2 w3 hya hza hyl hzl hpw fit hp hq hy hz
  obtain ⟨rfl, hG⟩ := C
  refine FS_ofC (args := fun A => [.agg [I n, .lst p], .agg [I n, .lst q]]) (R := fun A rr => rr = .tup [.agg [I 0, .lst []], B false]) Tryz.hT Tryz.mix Tryz.func24 rfl rfl (Nat.le_of_ble_eq_true rfl) ?_
  generalize hP : Tryz.prog = P
  intro A hA
  have C : Tryz.Cx P gl := ⟨hP.symm, hG⟩
  have hI : intsL = A.ints := by subst hA; rfl
  iterate 2 (all_goals try cbv; all_goals repeat' (first | with_reducible exact True.intro | with_reducible refine And.intro ?_ ?_ | intro _))
  all_goals first | ((first | (with_reducible first | refine q1 hA ?_ | refine q2 hA ?_ | refine q3 hA ?_ | refine q4 hA ?_ | refine q5 hA ?_ | refine q6 hA ?_ | refine q7 hA ?_ | refine q8 hA ?_ | refine q9 hA ?_ | refine q0 hA ?_ | refine tru_of ?_) | exfalso); subst hA; subst_vars; simp only [AR.std, natCast_eq, sF, sB, sC, sD, sE, reduceCtorEq] at *; (try simp (disch := omega) only [AR.std, natCast_eq, sF, sB, sC, sD, sE, reduceCtorEq] at *); first | done | rfl | omega | exact ints_ok _ | exact ints_all _ | (apply ints_part <;> first | omega | rfl)) | skip
  refine callS hA rfl (am P C) ?_; rintro _ rfl
  iterate 2 (all_goals try cbv; all_goals repeat' (first | with_reducible exact True.intro | with_reducible refine And.intro ?_ ?_ | intro _))
  all_goals first | ((first | (with_reducible first | refine q1 hA ?_ | refine q2 hA ?_ | refine q3 hA ?_ | refine q4 hA ?_ | refine q5 hA ?_ | refine q6 hA ?_ | refine q7 hA ?_ | refine q8 hA ?_ | refine q9 hA ?_ | refine q0 hA ?_ | refine tru_of ?_) | exfalso); subst hA; subst_vars; simp only [AR.std, natCast_eq, sF, sB, sC, sD, sE, reduceCtorEq] at *; (try simp (disch := omega) only [AR.std, natCast_eq, sF, sB, sC, sD, sE, reduceCtorEq] at *); first | done | rfl | omega | exact ints_ok _ | exact ints_all _ | (apply ints_part <;> first | omega | rfl)) | skip
  iterate 2 (all_goals try cbv; all_goals repeat' (first | with_reducible exact True.intro | with_reducible refine And.intro ?_ ?_ | intro _))
  all_goals first | ((first | (with_reducible first | refine q1 hA ?_ | refine q2 hA ?_ | refine q3 hA ?_ | refine q4 hA ?_ | refine q5 hA ?_ | refine q6 hA ?_ | refine q7 hA ?_ | refine q8 hA ?_ | refine q9 hA ?_ | refine q0 hA ?_ | refine tru_of ?_) | exfalso); subst hA; subst_vars; simp only [AR.std, natCast_eq, sF, sB, sC, sD, sE, reduceCtorEq] at *; (try simp (disch := omega) only [AR.std, natCast_eq, sF, sB, sC, sD, sE, reduceCtorEq] at *); first | done | rfl | omega | exact ints_ok _ | exact ints_all _ | (apply ints_part <;> first | omega | rfl)) | skip
  refine ⟨_, g1 P C, ?_⟩
  iterate 2 (all_goals try cbv; all_goals repeat' (first | with_reducible exact True.intro | with_reducible refine And.intro ?_ ?_ | intro _))
  all_goals first | ((first | (with_reducible first | refine q1 hA ?_ | refine q2 hA ?_ | refine q3 hA ?_ | refine q4 hA ?_ | refine q5 hA ?_ | refine q6 hA ?_ | refine q7 hA ?_ | refine q8 hA ?_ | refine q9 hA ?_ | refine q0 hA ?_ | refine tru_of ?_) | exfalso); subst hA; subst_vars; simp only [AR.std, natCast_eq, sF, sB, sC, sD, sE, reduceCtorEq] at *; (try simp (disch := omega) only [AR.std, natCast_eq, sF, sB, sC, sD, sE, reduceCtorEq] at *); first | done | rfl | omega | exact ints_ok _ | exact ints_all _ | (apply ints_part <;> first | omega | rfl)) | skip
  refine callS hA rfl (g2 P C) ?_; rintro _ rfl
  iterate 2 (all_goals try cbv; all_goals repeat' (first | with_reducible exact True.intro | with_reducible refine And.intro ?_ ?_ | intro _))
  all_goals first | ((first | (with_reducible first | refine q1 hA ?_ | refine q2 hA ?_ | refine q3 hA ?_ | refine q4 hA ?_ | refine q5 hA ?_ | refine q6 hA ?_ | refine q7 hA ?_ | refine q8 hA ?_ | refine q9 hA ?_ | refine q0 hA ?_ | refine tru_of ?_) | exfalso); subst hA; subst_vars; simp only [AR.std, natCast_eq, sF, sB, sC, sD, sE, reduceCtorEq] at *; (try simp (disch := omega) only [AR.std, natCast_eq, sF, sB, sC, sD, sE, reduceCtorEq] at *); first | done | rfl | omega | exact ints_ok _ | exact ints_all _ | (apply ints_part <;> first | omega | rfl)) | skip
  refine callS hA rfl (gr P C) ?_; rintro _ rfl
  iterate 2 (all_goals try cbv; all_goals repeat' (first | with_reducible exact True.intro | with_reducible refine And.intro ?_ ?_ | intro _))
  all_goals first | ((first | (with_reducible first | refine q1 hA ?_ | refine q2 hA ?_ | refine q3 hA ?_ | refine q4 hA ?_ | refine q5 hA ?_ | refine q6 hA ?_ | refine q7 hA ?_ | refine q8 hA ?_ | refine q9 hA ?_ | refine q0 hA ?_ | refine tru_of ?_) | exfalso); subst hA; subst_vars; simp only [AR.std, natCast_eq, sF, sB, sC, sD, sE, reduceCtorEq] at *; (try simp (disch := omega) only [AR.std, natCast_eq, sF, sB, sC, sD, sE, reduceCtorEq] at *); first | done | rfl | omega | exact ints_ok _ | exact ints_all _ | (apply ints_part <;> first | omega | rfl)) | skip
  refine callS hA rfl (mt P C) ?_; rintro _ rfl
  iterate 2 (all_goals try cbv; all_goals repeat' (first | with_reducible exact True.intro | with_reducible refine And.intro ?_ ?_ | intro _))
  all_goals first | ((first | (with_reducible first | refine q1 hA ?_ | refine q2 hA ?_ | refine q3 hA ?_ | refine q4 hA ?_ | refine q5 hA ?_ | refine q6 hA ?_ | refine q7 hA ?_ | refine q8 hA ?_ | refine q9 hA ?_ | refine q0 hA ?_ | refine tru_of ?_) | exfalso); subst hA; subst_vars; simp only [AR.std, natCast_eq, sF, sB, sC, sD, sE, reduceCtorEq] at *; (try simp (disch := omega) only [AR.std, natCast_eq, sF, sB, sC, sD, sE, reduceCtorEq] at *); first | done | rfl | omega | exact ints_ok _ | exact ints_all _ | (apply ints_part <;> first | omega | rfl)) | skip

set_option maxHeartbeats 1000000 in
set_option maxRecDepth 100000 in
theorem implMatMul_N_fs (C : Cx P gl) {ys zs : List Cell3} {p q : List PV} {n m : Int} (hp : p = cells3 ys) (hq : q = cells3 zs) (ok : ¬(matOk n ys ∧ matOk m zs ∧ n = m))
    (hl : ys.length ≤ 2000000) (hy : ∀ y ∈ ys, y.2.1.length ≤ 2000000) (hm : zs.length ≤ 2000000) (hz : ∀ y ∈ zs, y.2.1.length ≤ 2000000) :
    FS P gl 24 [.agg [I n, .lst p], .agg [I m, .lst q]] (· = .tup [.agg [I 0, .lst []], B false]) := by
  have am := fun (P' : Program) (C' : Cx P' gl) => areMats_fs C' (n := n) (m := m) (b := false) hp hq ⟨fun h => absurd h (by decide), fun h => absurd h ok⟩ hl hy hm hz
  clear ok hp hq hy hz
  obtain ⟨rfl, hG⟩ := C
  refine FS_ofT (args := fun A => [.agg [I n, .lst p], .agg [I m, .lst q]]) (R := fun A rr => rr = .tup [.agg [I 0, .lst []], B false]) Tryz.hT Tryz.mix Tryz.func24 rfl rfl (Nat.le_of_ble_eq_true rfl) ?_
  generalize hP : Tryz.prog = P
  intro A hA
  have C : Tryz.Cx P gl := ⟨hP.symm, hG⟩
  have hI : intsL = A.ints := by subst hA; rfl
  iterate 2 (all_goals try cbv; all_goals repeat' (first | with_reducible exact True.intro | with_reducible refine And.intro ?_ ?_ | intro _))
  all_goals first | ((first | (with_reducible first | refine q1 hA ?_ | refine q2 hA ?_ | refine q3 hA ?_ | refine q4 hA ?_ | refine q5 hA ?_ | refine q6 hA ?_ | refine q7 hA ?_ | refine q8 hA ?_ | refine q9 hA ?_ | refine q0 hA ?_ | refine tru_of ?_) | exfalso); subst hA; subst_vars; simp only [AR.std, natCast_eq, sF, sB, sC, sD, sE, reduceCtorEq] at *; (try simp (disch := omega) only [AR.std, natCast_eq, sF, sB, sC, sD, sE, reduceCtorEq] at *); first | done | rfl | omega | exact ints_ok _ | exact ints_all _ | (apply ints_part <;> first | omega | rfl)) | skip
  refine callS hA rfl (am P C) ?_; rintro _ rfl
  iterate 2 (all_goals try cbv; all_goals repeat' (first | with_reducible exact True.intro | with_reducible refine And.intro ?_ ?_ | intro _))
  all_goals first | ((first | (with_reducible first | refine q1 hA ?_ | refine q2 hA ?_ | refine q3 hA ?_ | refine q4 hA ?_ | refine q5 hA ?_ | refine q6 hA ?_ | refine q7 hA ?_ | refine q8 hA ?_ | refine q9 hA ?_ | refine q0 hA ?_ | refine tru_of ?_) | exfalso); subst hA; subst_vars; simp only [AR.std, natCast_eq, sF, sB, sC, sD, sE, reduceCtorEq] at *; (try simp (disch := omega) only [AR.std, natCast_eq, sF, sB, sC, sD, sE, reduceCtorEq] at *); first | done | rfl | omega | exact ints_ok _ | exact ints_all _ | (apply ints_part <;> first | omega | rfl)) | skip
  iterate 2 (all_goals try cbv; all_goals repeat' (first | with_reducible exact True.intro | with_reducible refine And.intro ?_ ?_ | intro _))
  all_goals first | ((first | (with_reducible first | refine q1 hA ?_ | refine q2 hA ?_ | refine q3 hA ?_ | refine q4 hA ?_ | refine q5 hA ?_ | refine q6 hA ?_ | refine q7 hA ?_ | refine q8 hA ?_ | refine q9 hA ?_ | refine q0 hA ?_ | refine tru_of ?_) | exfalso); subst hA; subst_vars; simp only [AR.std, natCast_eq, sF, sB, sC, sD, sE, reduceCtorEq] at *; (try simp (disch := omega) only [AR.std, natCast_eq, sF, sB, sC, sD, sE, reduceCtorEq] at *); first | done | rfl | omega | exact ints_ok _ | exact ints_all _ | (apply ints_part <;> first | omega | rfl)) | skip

set_option maxHeartbeats 1000000 in
set_option maxRecDepth 100000 in
theorem specMatMul_fs (C : Cx P gl) {ys zs : List Cell3} {p q r : List PV} {n m n' : Int} {w : Bool} (hp : p = cells3 ys) (hq : q = cells3 zs) (hw : w = true ↔ (matOk n ys ∧ matOk m zs ∧ n = m) ∧ ∀ k, k < ys.length → fits ((mulD n (dvY ys) (dvY zs)) k))
    (h1 : w = true → r = cells3 (canL (mulD n (dvY ys) (dvY zs)) ys.length) ∧ n' = n) (h2 : w = false → r = [] ∧ n' = 0)
    (hl : ys.length ≤ 2000000) (hy : ∀ y ∈ ys, y.2.1.length ≤ 2000000) (hm : zs.length ≤ 2000000) (hz : ∀ y ∈ zs, y.2.1.length ≤ 2000000) :
    FS P gl 23 [.agg [I n, .lst p], .agg [I m, .lst q]] (· = .tup [.agg [I n', .lst r], B w]) := by
  obtain ⟨b, hb⟩ := bool_of (matOk n ys ∧ matOk m zs ∧ n = m)
  have am := fun (P' : Program) (C' : Cx P' gl) => l8both_fs C' (n := n) (m := m) (b := b) hp hq hb hl hy hm hz
  cases b with
  | false =>
    have hwf : w = false := by
      cases hwc : w with
      | false => rfl
      | true => exact absurd (hb.2 (hw.1 hwc).1) (by decide)
    obtain ⟨e1, e2⟩ := h2 hwf
    clear h1 h2 hw hb hp hq hy hz
    rw [e1, e2, hwf]
    obtain ⟨rfl, hG⟩ := C
    refine FS_ofT (args := fun A => [.agg [I n, .lst p], .agg [I m, .lst q]]) (R := fun A rr => rr = .tup [.agg [I 0, .lst []], B false]) Tryz.hT Tryz.mix Tryz.func23 rfl rfl (Nat.le_of_ble_eq_true rfl) ?_
    generalize hP : Tryz.prog = P
    intro A hA
    have C : Tryz.Cx P gl := ⟨hP.symm, hG⟩
    have hI : intsL = A.ints := by subst hA; rfl
    iterate 2 (all_goals try cbv; all_goals repeat' (first | with_reducible exact True.intro | with_reducible refine And.intro ?_ ?_ | intro _))
    all_goals first | ((first | (with_reducible first | refine q1 hA ?_ | refine q2 hA ?_ | refine q3 hA ?_ | refine q4 hA ?_ | refine q5 hA ?_ | refine q6 hA ?_ | refine q7 hA ?_ | refine q8 hA ?_ | refine q9 hA ?_ | refine q0 hA ?_ | refine tru_of ?_) | exfalso); subst hA; subst_vars; simp only [AR.std, natCast_eq, sF, sB, sC, sD, sE, reduceCtorEq] at *; (try simp (disch := omega) only [AR.std, natCast_eq, sF, sB, sC, sD, sE, reduceCtorEq] at *); first | done | rfl | omega | exact ints_ok _ | exact ints_all _ | (apply ints_part <;> first | omega | rfl)) | skip
    refine callS hA rfl (am P C) ?_; rintro _ rfl
    iterate 2 (all_goals try cbv; all_goals repeat' (first | with_reducible exact True.intro | with_reducible refine And.intro ?_ ?_ | intro _))
    all_goals first | ((first | (with_reducible first | refine q1 hA ?_ | refine q2 hA ?_ | refine q3 hA ?_ | refine q4 hA ?_ | refine q5 hA ?_ | refine q6 hA ?_ | refine q7 hA ?_ | refine q8 hA ?_ | refine q9 hA ?_ | refine q0 hA ?_ | refine tru_of ?_) | exfalso); subst hA; subst_vars; simp only [AR.std, natCast_eq, sF, sB, sC, sD, sE, reduceCtorEq] at *; (try simp (disch := omega) only [AR.std, natCast_eq, sF, sB, sC, sD, sE, reduceCtorEq] at *); first | done | rfl | omega | exact ints_ok _ | exact ints_all _ | (apply ints_part <;> first | omega | rfl)) | skip
    iterate 2 (all_goals try cbv; all_goals repeat' (first | with_reducible exact True.intro | with_reducible refine And.intro ?_ ?_ | intro _))
    all_goals first | ((first | (with_reducible first | refine q1 hA ?_ | refine q2 hA ?_ | refine q3 hA ?_ | refine q4 hA ?_ | refine q5 hA ?_ | refine q6 hA ?_ | refine q7 hA ?_ | refine q8 hA ?_ | refine q9 hA ?_ | refine q0 hA ?_ | refine tru_of ?_) | exfalso); subst hA; subst_vars; simp only [AR.std, natCast_eq, sF, sB, sC, sD, sE, reduceCtorEq] at *; (try simp (disch := omega) only [AR.std, natCast_eq, sF, sB, sC, sD, sE, reduceCtorEq] at *); first | done | rfl | omega | exact ints_ok _ | exact ints_all _ | (apply ints_part <;> first | omega | rfl)) | skip
  | true =>
    have ok := hb.1 rfl
    obtain ⟨ok1, ok2, rfl⟩ := ok
    obtain ⟨n1, n4, hyl, hya⟩ := ok1
    obtain ⟨_, _, hzl, hza⟩ := ok2
    obtain ⟨pw, hpw⟩ : ∃ pw, pw = cells3 (canL (mulD n (dvY ys) (dvY zs)) ys.length) := ⟨_, rfl⟩
    have ad := fun (P' : Program) (C' : Cx P' gl) => l8mul_fs C' (n := n) (m := n) (r := pw) hp hq (allY_XL hya) (allY_XL hza) (by omega) (by omega) (by omega) (by omega) hyl hzl hpw
    have hwm : w = true ↔ matOk n (canL (mulD n (dvY ys) (dvY zs)) ys.length) := by
      constructor
      · intro h
        exact ⟨n1, n4, by rw [canL_len]; exact hyl, canL_ok.2 (hw.1 h).2⟩
      · intro h
        exact hw.2 ⟨hb.1 rfl, canL_ok.1 h.2.2.2⟩
    have hyl2 := matLen n1 n4 hyl
    have hlz : zs.length = ys.length := by omega
    obtain ⟨ws, w1, w2, _⟩ := gridTimes_ex (n := n) (allY_XL hya) (allY_XL hza) (by omega) (by omega) (by omega) n4 hyl hzl
    have ft := fun (P' : Program) (C' : Cx P' gl) => l8fits_fs C' (n := n) (n' := n') (q := r) (b := w) (L := 100000) hpw (canL_W fun k hk => by
      have hy' := w2 k (by omega)
      have := X_can hy'
      omega) (by omega) (by rw [canL_len]; omega) hwm (fun h => by rw [hpw]; exact h1 h) h2
    clear h1 h2 hw hb hp hq hy hz hwm hpw hya hza hyl hzl w1 w2
    obtain ⟨rfl, hG⟩ := C
    refine FS_ofT (args := fun A => [.agg [I n, .lst p], .agg [I n, .lst q]]) (R := fun A rr => rr = .tup [.agg [I n', .lst r], B w]) Tryz.hT Tryz.mix Tryz.func23 rfl rfl (Nat.le_of_ble_eq_true rfl) ?_
    generalize hP : Tryz.prog = P
    intro A hA
    have C : Tryz.Cx P gl := ⟨hP.symm, hG⟩
    have hI : intsL = A.ints := by subst hA; rfl
    iterate 2 (all_goals try cbv; all_goals repeat' (first | with_reducible exact True.intro | with_reducible refine And.intro ?_ ?_ | intro _))
    all_goals first | ((first | (with_reducible first | refine q1 hA ?_ | refine q2 hA ?_ | refine q3 hA ?_ | refine q4 hA ?_ | refine q5 hA ?_ | refine q6 hA ?_ | refine q7 hA ?_ | refine q8 hA ?_ | refine q9 hA ?_ | refine q0 hA ?_ | refine tru_of ?_) | exfalso); subst hA; subst_vars; simp only [AR.std, natCast_eq, sF, sB, sC, sD, sE, reduceCtorEq] at *; (try simp (disch := omega) only [AR.std, natCast_eq, sF, sB, sC, sD, sE, reduceCtorEq] at *); first | done | rfl | omega | exact ints_ok _ | exact ints_all _ | (apply ints_part <;> first | omega | rfl)) | skip
    refine callS hA rfl (am P C) ?_; rintro _ rfl
    iterate 2 (all_goals try cbv; all_goals repeat' (first | with_reducible exact True.intro | with_reducible refine And.intro ?_ ?_ | intro _))
    all_goals first | ((first | (with_reducible first | refine q1 hA ?_ | refine q2 hA ?_ | refine q3 hA ?_ | refine q4 hA ?_ | refine q5 hA ?_ | refine q6 hA ?_ | refine q7 hA ?_ | refine q8 hA ?_ | refine q9 hA ?_ | refine q0 hA ?_ | refine tru_of ?_) | exfalso); subst hA; subst_vars; simp only [AR.std, natCast_eq, sF, sB, sC, sD, sE, reduceCtorEq] at *; (try simp (disch := omega) only [AR.std, natCast_eq, sF, sB, sC, sD, sE, reduceCtorEq] at *); first | done | rfl | omega | exact ints_ok _ | exact ints_all _ | (apply ints_part <;> first | omega | rfl)) | skip
    iterate 2 (all_goals try cbv; all_goals repeat' (first | with_reducible exact True.intro | with_reducible refine And.intro ?_ ?_ | intro _))
    all_goals first | ((first | (with_reducible first | refine q1 hA ?_ | refine q2 hA ?_ | refine q3 hA ?_ | refine q4 hA ?_ | refine q5 hA ?_ | refine q6 hA ?_ | refine q7 hA ?_ | refine q8 hA ?_ | refine q9 hA ?_ | refine q0 hA ?_ | refine tru_of ?_) | exfalso); subst hA; subst_vars; simp only [AR.std, natCast_eq, sF, sB, sC, sD, sE, reduceCtorEq] at *; (try simp (disch := omega) only [AR.std, natCast_eq, sF, sB, sC, sD, sE, reduceCtorEq] at *); first | done | rfl | omega | exact ints_ok _ | exact ints_all _ | (apply ints_part <;> first | omega | rfl)) | skip
    refine callS hA rfl (ad P C) ?_; rintro _ rfl
    iterate 2 (all_goals try cbv; all_goals repeat' (first | with_reducible exact True.intro | with_reducible refine And.intro ?_ ?_ | intro _))
    all_goals first | ((first | (with_reducible first | refine q1 hA ?_ | refine q2 hA ?_ | refine q3 hA ?_ | refine q4 hA ?_ | refine q5 hA ?_ | refine q6 hA ?_ | refine q7 hA ?_ | refine q8 hA ?_ | refine q9 hA ?_ | refine q0 hA ?_ | refine tru_of ?_) | exfalso); subst hA; subst_vars; simp only [AR.std, natCast_eq, sF, sB, sC, sD, sE, reduceCtorEq] at *; (try simp (disch := omega) only [AR.std, natCast_eq, sF, sB, sC, sD, sE, reduceCtorEq] at *); first | done | rfl | omega | exact ints_ok _ | exact ints_all _ | (apply ints_part <;> first | omega | rfl)) | skip
    refine callS hA rfl (ft P C) ?_; rintro _ rfl
    iterate 2 (all_goals try cbv; all_goals repeat' (first | with_reducible exact True.intro | with_reducible refine And.intro ?_ ?_ | intro _))
    all_goals first | ((first | (with_reducible first | refine q1 hA ?_ | refine q2 hA ?_ | refine q3 hA ?_ | refine q4 hA ?_ | refine q5 hA ?_ | refine q6 hA ?_ | refine q7 hA ?_ | refine q8 hA ?_ | refine q9 hA ?_ | refine q0 hA ?_ | refine tru_of ?_) | exfalso); subst hA; subst_vars; simp only [AR.std, natCast_eq, sF, sB, sC, sD, sE, reduceCtorEq] at *; (try simp (disch := omega) only [AR.std, natCast_eq, sF, sB, sC, sD, sE, reduceCtorEq] at *); first | done | rfl | omega | exact ints_ok _ | exact ints_all _ | (apply ints_part <;> first | omega | rfl)) | skip

end Tryz
end Go.Proofs
