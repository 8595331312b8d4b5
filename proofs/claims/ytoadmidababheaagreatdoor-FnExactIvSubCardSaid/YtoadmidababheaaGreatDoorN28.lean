/- Contracts: IvSub, as the reference and the program have it. -/
import Derived.Test.YtoadmidababheaaGreatDoorN24
import Derived.Test.YtoadmidababheaaGreatDoorN26
namespace Go.Proofs
open Go Go.Pe Go.Dg
namespace Tryz
set_option linter.unusedSimpArgs false
set_option linter.unusedVariables false
variable {P : Program} {gl : List (Nat × Obj)}

theorem sub_vals {l0 m0 l1 m1 : List Int} {p0 q0 p1 q1 : List PV} {s0 t0 s1 t1 : Bool} {e0 f0 e1 f1 : Int} (hp0 : p0 = intsL l0) (hq0 : q0 = intsL m0) (hp1 : p1 = intsL l1) (hq1 : q1 = intsL m1) (ok0 : ivOk s0 l0 e0 t0 m0 f0) (ok1 : ivOk s1 l1 e1 t1 m1 f1) :
    ∃ y1 y2 y3 y4 : Int, p0 = intsL (dg y1.natAbs) ∧ s0 = decide (y1 < 0) ∧ q0 = intsL (dg y2.natAbs) ∧ t0 = decide (y2 < 0) ∧ p1 = intsL (dg y3.natAbs) ∧ s1 = decide (y3 < 0) ∧ q1 = intsL (dg y4.natAbs) ∧ t1 = decide (y4 < 0) ∧
      dval s0 l0 e0 - dval t1 m1 f1 = mk y1 e0 + mk (-y4) f1 ∧ dval t0 m0 f0 - dval s1 l1 e1 = mk y2 f0 + mk (-y3) e1 ∧ e0.natAbs ≤ 3000 ∧ f0.natAbs ≤ 3000 ∧ e1.natAbs ≤ 3000 ∧ f1.natAbs ≤ 3000 ∧
      (dg y1.natAbs).length ≤ 100 ∧ (dg y2.natAbs).length ≤ 100 ∧ (dg y3.natAbs).length ≤ 100 ∧ (dg y4.natAbs).length ≤ 100 := by
  obtain ⟨y1, y2, a1, a2, a3, a4, a5, a6, a7, a8, a9, a10⟩ := ivOk_val hp0 hq0 ok0
  obtain ⟨y3, y4, c1, c2, c3, c4, c5, c6, c7, c8, c9, c10⟩ := ivOk_val hp1 hq1 ok1
  refine ⟨y1, y2, y3, y4, a1, a2, a3, a4, c1, c2, c3, c4, ?_, ?_, a7, a8, c7, c8, a9, a10, c9, c10⟩
  · rw [a5, c6, ← mk_neg]; grind
  · rw [a6, c5, ← mk_neg]; grind

set_option maxHeartbeats 2000000 in
set_option maxRecDepth 100000 in
theorem specIvSub_fs (C : Cx P gl) {l0 m0 l1 m1 : List Int} {p0 q0 p1 q1 : List PV} {s0 t0 s1 t1 : Bool} {e0 f0 e1 f1 : Int} {r x : List PV} {o o2 : List Int} {u v w : Bool} {g h : Int} {d1 d2 : Dyadic} (hp0 : p0 = intsL l0) (hq0 : q0 = intsL m0) (hp1 : p1 = intsL l1) (hq1 : q1 = intsL m1) (hr : r = intsL o) (hx : x = intsL o2)
    (hd1 : d1 = dval s0 l0 e0 - dval t1 m1 f1) (hd2 : d2 = dval t0 m0 f0 - dval s1 l1 e1) (hw : w = true ↔ (ivOk s0 l0 e0 t0 m0 f0 ∧ ivOk s1 l1 e1 t1 m1 f1) ∧ fits d1 ∧ fits d2) (ho1 : w = true → cellsD d1 u o g ∧ cellsD d2 v o2 h) (ho2 : w = false → (u = false ∧ o = [] ∧ g = 0) ∧ v = false ∧ o2 = [] ∧ h = 0)
    (b0 : l0.length ≤ 2000000) (b1 : m0.length ≤ 2000000) (b2 : l1.length ≤ 2000000) (b3 : m1.length ≤ 2000000) :
    FS P gl 15 [.agg [B s0, .lst p0, I e0, B t0, .lst q0, I f0], .agg [B s1, .lst p1, I e1, B t1, .lst q1, I f1]] (· = .tup [.agg [B u, .lst r, I g, B v, .lst x, I h], B w]) := by
  obtain ⟨c0, hc0⟩ := bool_of (ivOk s0 l0 e0 t0 m0 f0)
  obtain ⟨c1, hc1⟩ := bool_of (ivOk s1 l1 e1 t1 m1 f1)
  have hz : (c0 = true → c1 = true → False) → w = false ∧ u = false ∧ r = [] ∧ g = 0 ∧ v = false ∧ x = [] ∧ h = 0 := by
    intro hn
    have hw0 : w = false := by
      cases hww : w with
      | false => rfl
      | true => exact (hn (hc0.2 (hw.1 hww).1.1) (hc1.2 (hw.1 hww).1.2)).elim
    obtain ⟨⟨k1, k2, k3⟩, k4, k5, k6⟩ := ho2 hw0
    exact ⟨hw0, k1, by rw [hr, k2]; rfl, k3, k4, by rw [hx, k5]; rfl, k6⟩
  have hc : c0 = true → c1 = true → ∃ (y1 y2 y3 y4 : Int) (r' x' : List PV) (u' v' : Bool) (g' h' : Int), p0 = intsL (dg y1.natAbs) ∧ s0 = decide (y1 < 0) ∧ q0 = intsL (dg y2.natAbs) ∧ t0 = decide (y2 < 0) ∧ p1 = intsL (dg y3.natAbs) ∧ s1 = decide (y3 < 0) ∧ q1 = intsL (dg y4.natAbs) ∧ t1 = decide (y4 < 0) ∧
      d1 = mk y1 e0 + mk (-y4) f1 ∧ d2 = mk y2 f0 + mk (-y3) e1 ∧ e0.natAbs ≤ 3000 ∧ f0.natAbs ≤ 3000 ∧ e1.natAbs ≤ 3000 ∧ f1.natAbs ≤ 3000 ∧
      (dg y1.natAbs).length ≤ 100 ∧ (dg y2.natAbs).length ≤ 100 ∧ (dg y3.natAbs).length ≤ 100 ∧ (dg y4.natAbs).length ≤ 100 ∧
      r' = intsL (dg (cZ d1).natAbs) ∧ u' = decide (cZ d1 < 0) ∧ g' = cE d1 ∧ x' = intsL (dg (cZ d2).natAbs) ∧ v' = decide (cZ d2 < 0) ∧ h' = cE d2 ∧ (w = true ↔ fits d1 ∧ fits d2) ∧ outI w r' x' r x u' v' u v g' h' g h ∧
      (dg (cZ d1).natAbs).length ≤ 2000000 ∧ (dg (cZ d2).natAbs).length ≤ 2000000 := by
    intro k0 k1
    obtain ⟨y1, y2, y3, y4, z1, z2, z3, z4, z5, z6, z7, z8, z9, z10, z11, z12, z13, z14, z15, z16, z17, z18⟩ := sub_vals hp0 hq0 hp1 hq1 (hc0.1 k0) (hc1.1 k1)
    have hw2 : w = true ↔ fits d1 ∧ fits d2 := by rw [hw]; exact ⟨fun h => h.2, fun h => ⟨⟨hc0.1 k0, hc1.1 k1⟩, h⟩⟩
    rw [← hd1] at z9
    rw [← hd2] at z10
    refine ⟨y1, y2, y3, y4, _, _, _, _, _, _, z1, z2, z3, z4, z5, z6, z7, z8, z9, z10, z11, z12, z13, z14, z15, z16, z17, z18, rfl, rfl, rfl, rfl, rfl, rfl, hw2, ⟨fun hwt => ?_, fun hwf => ?_⟩, ?_, ?_⟩
    · obtain ⟨⟨k1, k2, k3⟩, k4, k5, k6⟩ := ho1 hwt
      exact ⟨by rw [hr, k2], k1, k3, by rw [hx, k5], k4, k6⟩
    · obtain ⟨⟨k1, k2, k3⟩, k4, k5, k6⟩ := ho2 hwf
      exact ⟨by rw [hr, k2]; rfl, k1, k3, by rw [hx, k5]; rfl, k4, k6⟩
    · rw [z9]; exact Nat.le_trans (add_len (L := 100) (E := 3000) z15 (by rw [Int.natAbs_neg]; exact z18) z11 z14) (by decide)
    · rw [z10]; exact Nat.le_trans (add_len (L := 100) (E := 3000) z16 (by rw [Int.natAbs_neg]; exact z17) z12 z13) (by decide)
  have hcall0 := fun (P' : Program) (C' : Cx P' gl) => IvOk_fs C' hp0 hq0 hc0 b0 b1
  have hcall1 := fun (P' : Program) (C' : Cx P' gl) => IvOk_fs C' hp1 hq1 hc1 b2 b3
  clear hw ho1 ho2 hr hx hd1 hd2 hc0 hc1
  obtain ⟨rfl, hG⟩ := C
  refine FS_ofT (args := fun A => [.agg [B s0, .lst p0, I e0, B t0, .lst q0, I f0], .agg [B s1, .lst p1, I e1, B t1, .lst q1, I f1]]) (R := fun A rr => rr = .tup [.agg [B u, .lst r, I g, B v, .lst x, I h], B w]) Tryz.hT Tryz.mix Tryz.func15 rfl rfl (Nat.le_of_ble_eq_true rfl) ?_
  generalize hP : Tryz.prog = P
  intro A hA
  have C : Tryz.Cx P gl := ⟨hP.symm, hG⟩
  have hI : intsL = A.ints := by subst hA; rfl
  all_goals try cbv
  all_goals repeat' (first | with_reducible exact True.intro | with_reducible refine And.intro ?_ ?_ | intro _)
  all_goals try cbv
  all_goals repeat' (first | with_reducible exact True.intro | with_reducible refine And.intro ?_ ?_ | intro _)
  all_goals first | ((first | (with_reducible first | refine q1 hA ?_ | refine q2 hA ?_ | refine q3 hA ?_ | refine q4 hA ?_ | refine q5 hA ?_ | refine q6 hA ?_ | refine q7 hA ?_ | refine q8 hA ?_ | refine q9 hA ?_ | refine q0 hA ?_ | refine tru_of ?_) | exfalso); subst hA; subst_vars; simp only [AR.std, natCast_eq, sA, sB, sC, sD, reduceCtorEq] at *; (try simp (disch := omega) only [AR.std, natCast_eq, sA, sB, sC, sD, reduceCtorEq] at *); first | done | rfl | omega | exact ints_ok _ | exact ints_all _ | (apply ints_part <;> first | omega | rfl)) | skip
  refine callS hA rfl (hcall0 P C) ?_; rintro _ rfl
  all_goals try cbv
  all_goals repeat' (first | with_reducible exact True.intro | with_reducible refine And.intro ?_ ?_ | intro _)
  all_goals try cbv
  all_goals repeat' (first | with_reducible exact True.intro | with_reducible refine And.intro ?_ ?_ | intro _)
  all_goals first | ((first | (with_reducible first | refine q1 hA ?_ | refine q2 hA ?_ | refine q3 hA ?_ | refine q4 hA ?_ | refine q5 hA ?_ | refine q6 hA ?_ | refine q7 hA ?_ | refine q8 hA ?_ | refine q9 hA ?_ | refine q0 hA ?_ | refine tru_of ?_) | exfalso); subst hA; subst_vars; simp only [AR.std, natCast_eq, sA, sB, sC, sD, reduceCtorEq] at *; (try simp (disch := omega) only [AR.std, natCast_eq, sA, sB, sC, sD, reduceCtorEq] at *); first | done | rfl | omega | exact ints_ok _ | exact ints_all _ | (apply ints_part <;> first | omega | rfl)) | skip
  refine ⟨_, fun _ => hcall1 P C, ?_⟩
  all_goals try cbv
  all_goals repeat' (first | with_reducible exact True.intro | with_reducible refine And.intro ?_ ?_ | intro _)
  all_goals try cbv
  all_goals repeat' (first | with_reducible exact True.intro | with_reducible refine And.intro ?_ ?_ | intro _)
  all_goals first | ((first | (with_reducible first | refine q1 hA ?_ | refine q2 hA ?_ | refine q3 hA ?_ | refine q4 hA ?_ | refine q5 hA ?_ | refine q6 hA ?_ | refine q7 hA ?_ | refine q8 hA ?_ | refine q9 hA ?_ | refine q0 hA ?_ | refine tru_of ?_) | exfalso); subst hA; subst_vars; simp only [AR.std, natCast_eq, sA, sB, sC, sD, reduceCtorEq] at *; (try simp (disch := omega) only [AR.std, natCast_eq, sA, sB, sC, sD, reduceCtorEq] at *); first | done | rfl | omega | exact ints_ok _ | exact ints_all _ | (apply ints_part <;> first | omega | rfl)) | skip
  · rename_i gg
    obtain ⟨rfl, rfl, rfl, rfl, rfl, rfl, rfl⟩ := hz (by intro k0 k1; subst hA; rw [k0, k1] at gg; exact absurd gg (by decide))
    rfl
  · rename_i gg
    have gk : c0 = true ∧ c1 = true := by subst hA; cases c0 <;> cases c1 <;> first | exact ⟨rfl, rfl⟩ | exact absurd gg (by decide)
    obtain ⟨y1, y2, y3, y4, r', x', u', v', g', h', z1, z2, z3, z4, z5, z6, z7, z8, z9, z10, z11, z12, z13, z14, z15, z16, z17, z18, z19, z20, z21, z22, z23, z24, z25, z26, z27, z28⟩ := hc gk.1 gk.2
    obtain ⟨n1, hn1⟩ : ∃ b, b = decide (0 < y3) := ⟨_, rfl⟩
    obtain ⟨n2, hn2⟩ : ∃ b, b = decide (0 < y4) := ⟨_, rfl⟩
    have hneg := fun (P' : Program) (C' : Cx P' gl) => l7neg_fs C' (e1 := e1) (e2 := f1) z5 z6 z7 z8 hn1 hn2 (by omega) (by omega)
    have w7 : q1 = intsL (dg (-y4).natAbs) := by rw [Int.natAbs_neg]; exact z7
    have w5 : p1 = intsL (dg (-y3).natAbs) := by rw [Int.natAbs_neg]; exact z5
    have w8 : n2 = decide (-y4 < 0) := by rw [hn2, decide_eq_decide]; omega
    have w6 : n1 = decide (-y3 < 0) := by rw [hn1, decide_eq_decide]; omega
    have hadd := fun (P' : Program) (C' : Cx P' gl) => l7add_fs C' z1 z2 z3 z4 w7 w8 w5 w6 z9 z10 z19 z20 z21 z22 z23 z24 (by omega) (by omega) (by omega) (by omega) (by omega) (by omega) (by rw [Int.natAbs_neg]; omega) (by rw [Int.natAbs_neg]; omega)
    have hfit := fun (P' : Program) (C' : Cx P' gl) => l7fits_fs C' z19 z20 z21 z22 z23 z24 z27 z28 z25 z26
    clear hc hz z9 z10 z19 z20 z21 z22 z23 z24 z25 z26
    refine ⟨_, hneg P C, ?_⟩
    all_goals try cbv
    all_goals repeat' (first | with_reducible exact True.intro | with_reducible refine And.intro ?_ ?_ | intro _)
    all_goals try cbv
    all_goals repeat' (first | with_reducible exact True.intro | with_reducible refine And.intro ?_ ?_ | intro _)
    all_goals first | ((first | (with_reducible first | refine q1 hA ?_ | refine q2 hA ?_ | refine q3 hA ?_ | refine q4 hA ?_ | refine q5 hA ?_ | refine q6 hA ?_ | refine q7 hA ?_ | refine q8 hA ?_ | refine q9 hA ?_ | refine q0 hA ?_ | refine tru_of ?_) | exfalso); subst hA; subst_vars; simp only [AR.std, natCast_eq, sA, sB, sC, sD, reduceCtorEq] at *; (try simp (disch := omega) only [AR.std, natCast_eq, sA, sB, sC, sD, reduceCtorEq] at *); first | done | rfl | omega | exact ints_ok _ | exact ints_all _ | (apply ints_part <;> first | omega | rfl)) | skip
    refine ⟨_, hadd P C, ?_⟩
    all_goals try cbv
    all_goals repeat' (first | with_reducible exact True.intro | with_reducible refine And.intro ?_ ?_ | intro _)
    all_goals try cbv
    all_goals repeat' (first | with_reducible exact True.intro | with_reducible refine And.intro ?_ ?_ | intro _)
    all_goals first | ((first | (with_reducible first | refine q1 hA ?_ | refine q2 hA ?_ | refine q3 hA ?_ | refine q4 hA ?_ | refine q5 hA ?_ | refine q6 hA ?_ | refine q7 hA ?_ | refine q8 hA ?_ | refine q9 hA ?_ | refine q0 hA ?_ | refine tru_of ?_) | exfalso); subst hA; subst_vars; simp only [AR.std, natCast_eq, sA, sB, sC, sD, reduceCtorEq] at *; (try simp (disch := omega) only [AR.std, natCast_eq, sA, sB, sC, sD, reduceCtorEq] at *); first | done | rfl | omega | exact ints_ok _ | exact ints_all _ | (apply ints_part <;> first | omega | rfl)) | skip
    refine ⟨_, hfit P C, ?_⟩
    all_goals try cbv
    all_goals repeat' (first | with_reducible exact True.intro | with_reducible refine And.intro ?_ ?_ | intro _)
    all_goals try cbv
    all_goals repeat' (first | with_reducible exact True.intro | with_reducible refine And.intro ?_ ?_ | intro _)
    all_goals first | ((first | (with_reducible first | refine q1 hA ?_ | refine q2 hA ?_ | refine q3 hA ?_ | refine q4 hA ?_ | refine q5 hA ?_ | refine q6 hA ?_ | refine q7 hA ?_ | refine q8 hA ?_ | refine q9 hA ?_ | refine q0 hA ?_ | refine tru_of ?_) | exfalso); subst hA; subst_vars; simp only [AR.std, natCast_eq, sA, sB, sC, sD, reduceCtorEq] at *; (try simp (disch := omega) only [AR.std, natCast_eq, sA, sB, sC, sD, reduceCtorEq] at *); first | done | rfl | omega | exact ints_ok _ | exact ints_all _ | (apply ints_part <;> first | omega | rfl)) | skip

set_option maxHeartbeats 2000000 in
set_option maxRecDepth 100000 in
theorem implIvSub_oo_fx (C : Cx P gl) {l0 m0 l1 m1 : List Int} {p0 q0 p1 q1 : List PV} {s0 t0 s1 t1 : Bool} {e0 f0 e1 f1 : Int} {d1 d2 : Dyadic} {u : Bool} {r : List PV} {g : Int} {v : Bool} {x : List PV} {h : Int} (hp0 : p0 = intsL l0) (hq0 : q0 = intsL m0) (hp1 : p1 = intsL l1) (hq1 : q1 = intsL m1) (ok0 : ivOk s0 l0 e0 t0 m0 f0) (ok1 : ivOk s1 l1 e1 t1 m1 f1) (hd1 : d1 = dval s0 l0 e0 - dval t1 m1 f1) (hd2 : d2 = dval t0 m0 f0 - dval s1 l1 e1) (fit1 : fits d1) (n1 : d1 ≠ 0) (hr1 : r = intsL (dg (cZ d1).natAbs)) (hu1 : u = decide (cZ d1 < 0)) (hg1 : g = cE d1) (fit2 : fits d2) (n2 : d2 ≠ 0) (hr2 : x = intsL (dg (cZ d2).natAbs)) (hu2 : v = decide (cZ d2 < 0)) (hg2 : h = cE d2)
    (b0 : l0.length ≤ 2000000) (b1 : m0.length ≤ 2000000) (b2 : l1.length ≤ 2000000) (b3 : m1.length ≤ 2000000) :
    FX P gl 16 [] [.pv (.agg [B s0, .lst p0, I e0, B t0, .lst q0, I f0]), .pv (.agg [B s1, .lst p1, I e1, B t1, .lst q1, I f1])] (fun own rr => own = [.row 3 1 r, .row 3 1 x] ∧ rr = .tup [.agg [.pv (B u), .own 0, .pv (I g), .pv (B v), .own 1, .pv (I h)], .pv (B true)]) := by
  have hall : true = true ↔ allV [((s0, l0, e0), (t0, m0, f0)), ((s1, l1, e1), (t1, m1, f1))] := by
    refine ⟨fun _ => ?_, fun _ => rfl⟩
    intro y hy
    simp only [List.mem_cons, List.not_mem_nil, or_false] at hy
    rcases hy with rfl | rfl
    · exact ok0
    · exact ok1
  have hyy : ∀ y ∈ [((s0, l0, e0), (t0, m0, f0)), ((s1, l1, e1), (t1, m1, f1))], y.1.2.1.length ≤ 2000000 ∧ y.2.2.1.length ≤ 2000000 := by
    intro y hy
    simp only [List.mem_cons, List.not_mem_nil, or_false] at hy
    rcases hy with rfl | rfl
    · exact ⟨b0, b1⟩
    · exact ⟨b2, b3⟩
  have hcl : [PV.agg [B s0, .lst p0, I e0, B t0, .lst q0, I f0], .agg [B s1, .lst p1, I e1, B t1, .lst q1, I f1]] = cells6 [((s0, l0, e0), (t0, m0, f0)), ((s1, l1, e1), (t1, m1, f1))] := by rw [hp0, hq0, hp1, hq1]; rfl
  have hare := fun (P' : Program) (C' : Cx P' gl) => areIvs_fs C' hcl hall (by simp) hyy
  obtain ⟨y1, y2, y3, y4, z1, z2, z3, z4, z5, z6, z7, z8, z9, z10, z11, z12, z13, z14, z15, z16, z17, z18⟩ := sub_vals hp0 hq0 hp1 hq1 ok0 ok1
  obtain ⟨w1, g1, hs1⟩ := sumD_ex y1 e0 (-y4) f1
  obtain ⟨w2, g2, hs2⟩ := sumD_ex y2 f0 (-y3) e1
  have hm1 : d1 = mk w1 g1 := by rw [hd1, z9, sumD_mk hs1]
  have hm2 : d2 = mk w2 g2 := by rw [hd2, z10, sumD_mk hs2]
  obtain ⟨k1, k2⟩ := sumD_len (L := 100) (E := 3000) hs1 z15 (by rw [Int.natAbs_neg]; exact z18) z11 z14
  obtain ⟨k3, k4⟩ := sumD_len (L := 100) (E := 3000) hs2 z16 (by rw [Int.natAbs_neg]; exact z17) z12 z13
  have hw1 : d1 = 0 ↔ w1 = 0 := by rw [hm1, ← mk_zero g1, mk_inj]
  have hw2 : d2 = 0 ↔ w2 = 0 := by rw [hm2, ← mk_zero g2, mk_inj]
  obtain ⟨r1, hr1'⟩ : ∃ r, r = intsL (dg w1.natAbs) := ⟨_, rfl⟩
  obtain ⟨r2, hr2'⟩ : ∃ r, r = intsL (dg w2.natAbs) := ⟨_, rfl⟩
  obtain ⟨v1, hv1'⟩ : ∃ b, b = decide (w1 < 0) := ⟨_, rfl⟩
  obtain ⟨v2, hv2'⟩ : ∃ b, b = decide (w2 < 0) := ⟨_, rfl⟩
  obtain ⟨n1', hn1'⟩ : ∃ b, b = decide (0 < y3) := ⟨_, rfl⟩
  obtain ⟨n2', hn2'⟩ : ∃ b, b = decide (0 < y4) := ⟨_, rfl⟩
  have hneg1 := fun (P' : Program) (C' : Cx P' gl) => negated_fs C' (e := e1) z5 z6 hn1' (by omega)
  have hneg2 := fun (P' : Program) (C' : Cx P' gl) => negated_fs C' (e := f1) z7 z8 hn2' (by omega)
  have w7 : q1 = intsL (dg (-y4).natAbs) := by rw [Int.natAbs_neg]; exact z7
  have w5 : p1 = intsL (dg (-y3).natAbs) := by rw [Int.natAbs_neg]; exact z5
  have w8 : n2' = decide (-y4 < 0) := by rw [hn2', decide_eq_decide]; omega
  have w6 : n1' = decide (-y3 < 0) := by rw [hn1', decide_eq_decide]; omega
  have hplus := fun (P' : Program) (C' : Cx P' gl) => spanPlus_fs C' z1 z2 z3 z4 w7 w8 w5 w6 hs1 hs2 hr1' hv1' hr2' hv2' (by omega) (by omega) (by omega) (by omega) (by omega) (by omega) (by rw [Int.natAbs_neg]; omega) (by rw [Int.natAbs_neg]; omega)
  have hiv := fun (P' : Program) (C' : Cx P' gl) => spanIv_oo_fn C' hr1' hv1' hr2' hv2' hm1 hm2 (by omega) (by omega) (by omega) (by omega) fit1 (fun h => n1 (hw1.2 h)) hr1 hu1 hg1 fit2 (fun h => n2 (hw2.2 h)) hr2 hu2 hg2
  clear hall hyy hcl hs1 hs2 hm1 hm2 hr1' hr2' hv1' hv2' hw1 hw2 hd1 hd2 ok0 ok1 z9 z10 hr1 hu1 hg1 n1 hr2 hu2 hg2 n2
  obtain ⟨rfl, hG⟩ := C
  refine FX_ofC (own := fun A => []) (args := fun A => [.pv (.agg [B s0, .lst p0, I e0, B t0, .lst q0, I f0]), .pv (.agg [B s1, .lst p1, I e1, B t1, .lst q1, I f1])]) (R := fun A ow rr => ow = [.row 3 1 r, .row 3 1 x] ∧ rr = .tup [.agg [.pv (B u), .own 0, .pv (I g), .pv (B v), .own 1, .pv (I h)], .pv (B true)]) Tryz.hT Tryz.mix Tryz.func16 rfl rfl (Nat.le_of_ble_eq_true rfl) ?_
  generalize hP : Tryz.prog = P
  intro A hA
  have C : Tryz.Cx P gl := ⟨hP.symm, hG⟩
  have hI : intsL = A.ints := by subst hA; rfl
  all_goals try cbv
  all_goals repeat' (first | with_reducible exact True.intro | with_reducible refine And.intro ?_ ?_ | intro _)
  all_goals try cbv
  all_goals repeat' (first | with_reducible exact True.intro | with_reducible refine And.intro ?_ ?_ | intro _)
  all_goals first | ((first | (with_reducible first | refine q1 hA ?_ | refine q2 hA ?_ | refine q3 hA ?_ | refine q4 hA ?_ | refine q5 hA ?_ | refine q6 hA ?_ | refine q7 hA ?_ | refine q8 hA ?_ | refine q9 hA ?_ | refine q0 hA ?_ | refine tru_of ?_) | exfalso); subst hA; subst_vars; simp only [AR.std, natCast_eq, sA, sB, sC, sD, reduceCtorEq] at *; (try simp (disch := omega) only [AR.std, natCast_eq, sA, sB, sC, sD, reduceCtorEq] at *); first | done | rfl | omega | exact ints_ok _ | exact ints_all _ | (apply ints_part <;> first | omega | rfl)) | skip
  all_goals try (refine okA_of hA ?_; intro y hy; simp only [List.mem_cons, List.not_mem_nil, or_false] at hy; rcases hy with rfl | rfl <;> exact ⟨rfl, rfl⟩)
  refine callS hA rfl (hare P C) ?_; rintro _ rfl
  all_goals try cbv
  all_goals repeat' (first | with_reducible exact True.intro | with_reducible refine And.intro ?_ ?_ | intro _)
  all_goals try cbv
  all_goals repeat' (first | with_reducible exact True.intro | with_reducible refine And.intro ?_ ?_ | intro _)
  all_goals first | ((first | (with_reducible first | refine q1 hA ?_ | refine q2 hA ?_ | refine q3 hA ?_ | refine q4 hA ?_ | refine q5 hA ?_ | refine q6 hA ?_ | refine q7 hA ?_ | refine q8 hA ?_ | refine q9 hA ?_ | refine q0 hA ?_ | refine tru_of ?_) | exfalso); subst hA; subst_vars; simp only [AR.std, natCast_eq, sA, sB, sC, sD, reduceCtorEq] at *; (try simp (disch := omega) only [AR.std, natCast_eq, sA, sB, sC, sD, reduceCtorEq] at *); first | done | rfl | omega | exact ints_ok _ | exact ints_all _ | (apply ints_part <;> first | omega | rfl)) | skip
  refine callS hA rfl (span_fs C) ?_; rintro _ rfl
  all_goals try cbv
  all_goals repeat' (first | with_reducible exact True.intro | with_reducible refine And.intro ?_ ?_ | intro _)
  all_goals try cbv
  all_goals repeat' (first | with_reducible exact True.intro | with_reducible refine And.intro ?_ ?_ | intro _)
  all_goals first | ((first | (with_reducible first | refine q1 hA ?_ | refine q2 hA ?_ | refine q3 hA ?_ | refine q4 hA ?_ | refine q5 hA ?_ | refine q6 hA ?_ | refine q7 hA ?_ | refine q8 hA ?_ | refine q9 hA ?_ | refine q0 hA ?_ | refine tru_of ?_) | exfalso); subst hA; subst_vars; simp only [AR.std, natCast_eq, sA, sB, sC, sD, reduceCtorEq] at *; (try simp (disch := omega) only [AR.std, natCast_eq, sA, sB, sC, sD, reduceCtorEq] at *); first | done | rfl | omega | exact ints_ok _ | exact ints_all _ | (apply ints_part <;> first | omega | rfl)) | skip
  refine ⟨_, span_fs C, ?_⟩
  all_goals try cbv
  all_goals repeat' (first | with_reducible exact True.intro | with_reducible refine And.intro ?_ ?_ | intro _)
  all_goals try cbv
  all_goals repeat' (first | with_reducible exact True.intro | with_reducible refine And.intro ?_ ?_ | intro _)
  all_goals first | ((first | (with_reducible first | refine q1 hA ?_ | refine q2 hA ?_ | refine q3 hA ?_ | refine q4 hA ?_ | refine q5 hA ?_ | refine q6 hA ?_ | refine q7 hA ?_ | refine q8 hA ?_ | refine q9 hA ?_ | refine q0 hA ?_ | refine tru_of ?_) | exfalso); subst hA; subst_vars; simp only [AR.std, natCast_eq, sA, sB, sC, sD, reduceCtorEq] at *; (try simp (disch := omega) only [AR.std, natCast_eq, sA, sB, sC, sD, reduceCtorEq] at *); first | done | rfl | omega | exact ints_ok _ | exact ints_all _ | (apply ints_part <;> first | omega | rfl)) | skip
  refine ⟨_, hneg2 P C, ?_⟩
  all_goals try cbv
  all_goals repeat' (first | with_reducible exact True.intro | with_reducible refine And.intro ?_ ?_ | intro _)
  all_goals try cbv
  all_goals repeat' (first | with_reducible exact True.intro | with_reducible refine And.intro ?_ ?_ | intro _)
  all_goals first | ((first | (with_reducible first | refine q1 hA ?_ | refine q2 hA ?_ | refine q3 hA ?_ | refine q4 hA ?_ | refine q5 hA ?_ | refine q6 hA ?_ | refine q7 hA ?_ | refine q8 hA ?_ | refine q9 hA ?_ | refine q0 hA ?_ | refine tru_of ?_) | exfalso); subst hA; subst_vars; simp only [AR.std, natCast_eq, sA, sB, sC, sD, reduceCtorEq] at *; (try simp (disch := omega) only [AR.std, natCast_eq, sA, sB, sC, sD, reduceCtorEq] at *); first | done | rfl | omega | exact ints_ok _ | exact ints_all _ | (apply ints_part <;> first | omega | rfl)) | skip
  refine callS hA rfl (hneg1 P C) ?_; rintro _ rfl
  all_goals try cbv
  all_goals repeat' (first | with_reducible exact True.intro | with_reducible refine And.intro ?_ ?_ | intro _)
  all_goals try cbv
  all_goals repeat' (first | with_reducible exact True.intro | with_reducible refine And.intro ?_ ?_ | intro _)
  all_goals first | ((first | (with_reducible first | refine q1 hA ?_ | refine q2 hA ?_ | refine q3 hA ?_ | refine q4 hA ?_ | refine q5 hA ?_ | refine q6 hA ?_ | refine q7 hA ?_ | refine q8 hA ?_ | refine q9 hA ?_ | refine q0 hA ?_ | refine tru_of ?_) | exfalso); subst hA; subst_vars; simp only [AR.std, natCast_eq, sA, sB, sC, sD, reduceCtorEq] at *; (try simp (disch := omega) only [AR.std, natCast_eq, sA, sB, sC, sD, reduceCtorEq] at *); first | done | rfl | omega | exact ints_ok _ | exact ints_all _ | (apply ints_part <;> first | omega | rfl)) | skip
  refine callS hA rfl (hplus P C) ?_; rintro _ rfl
  all_goals try cbv
  all_goals repeat' (first | with_reducible exact True.intro | with_reducible refine And.intro ?_ ?_ | intro _)
  all_goals try cbv
  all_goals repeat' (first | with_reducible exact True.intro | with_reducible refine And.intro ?_ ?_ | intro _)
  all_goals first | ((first | (with_reducible first | refine q1 hA ?_ | refine q2 hA ?_ | refine q3 hA ?_ | refine q4 hA ?_ | refine q5 hA ?_ | refine q6 hA ?_ | refine q7 hA ?_ | refine q8 hA ?_ | refine q9 hA ?_ | refine q0 hA ?_ | refine tru_of ?_) | exfalso); subst hA; subst_vars; simp only [AR.std, natCast_eq, sA, sB, sC, sD, reduceCtorEq] at *; (try simp (disch := omega) only [AR.std, natCast_eq, sA, sB, sC, sD, reduceCtorEq] at *); first | done | rfl | omega | exact ints_ok _ | exact ints_all _ | (apply ints_part <;> first | omega | rfl)) | skip
  refine callN hA rfl (hiv P C) ?_; rintro _ _ ⟨rfl, rfl⟩; refine ⟨rfl, ?_⟩
  all_goals try cbv
  all_goals repeat' (first | with_reducible exact True.intro | with_reducible refine And.intro ?_ ?_ | intro _)
  all_goals try cbv
  all_goals repeat' (first | with_reducible exact True.intro | with_reducible refine And.intro ?_ ?_ | intro _)
  all_goals first | ((first | (with_reducible first | refine q1 hA ?_ | refine q2 hA ?_ | refine q3 hA ?_ | refine q4 hA ?_ | refine q5 hA ?_ | refine q6 hA ?_ | refine q7 hA ?_ | refine q8 hA ?_ | refine q9 hA ?_ | refine q0 hA ?_ | refine tru_of ?_) | exfalso); subst hA; subst_vars; simp only [AR.std, natCast_eq, sA, sB, sC, sD, reduceCtorEq] at *; (try simp (disch := omega) only [AR.std, natCast_eq, sA, sB, sC, sD, reduceCtorEq] at *); first | done | rfl | omega | exact ints_ok _ | exact ints_all _ | (apply ints_part <;> first | omega | rfl)) | skip
  subst hA
  exact ⟨[5, 6], _, _, by decide, Nat.zero_le _, rfl, rfl, rfl, rfl, rfl, rfl⟩

theorem implIvSub_oo_fn (C : Cx P gl) {l0 m0 l1 m1 : List Int} {p0 q0 p1 q1 : List PV} {s0 t0 s1 t1 : Bool} {e0 f0 e1 f1 : Int} {d1 d2 : Dyadic} {u : Bool} {r : List PV} {g : Int} {v : Bool} {x : List PV} {h : Int} (hp0 : p0 = intsL l0) (hq0 : q0 = intsL m0) (hp1 : p1 = intsL l1) (hq1 : q1 = intsL m1) (ok0 : ivOk s0 l0 e0 t0 m0 f0) (ok1 : ivOk s1 l1 e1 t1 m1 f1) (hd1 : d1 = dval s0 l0 e0 - dval t1 m1 f1) (hd2 : d2 = dval t0 m0 f0 - dval s1 l1 e1) (fit1 : fits d1) (n1 : d1 ≠ 0) (hr1 : r = intsL (dg (cZ d1).natAbs)) (hu1 : u = decide (cZ d1 < 0)) (hg1 : g = cE d1) (fit2 : fits d2) (n2 : d2 ≠ 0) (hr2 : x = intsL (dg (cZ d2).natAbs)) (hu2 : v = decide (cZ d2 < 0)) (hg2 : h = cE d2)
    (b0 : l0.length ≤ 2000000) (b1 : m0.length ≤ 2000000) (b2 : l1.length ≤ 2000000) (b3 : m1.length ≤ 2000000) :
    FN P gl 16 [.agg [B s0, .lst p0, I e0, B t0, .lst q0, I f0], .agg [B s1, .lst p1, I e1, B t1, .lst q1, I f1]] (fun own rr => own = [.row 3 1 r, .row 3 1 x] ∧ rr = .tup [.agg [.pv (B u), .own 0, .pv (I g), .pv (B v), .own 1, .pv (I h)], .pv (B true)]) :=
  FN_of (implIvSub_oo_fx C hp0 hq0 hp1 hq1 ok0 ok1 hd1 hd2 fit1 n1 hr1 hu1 hg1 fit2 n2 hr2 hu2 hg2 b0 b1 b2 b3) (by rintro _ _ ⟨rfl, rfl⟩; exact ⟨by simpa using ⟨closed_ints hr1 _ _, closed_ints hr2 _ _⟩, rfl⟩)

set_option maxHeartbeats 2000000 in
set_option maxRecDepth 100000 in
theorem implIvSub_on_fx (C : Cx P gl) {l0 m0 l1 m1 : List Int} {p0 q0 p1 q1 : List PV} {s0 t0 s1 t1 : Bool} {e0 f0 e1 f1 : Int} {d1 d2 : Dyadic} {u : Bool} {r : List PV} {g : Int} (hp0 : p0 = intsL l0) (hq0 : q0 = intsL m0) (hp1 : p1 = intsL l1) (hq1 : q1 = intsL m1) (ok0 : ivOk s0 l0 e0 t0 m0 f0) (ok1 : ivOk s1 l1 e1 t1 m1 f1) (hd1 : d1 = dval s0 l0 e0 - dval t1 m1 f1) (hd2 : d2 = dval t0 m0 f0 - dval s1 l1 e1) (fit1 : fits d1) (n1 : d1 ≠ 0) (hr1 : r = intsL (dg (cZ d1).natAbs)) (hu1 : u = decide (cZ d1 < 0)) (hg1 : g = cE d1) (n2 : d2 = 0)
    (b0 : l0.length ≤ 2000000) (b1 : m0.length ≤ 2000000) (b2 : l1.length ≤ 2000000) (b3 : m1.length ≤ 2000000) :
    FX P gl 16 [] [.pv (.agg [B s0, .lst p0, I e0, B t0, .lst q0, I f0]), .pv (.agg [B s1, .lst p1, I e1, B t1, .lst q1, I f1])] (fun own rr => own = [.row 3 1 r] ∧ rr = .tup [.agg [.pv (B u), .own 0, .pv (I g), .pv (B false), .pv (.lst []), .pv (I 0)], .pv (B true)]) := by
  have hall : true = true ↔ allV [((s0, l0, e0), (t0, m0, f0)), ((s1, l1, e1), (t1, m1, f1))] := by
    refine ⟨fun _ => ?_, fun _ => rfl⟩
    intro y hy
    simp only [List.mem_cons, List.not_mem_nil, or_false] at hy
    rcases hy with rfl | rfl
    · exact ok0
    · exact ok1
  have hyy : ∀ y ∈ [((s0, l0, e0), (t0, m0, f0)), ((s1, l1, e1), (t1, m1, f1))], y.1.2.1.length ≤ 2000000 ∧ y.2.2.1.length ≤ 2000000 := by
    intro y hy
    simp only [List.mem_cons, List.not_mem_nil, or_false] at hy
    rcases hy with rfl | rfl
    · exact ⟨b0, b1⟩
    · exact ⟨b2, b3⟩
  have hcl : [PV.agg [B s0, .lst p0, I e0, B t0, .lst q0, I f0], .agg [B s1, .lst p1, I e1, B t1, .lst q1, I f1]] = cells6 [((s0, l0, e0), (t0, m0, f0)), ((s1, l1, e1), (t1, m1, f1))] := by rw [hp0, hq0, hp1, hq1]; rfl
  have hare := fun (P' : Program) (C' : Cx P' gl) => areIvs_fs C' hcl hall (by simp) hyy
  obtain ⟨y1, y2, y3, y4, z1, z2, z3, z4, z5, z6, z7, z8, z9, z10, z11, z12, z13, z14, z15, z16, z17, z18⟩ := sub_vals hp0 hq0 hp1 hq1 ok0 ok1
  obtain ⟨w1, g1, hs1⟩ := sumD_ex y1 e0 (-y4) f1
  obtain ⟨w2, g2, hs2⟩ := sumD_ex y2 f0 (-y3) e1
  have hm1 : d1 = mk w1 g1 := by rw [hd1, z9, sumD_mk hs1]
  have hm2 : d2 = mk w2 g2 := by rw [hd2, z10, sumD_mk hs2]
  obtain ⟨k1, k2⟩ := sumD_len (L := 100) (E := 3000) hs1 z15 (by rw [Int.natAbs_neg]; exact z18) z11 z14
  obtain ⟨k3, k4⟩ := sumD_len (L := 100) (E := 3000) hs2 z16 (by rw [Int.natAbs_neg]; exact z17) z12 z13
  have hw1 : d1 = 0 ↔ w1 = 0 := by rw [hm1, ← mk_zero g1, mk_inj]
  have hw2 : d2 = 0 ↔ w2 = 0 := by rw [hm2, ← mk_zero g2, mk_inj]
  obtain ⟨r1, hr1'⟩ : ∃ r, r = intsL (dg w1.natAbs) := ⟨_, rfl⟩
  obtain ⟨r2, hr2'⟩ : ∃ r, r = intsL (dg w2.natAbs) := ⟨_, rfl⟩
  obtain ⟨v1, hv1'⟩ : ∃ b, b = decide (w1 < 0) := ⟨_, rfl⟩
  obtain ⟨v2, hv2'⟩ : ∃ b, b = decide (w2 < 0) := ⟨_, rfl⟩
  obtain ⟨n1', hn1'⟩ : ∃ b, b = decide (0 < y3) := ⟨_, rfl⟩
  obtain ⟨n2', hn2'⟩ : ∃ b, b = decide (0 < y4) := ⟨_, rfl⟩
  have hneg1 := fun (P' : Program) (C' : Cx P' gl) => negated_fs C' (e := e1) z5 z6 hn1' (by omega)
  have hneg2 := fun (P' : Program) (C' : Cx P' gl) => negated_fs C' (e := f1) z7 z8 hn2' (by omega)
  have w7 : q1 = intsL (dg (-y4).natAbs) := by rw [Int.natAbs_neg]; exact z7
  have w5 : p1 = intsL (dg (-y3).natAbs) := by rw [Int.natAbs_neg]; exact z5
  have w8 : n2' = decide (-y4 < 0) := by rw [hn2', decide_eq_decide]; omega
  have w6 : n1' = decide (-y3 < 0) := by rw [hn1', decide_eq_decide]; omega
  have hplus := fun (P' : Program) (C' : Cx P' gl) => spanPlus_fs C' z1 z2 z3 z4 w7 w8 w5 w6 hs1 hs2 hr1' hv1' hr2' hv2' (by omega) (by omega) (by omega) (by omega) (by omega) (by omega) (by rw [Int.natAbs_neg]; omega) (by rw [Int.natAbs_neg]; omega)
  have hiv := fun (P' : Program) (C' : Cx P' gl) => spanIv_on_fn C' hr1' hv1' hr2' hv2' hm1 hm2 (by omega) (by omega) (by omega) (by omega) fit1 (fun h => n1 (hw1.2 h)) hr1 hu1 hg1 (hw2.1 n2)
  clear hall hyy hcl hs1 hs2 hm1 hm2 hr1' hr2' hv1' hv2' hw1 hw2 hd1 hd2 ok0 ok1 z9 z10 hr1 hu1 hg1 n1 n2
  obtain ⟨rfl, hG⟩ := C
  refine FX_ofC (own := fun A => []) (args := fun A => [.pv (.agg [B s0, .lst p0, I e0, B t0, .lst q0, I f0]), .pv (.agg [B s1, .lst p1, I e1, B t1, .lst q1, I f1])]) (R := fun A ow rr => ow = [.row 3 1 r] ∧ rr = .tup [.agg [.pv (B u), .own 0, .pv (I g), .pv (B false), .pv (.lst []), .pv (I 0)], .pv (B true)]) Tryz.hT Tryz.mix Tryz.func16 rfl rfl (Nat.le_of_ble_eq_true rfl) ?_
  generalize hP : Tryz.prog = P
  intro A hA
  have C : Tryz.Cx P gl := ⟨hP.symm, hG⟩
  have hI : intsL = A.ints := by subst hA; rfl
  all_goals try cbv
  all_goals repeat' (first | with_reducible exact True.intro | with_reducible refine And.intro ?_ ?_ | intro _)
  all_goals try cbv
  all_goals repeat' (first | with_reducible exact True.intro | with_reducible refine And.intro ?_ ?_ | intro _)
  all_goals first | ((first | (with_reducible first | refine q1 hA ?_ | refine q2 hA ?_ | refine q3 hA ?_ | refine q4 hA ?_ | refine q5 hA ?_ | refine q6 hA ?_ | refine q7 hA ?_ | refine q8 hA ?_ | refine q9 hA ?_ | refine q0 hA ?_ | refine tru_of ?_) | exfalso); subst hA; subst_vars; simp only [AR.std, natCast_eq, sA, sB, sC, sD, reduceCtorEq] at *; (try simp (disch := omega) only [AR.std, natCast_eq, sA, sB, sC, sD, reduceCtorEq] at *); first | done | rfl | omega | exact ints_ok _ | exact ints_all _ | (apply ints_part <;> first | omega | rfl)) | skip
  all_goals try (refine okA_of hA ?_; intro y hy; simp only [List.mem_cons, List.not_mem_nil, or_false] at hy; rcases hy with rfl | rfl <;> exact ⟨rfl, rfl⟩)
  refine callS hA rfl (hare P C) ?_; rintro _ rfl
  all_goals try cbv
  all_goals repeat' (first | with_reducible exact True.intro | with_reducible refine And.intro ?_ ?_ | intro _)
  all_goals try cbv
  all_goals repeat' (first | with_reducible exact True.intro | with_reducible refine And.intro ?_ ?_ | intro _)
  all_goals first | ((first | (with_reducible first | refine q1 hA ?_ | refine q2 hA ?_ | refine q3 hA ?_ | refine q4 hA ?_ | refine q5 hA ?_ | refine q6 hA ?_ | refine q7 hA ?_ | refine q8 hA ?_ | refine q9 hA ?_ | refine q0 hA ?_ | refine tru_of ?_) | exfalso); subst hA; subst_vars; simp only [AR.std, natCast_eq, sA, sB, sC, sD, reduceCtorEq] at *; (try simp (disch := omega) only [AR.std, natCast_eq, sA, sB, sC, sD, reduceCtorEq] at *); first | done | rfl | omega | exact ints_ok _ | exact ints_all _ | (apply ints_part <;> first | omega | rfl)) | skip
  refine callS hA rfl (span_fs C) ?_; rintro _ rfl
  all_goals try cbv
  all_goals repeat' (first | with_reducible exact True.intro | with_reducible refine And.intro ?_ ?_ | intro _)
  all_goals try cbv
  all_goals repeat' (first | with_reducible exact True.intro | with_reducible refine And.intro ?_ ?_ | intro _)
  all_goals first | ((first | (with_reducible first | refine q1 hA ?_ | refine q2 hA ?_ | refine q3 hA ?_ | refine q4 hA ?_ | refine q5 hA ?_ | refine q6 hA ?_ | refine q7 hA ?_ | refine q8 hA ?_ | refine q9 hA ?_ | refine q0 hA ?_ | refine tru_of ?_) | exfalso); subst hA; subst_vars; simp only [AR.std, natCast_eq, sA, sB, sC, sD, reduceCtorEq] at *; (try simp (disch := omega) only [AR.std, natCast_eq, sA, sB, sC, sD, reduceCtorEq] at *); first | done | rfl | omega | exact ints_ok _ | exact ints_all _ | (apply ints_part <;> first | omega | rfl)) | skip
  refine ⟨_, span_fs C, ?_⟩
  all_goals try cbv
  all_goals repeat' (first | with_reducible exact True.intro | with_reducible refine And.intro ?_ ?_ | intro _)
  all_goals try cbv
  all_goals repeat' (first | with_reducible exact True.intro | with_reducible refine And.intro ?_ ?_ | intro _)
  all_goals first | ((first | (with_reducible first | refine q1 hA ?_ | refine q2 hA ?_ | refine q3 hA ?_ | refine q4 hA ?_ | refine q5 hA ?_ | refine q6 hA ?_ | refine q7 hA ?_ | refine q8 hA ?_ | refine q9 hA ?_ | refine q0 hA ?_ | refine tru_of ?_) | exfalso); subst hA; subst_vars; simp only [AR.std, natCast_eq, sA, sB, sC, sD, reduceCtorEq] at *; (try simp (disch := omega) only [AR.std, natCast_eq, sA, sB, sC, sD, reduceCtorEq] at *); first | done | rfl | omega | exact ints_ok _ | exact ints_all _ | (apply ints_part <;> first | omega | rfl)) | skip
  refine ⟨_, hneg2 P C, ?_⟩
  all_goals try cbv
  all_goals repeat' (first | with_reducible exact True.intro | with_reducible refine And.intro ?_ ?_ | intro _)
  all_goals try cbv
  all_goals repeat' (first | with_reducible exact True.intro | with_reducible refine And.intro ?_ ?_ | intro _)
  all_goals first | ((first | (with_reducible first | refine q1 hA ?_ | refine q2 hA ?_ | refine q3 hA ?_ | refine q4 hA ?_ | refine q5 hA ?_ | refine q6 hA ?_ | refine q7 hA ?_ | refine q8 hA ?_ | refine q9 hA ?_ | refine q0 hA ?_ | refine tru_of ?_) | exfalso); subst hA; subst_vars; simp only [AR.std, natCast_eq, sA, sB, sC, sD, reduceCtorEq] at *; (try simp (disch := omega) only [AR.std, natCast_eq, sA, sB, sC, sD, reduceCtorEq] at *); first | done | rfl | omega | exact ints_ok _ | exact ints_all _ | (apply ints_part <;> first | omega | rfl)) | skip
  refine callS hA rfl (hneg1 P C) ?_; rintro _ rfl
  all_goals try cbv
  all_goals repeat' (first | with_reducible exact True.intro | with_reducible refine And.intro ?_ ?_ | intro _)
  all_goals try cbv
  all_goals repeat' (first | with_reducible exact True.intro | with_reducible refine And.intro ?_ ?_ | intro _)
  all_goals first | ((first | (with_reducible first | refine q1 hA ?_ | refine q2 hA ?_ | refine q3 hA ?_ | refine q4 hA ?_ | refine q5 hA ?_ | refine q6 hA ?_ | refine q7 hA ?_ | refine q8 hA ?_ | refine q9 hA ?_ | refine q0 hA ?_ | refine tru_of ?_) | exfalso); subst hA; subst_vars; simp only [AR.std, natCast_eq, sA, sB, sC, sD, reduceCtorEq] at *; (try simp (disch := omega) only [AR.std, natCast_eq, sA, sB, sC, sD, reduceCtorEq] at *); first | done | rfl | omega | exact ints_ok _ | exact ints_all _ | (apply ints_part <;> first | omega | rfl)) | skip
  refine callS hA rfl (hplus P C) ?_; rintro _ rfl
  all_goals try cbv
  all_goals repeat' (first | with_reducible exact True.intro | with_reducible refine And.intro ?_ ?_ | intro _)
  all_goals try cbv
  all_goals repeat' (first | with_reducible exact True.intro | with_reducible refine And.intro ?_ ?_ | intro _)
  all_goals first | ((first | (with_reducible first | refine q1 hA ?_ | refine q2 hA ?_ | refine q3 hA ?_ | refine q4 hA ?_ | refine q5 hA ?_ | refine q6 hA ?_ | refine q7 hA ?_ | refine q8 hA ?_ | refine q9 hA ?_ | refine q0 hA ?_ | refine tru_of ?_) | exfalso); subst hA; subst_vars; simp only [AR.std, natCast_eq, sA, sB, sC, sD, reduceCtorEq] at *; (try simp (disch := omega) only [AR.std, natCast_eq, sA, sB, sC, sD, reduceCtorEq] at *); first | done | rfl | omega | exact ints_ok _ | exact ints_all _ | (apply ints_part <;> first | omega | rfl)) | skip
  refine callN hA rfl (hiv P C) ?_; rintro _ _ ⟨rfl, rfl⟩; refine ⟨rfl, ?_⟩
  all_goals try cbv
  all_goals repeat' (first | with_reducible exact True.intro | with_reducible refine And.intro ?_ ?_ | intro _)
  all_goals try cbv
  all_goals repeat' (first | with_reducible exact True.intro | with_reducible refine And.intro ?_ ?_ | intro _)
  all_goals first | ((first | (with_reducible first | refine q1 hA ?_ | refine q2 hA ?_ | refine q3 hA ?_ | refine q4 hA ?_ | refine q5 hA ?_ | refine q6 hA ?_ | refine q7 hA ?_ | refine q8 hA ?_ | refine q9 hA ?_ | refine q0 hA ?_ | refine tru_of ?_) | exfalso); subst hA; subst_vars; simp only [AR.std, natCast_eq, sA, sB, sC, sD, reduceCtorEq] at *; (try simp (disch := omega) only [AR.std, natCast_eq, sA, sB, sC, sD, reduceCtorEq] at *); first | done | rfl | omega | exact ints_ok _ | exact ints_all _ | (apply ints_part <;> first | omega | rfl)) | skip
  subst hA
  exact ⟨[5], _, _, by decide, Nat.zero_le _, rfl, rfl, rfl, rfl, rfl, rfl⟩

theorem implIvSub_on_fn (C : Cx P gl) {l0 m0 l1 m1 : List Int} {p0 q0 p1 q1 : List PV} {s0 t0 s1 t1 : Bool} {e0 f0 e1 f1 : Int} {d1 d2 : Dyadic} {u : Bool} {r : List PV} {g : Int} (hp0 : p0 = intsL l0) (hq0 : q0 = intsL m0) (hp1 : p1 = intsL l1) (hq1 : q1 = intsL m1) (ok0 : ivOk s0 l0 e0 t0 m0 f0) (ok1 : ivOk s1 l1 e1 t1 m1 f1) (hd1 : d1 = dval s0 l0 e0 - dval t1 m1 f1) (hd2 : d2 = dval t0 m0 f0 - dval s1 l1 e1) (fit1 : fits d1) (n1 : d1 ≠ 0) (hr1 : r = intsL (dg (cZ d1).natAbs)) (hu1 : u = decide (cZ d1 < 0)) (hg1 : g = cE d1) (n2 : d2 = 0)
    (b0 : l0.length ≤ 2000000) (b1 : m0.length ≤ 2000000) (b2 : l1.length ≤ 2000000) (b3 : m1.length ≤ 2000000) :
    FN P gl 16 [.agg [B s0, .lst p0, I e0, B t0, .lst q0, I f0], .agg [B s1, .lst p1, I e1, B t1, .lst q1, I f1]] (fun own rr => own = [.row 3 1 r] ∧ rr = .tup [.agg [.pv (B u), .own 0, .pv (I g), .pv (B false), .pv (.lst []), .pv (I 0)], .pv (B true)]) :=
  FN_of (implIvSub_on_fx C hp0 hq0 hp1 hq1 ok0 ok1 hd1 hd2 fit1 n1 hr1 hu1 hg1 n2 b0 b1 b2 b3) (by rintro _ _ ⟨rfl, rfl⟩; exact ⟨by simpa using closed_ints hr1 _ _, rfl⟩)

set_option maxHeartbeats 2000000 in
set_option maxRecDepth 100000 in
theorem implIvSub_no_fx (C : Cx P gl) {l0 m0 l1 m1 : List Int} {p0 q0 p1 q1 : List PV} {s0 t0 s1 t1 : Bool} {e0 f0 e1 f1 : Int} {d1 d2 : Dyadic} {v : Bool} {x : List PV} {h : Int} (hp0 : p0 = intsL l0) (hq0 : q0 = intsL m0) (hp1 : p1 = intsL l1) (hq1 : q1 = intsL m1) (ok0 : ivOk s0 l0 e0 t0 m0 f0) (ok1 : ivOk s1 l1 e1 t1 m1 f1) (hd1 : d1 = dval s0 l0 e0 - dval t1 m1 f1) (hd2 : d2 = dval t0 m0 f0 - dval s1 l1 e1) (n1 : d1 = 0) (fit2 : fits d2) (n2 : d2 ≠ 0) (hr2 : x = intsL (dg (cZ d2).natAbs)) (hu2 : v = decide (cZ d2 < 0)) (hg2 : h = cE d2)
    (b0 : l0.length ≤ 2000000) (b1 : m0.length ≤ 2000000) (b2 : l1.length ≤ 2000000) (b3 : m1.length ≤ 2000000) :
    FX P gl 16 [] [.pv (.agg [B s0, .lst p0, I e0, B t0, .lst q0, I f0]), .pv (.agg [B s1, .lst p1, I e1, B t1, .lst q1, I f1])] (fun own rr => own = [.row 3 1 x] ∧ rr = .tup [.agg [.pv (B false), .pv (.lst []), .pv (I 0), .pv (B v), .own 0, .pv (I h)], .pv (B true)]) := by
  have hall : true = true ↔ allV [((s0, l0, e0), (t0, m0, f0)), ((s1, l1, e1), (t1, m1, f1))] := by
    refine ⟨fun _ => ?_, fun _ => rfl⟩
    intro y hy
    simp only [List.mem_cons, List.not_mem_nil, or_false] at hy
    rcases hy with rfl | rfl
    · exact ok0
    · exact ok1
  have hyy : ∀ y ∈ [((s0, l0, e0), (t0, m0, f0)), ((s1, l1, e1), (t1, m1, f1))], y.1.2.1.length ≤ 2000000 ∧ y.2.2.1.length ≤ 2000000 := by
    intro y hy
    simp only [List.mem_cons, List.not_mem_nil, or_false] at hy
    rcases hy with rfl | rfl
    · exact ⟨b0, b1⟩
    · exact ⟨b2, b3⟩
  have hcl : [PV.agg [B s0, .lst p0, I e0, B t0, .lst q0, I f0], .agg [B s1, .lst p1, I e1, B t1, .lst q1, I f1]] = cells6 [((s0, l0, e0), (t0, m0, f0)), ((s1, l1, e1), (t1, m1, f1))] := by rw [hp0, hq0, hp1, hq1]; rfl
  have hare := fun (P' : Program) (C' : Cx P' gl) => areIvs_fs C' hcl hall (by simp) hyy
  obtain ⟨y1, y2, y3, y4, z1, z2, z3, z4, z5, z6, z7, z8, z9, z10, z11, z12, z13, z14, z15, z16, z17, z18⟩ := sub_vals hp0 hq0 hp1 hq1 ok0 ok1
  obtain ⟨w1, g1, hs1⟩ := sumD_ex y1 e0 (-y4) f1
  obtain ⟨w2, g2, hs2⟩ := sumD_ex y2 f0 (-y3) e1
  have hm1 : d1 = mk w1 g1 := by rw [hd1, z9, sumD_mk hs1]
  have hm2 : d2 = mk w2 g2 := by rw [hd2, z10, sumD_mk hs2]
  obtain ⟨k1, k2⟩ := sumD_len (L := 100) (E := 3000) hs1 z15 (by rw [Int.natAbs_neg]; exact z18) z11 z14
  obtain ⟨k3, k4⟩ := sumD_len (L := 100) (E := 3000) hs2 z16 (by rw [Int.natAbs_neg]; exact z17) z12 z13
  have hw1 : d1 = 0 ↔ w1 = 0 := by rw [hm1, ← mk_zero g1, mk_inj]
  have hw2 : d2 = 0 ↔ w2 = 0 := by rw [hm2, ← mk_zero g2, mk_inj]
  obtain ⟨r1, hr1'⟩ : ∃ r, r = intsL (dg w1.natAbs) := ⟨_, rfl⟩
  obtain ⟨r2, hr2'⟩ : ∃ r, r = intsL (dg w2.natAbs) := ⟨_, rfl⟩
  obtain ⟨v1, hv1'⟩ : ∃ b, b = decide (w1 < 0) := ⟨_, rfl⟩
  obtain ⟨v2, hv2'⟩ : ∃ b, b = decide (w2 < 0) := ⟨_, rfl⟩
  obtain ⟨n1', hn1'⟩ : ∃ b, b = decide (0 < y3) := ⟨_, rfl⟩
  obtain ⟨n2', hn2'⟩ : ∃ b, b = decide (0 < y4) := ⟨_, rfl⟩
  have hneg1 := fun (P' : Program) (C' : Cx P' gl) => negated_fs C' (e := e1) z5 z6 hn1' (by omega)
  have hneg2 := fun (P' : Program) (C' : Cx P' gl) => negated_fs C' (e := f1) z7 z8 hn2' (by omega)
  have w7 : q1 = intsL (dg (-y4).natAbs) := by rw [Int.natAbs_neg]; exact z7
  have w5 : p1 = intsL (dg (-y3).natAbs) := by rw [Int.natAbs_neg]; exact z5
  have w8 : n2' = decide (-y4 < 0) := by rw [hn2', decide_eq_decide]; omega
  have w6 : n1' = decide (-y3 < 0) := by rw [hn1', decide_eq_decide]; omega
  have hplus := fun (P' : Program) (C' : Cx P' gl) => spanPlus_fs C' z1 z2 z3 z4 w7 w8 w5 w6 hs1 hs2 hr1' hv1' hr2' hv2' (by omega) (by omega) (by omega) (by omega) (by omega) (by omega) (by rw [Int.natAbs_neg]; omega) (by rw [Int.natAbs_neg]; omega)
  have hiv := fun (P' : Program) (C' : Cx P' gl) => spanIv_no_fn C' hr1' hv1' hr2' hv2' hm1 hm2 (by omega) (by omega) (by omega) (by omega) (hw1.1 n1) fit2 (fun h => n2 (hw2.2 h)) hr2 hu2 hg2
  clear hall hyy hcl hs1 hs2 hm1 hm2 hr1' hr2' hv1' hv2' hw1 hw2 hd1 hd2 ok0 ok1 z9 z10 n1 hr2 hu2 hg2 n2
  obtain ⟨rfl, hG⟩ := C
  refine FX_ofC (own := fun A => []) (args := fun A => [.pv (.agg [B s0, .lst p0, I e0, B t0, .lst q0, I f0]), .pv (.agg [B s1, .lst p1, I e1, B t1, .lst q1, I f1])]) (R := fun A ow rr => ow = [.row 3 1 x] ∧ rr = .tup [.agg [.pv (B false), .pv (.lst []), .pv (I 0), .pv (B v), .own 0, .pv (I h)], .pv (B true)]) Tryz.hT Tryz.mix Tryz.func16 rfl rfl (Nat.le_of_ble_eq_true rfl) ?_
  generalize hP : Tryz.prog = P
  intro A hA
  have C : Tryz.Cx P gl := ⟨hP.symm, hG⟩
  have hI : intsL = A.ints := by subst hA; rfl
  all_goals try cbv
  all_goals repeat' (first | with_reducible exact True.intro | with_reducible refine And.intro ?_ ?_ | intro _)
  all_goals try cbv
  all_goals repeat' (first | with_reducible exact True.intro | with_reducible refine And.intro ?_ ?_ | intro _)
  all_goals first | ((first | (with_reducible first | refine q1 hA ?_ | refine q2 hA ?_ | refine q3 hA ?_ | refine q4 hA ?_ | refine q5 hA ?_ | refine q6 hA ?_ | refine q7 hA ?_ | refine q8 hA ?_ | refine q9 hA ?_ | refine q0 hA ?_ | refine tru_of ?_) | exfalso); subst hA; subst_vars; simp only [AR.std, natCast_eq, sA, sB, sC, sD, reduceCtorEq] at *; (try simp (disch := omega) only [AR.std, natCast_eq, sA, sB, sC, sD, reduceCtorEq] at *); first | done | rfl | omega | exact ints_ok _ | exact ints_all _ | (apply ints_part <;> first | omega | rfl)) | skip
  all_goals try (refine okA_of hA ?_; intro y hy; simp only [List.mem_cons, List.not_mem_nil, or_false] at hy; rcases hy with rfl | rfl <;> exact ⟨rfl, rfl⟩)
  refine callS hA rfl (hare P C) ?_; rintro _ rfl
  all_goals try cbv
  all_goals repeat' (first | with_reducible exact True.intro | with_reducible refine And.intro ?_ ?_ | intro _)
  all_goals try cbv
  all_goals repeat' (first | with_reducible exact True.intro | with_reducible refine And.intro ?_ ?_ | intro _)
  all_goals first | ((first | (with_reducible first | refine q1 hA ?_ | refine q2 hA ?_ | refine q3 hA ?_ | refine q4 hA ?_ | refine q5 hA ?_ | refine q6 hA ?_ | refine q7 hA ?_ | refine q8 hA ?_ | refine q9 hA ?_ | refine q0 hA ?_ | refine tru_of ?_) | exfalso); subst hA; subst_vars; simp only [AR.std, natCast_eq, sA, sB, sC, sD, reduceCtorEq] at *; (try simp (disch := omega) only [AR.std, natCast_eq, sA, sB, sC, sD, reduceCtorEq] at *); first | done | rfl | omega | exact ints_ok _ | exact ints_all _ | (apply ints_part <;> first | omega | rfl)) | skip
  refine callS hA rfl (span_fs C) ?_; rintro _ rfl
  all_goals try cbv
  all_goals repeat' (first | with_reducible exact True.intro | with_reducible refine And.intro ?_ ?_ | intro _)
  all_goals try cbv
  all_goals repeat' (first | with_reducible exact True.intro | with_reducible refine And.intro ?_ ?_ | intro _)
  all_goals first | ((first | (with_reducible first | refine q1 hA ?_ | refine q2 hA ?_ | refine q3 hA ?_ | refine q4 hA ?_ | refine q5 hA ?_ | refine q6 hA ?_ | refine q7 hA ?_ | refine q8 hA ?_ | refine q9 hA ?_ | refine q0 hA ?_ | refine tru_of ?_) | exfalso); subst hA; subst_vars; simp only [AR.std, natCast_eq, sA, sB, sC, sD, reduceCtorEq] at *; (try simp (disch := omega) only [AR.std, natCast_eq, sA, sB, sC, sD, reduceCtorEq] at *); first | done | rfl | omega | exact ints_ok _ | exact ints_all _ | (apply ints_part <;> first | omega | rfl)) | skip
  refine ⟨_, span_fs C, ?_⟩
  all_goals try cbv
  all_goals repeat' (first | with_reducible exact True.intro | with_reducible refine And.intro ?_ ?_ | intro _)
  all_goals try cbv
  all_goals repeat' (first | with_reducible exact True.intro | with_reducible refine And.intro ?_ ?_ | intro _)
  all_goals first | ((first | (with_reducible first | refine q1 hA ?_ | refine q2 hA ?_ | refine q3 hA ?_ | refine q4 hA ?_ | refine q5 hA ?_ | refine q6 hA ?_ | refine q7 hA ?_ | refine q8 hA ?_ | refine q9 hA ?_ | refine q0 hA ?_ | refine tru_of ?_) | exfalso); subst hA; subst_vars; simp only [AR.std, natCast_eq, sA, sB, sC, sD, reduceCtorEq] at *; (try simp (disch := omega) only [AR.std, natCast_eq, sA, sB, sC, sD, reduceCtorEq] at *); first | done | rfl | omega | exact ints_ok _ | exact ints_all _ | (apply ints_part <;> first | omega | rfl)) | skip
  refine ⟨_, hneg2 P C, ?_⟩
  all_goals try cbv
  all_goals repeat' (first | with_reducible exact True.intro | with_reducible refine And.intro ?_ ?_ | intro _)
  all_goals try cbv
  all_goals repeat' (first | with_reducible exact True.intro | with_reducible refine And.intro ?_ ?_ | intro _)
  all_goals first | ((first | (with_reducible first | refine q1 hA ?_ | refine q2 hA ?_ | refine q3 hA ?_ | refine q4 hA ?_ | refine q5 hA ?_ | refine q6 hA ?_ | refine q7 hA ?_ | refine q8 hA ?_ | refine q9 hA ?_ | refine q0 hA ?_ | refine tru_of ?_) | exfalso); subst hA; subst_vars; simp only [AR.std, natCast_eq, sA, sB, sC, sD, reduceCtorEq] at *; (try simp (disch := omega) only [AR.std, natCast_eq, sA, sB, sC, sD, reduceCtorEq] at *); first | done | rfl | omega | exact ints_ok _ | exact ints_all _ | (apply ints_part <;> first | omega | rfl)) | skip
  refine callS hA rfl (hneg1 P C) ?_; rintro _ rfl
  all_goals try cbv
  all_goals repeat' (first | with_reducible exact True.intro | with_reducible refine And.intro ?_ ?_ | intro _)
  all_goals try cbv
  all_goals repeat' (first | with_reducible exact True.intro | with_reducible refine And.intro ?_ ?_ | intro _)
  all_goals first | ((first | (with_reducible first | refine q1 hA ?_ | refine q2 hA ?_ | refine q3 hA ?_ | refine q4 hA ?_ | refine q5 hA ?_ | refine q6 hA ?_ | refine q7 hA ?_ | refine q8 hA ?_ | refine q9 hA ?_ | refine q0 hA ?_ | refine tru_of ?_) | exfalso); subst hA; subst_vars; simp only [AR.std, natCast_eq, sA, sB, sC, sD, reduceCtorEq] at *; (try simp (disch := omega) only [AR.std, natCast_eq, sA, sB, sC, sD, reduceCtorEq] at *); first | done | rfl | omega | exact ints_ok _ | exact ints_all _ | (apply ints_part <;> first | omega | rfl)) | skip
  refine callS hA rfl (hplus P C) ?_; rintro _ rfl
  all_goals try cbv
  all_goals repeat' (first | with_reducible exact True.intro | with_reducible refine And.intro ?_ ?_ | intro _)
  all_goals try cbv
  all_goals repeat' (first | with_reducible exact True.intro | with_reducible refine And.intro ?_ ?_ | intro _)
  all_goals first | ((first | (with_reducible first | refine q1 hA ?_ | refine q2 hA ?_ | refine q3 hA ?_ | refine q4 hA ?_ | refine q5 hA ?_ | refine q6 hA ?_ | refine q7 hA ?_ | refine q8 hA ?_ | refine q9 hA ?_ | refine q0 hA ?_ | refine tru_of ?_) | exfalso); subst hA; subst_vars; simp only [AR.std, natCast_eq, sA, sB, sC, sD, reduceCtorEq] at *; (try simp (disch := omega) only [AR.std, natCast_eq, sA, sB, sC, sD, reduceCtorEq] at *); first | done | rfl | omega | exact ints_ok _ | exact ints_all _ | (apply ints_part <;> first | omega | rfl)) | skip
  refine callN hA rfl (hiv P C) ?_; rintro _ _ ⟨rfl, rfl⟩; refine ⟨rfl, ?_⟩
  all_goals try cbv
  all_goals repeat' (first | with_reducible exact True.intro | with_reducible refine And.intro ?_ ?_ | intro _)
  all_goals try cbv
  all_goals repeat' (first | with_reducible exact True.intro | with_reducible refine And.intro ?_ ?_ | intro _)
  all_goals first | ((first | (with_reducible first | refine q1 hA ?_ | refine q2 hA ?_ | refine q3 hA ?_ | refine q4 hA ?_ | refine q5 hA ?_ | refine q6 hA ?_ | refine q7 hA ?_ | refine q8 hA ?_ | refine q9 hA ?_ | refine q0 hA ?_ | refine tru_of ?_) | exfalso); subst hA; subst_vars; simp only [AR.std, natCast_eq, sA, sB, sC, sD, reduceCtorEq] at *; (try simp (disch := omega) only [AR.std, natCast_eq, sA, sB, sC, sD, reduceCtorEq] at *); first | done | rfl | omega | exact ints_ok _ | exact ints_all _ | (apply ints_part <;> first | omega | rfl)) | skip
  subst hA
  exact ⟨[5], _, _, by decide, Nat.zero_le _, rfl, rfl, rfl, rfl, rfl, rfl⟩

theorem implIvSub_no_fn (C : Cx P gl) {l0 m0 l1 m1 : List Int} {p0 q0 p1 q1 : List PV} {s0 t0 s1 t1 : Bool} {e0 f0 e1 f1 : Int} {d1 d2 : Dyadic} {v : Bool} {x : List PV} {h : Int} (hp0 : p0 = intsL l0) (hq0 : q0 = intsL m0) (hp1 : p1 = intsL l1) (hq1 : q1 = intsL m1) (ok0 : ivOk s0 l0 e0 t0 m0 f0) (ok1 : ivOk s1 l1 e1 t1 m1 f1) (hd1 : d1 = dval s0 l0 e0 - dval t1 m1 f1) (hd2 : d2 = dval t0 m0 f0 - dval s1 l1 e1) (n1 : d1 = 0) (fit2 : fits d2) (n2 : d2 ≠ 0) (hr2 : x = intsL (dg (cZ d2).natAbs)) (hu2 : v = decide (cZ d2 < 0)) (hg2 : h = cE d2)
    (b0 : l0.length ≤ 2000000) (b1 : m0.length ≤ 2000000) (b2 : l1.length ≤ 2000000) (b3 : m1.length ≤ 2000000) :
    FN P gl 16 [.agg [B s0, .lst p0, I e0, B t0, .lst q0, I f0], .agg [B s1, .lst p1, I e1, B t1, .lst q1, I f1]] (fun own rr => own = [.row 3 1 x] ∧ rr = .tup [.agg [.pv (B false), .pv (.lst []), .pv (I 0), .pv (B v), .own 0, .pv (I h)], .pv (B true)]) :=
  FN_of (implIvSub_no_fx C hp0 hq0 hp1 hq1 ok0 ok1 hd1 hd2 n1 fit2 n2 hr2 hu2 hg2 b0 b1 b2 b3) (by rintro _ _ ⟨rfl, rfl⟩; exact ⟨by simpa using closed_ints hr2 _ _, rfl⟩)

set_option maxHeartbeats 2000000 in
set_option maxRecDepth 100000 in
theorem implIvSub_nn_fs (C : Cx P gl) {l0 m0 l1 m1 : List Int} {p0 q0 p1 q1 : List PV} {s0 t0 s1 t1 : Bool} {e0 f0 e1 f1 : Int} {d1 d2 : Dyadic} (hp0 : p0 = intsL l0) (hq0 : q0 = intsL m0) (hp1 : p1 = intsL l1) (hq1 : q1 = intsL m1) (ok0 : ivOk s0 l0 e0 t0 m0 f0) (ok1 : ivOk s1 l1 e1 t1 m1 f1) (hd1 : d1 = dval s0 l0 e0 - dval t1 m1 f1) (hd2 : d2 = dval t0 m0 f0 - dval s1 l1 e1) (n1 : d1 = 0) (n2 : d2 = 0)
    (b0 : l0.length ≤ 2000000) (b1 : m0.length ≤ 2000000) (b2 : l1.length ≤ 2000000) (b3 : m1.length ≤ 2000000) :
    FS P gl 16 [.agg [B s0, .lst p0, I e0, B t0, .lst q0, I f0], .agg [B s1, .lst p1, I e1, B t1, .lst q1, I f1]] (· = .tup [.agg [B false, .lst [], I 0, B false, .lst [], I 0], B true]) := by
  have hall : true = true ↔ allV [((s0, l0, e0), (t0, m0, f0)), ((s1, l1, e1), (t1, m1, f1))] := by
    refine ⟨fun _ => ?_, fun _ => rfl⟩
    intro y hy
    simp only [List.mem_cons, List.not_mem_nil, or_false] at hy
    rcases hy with rfl | rfl
    · exact ok0
    · exact ok1
  have hyy : ∀ y ∈ [((s0, l0, e0), (t0, m0, f0)), ((s1, l1, e1), (t1, m1, f1))], y.1.2.1.length ≤ 2000000 ∧ y.2.2.1.length ≤ 2000000 := by
    intro y hy
    simp only [List.mem_cons, List.not_mem_nil, or_false] at hy
    rcases hy with rfl | rfl
    · exact ⟨b0, b1⟩
    · exact ⟨b2, b3⟩
  have hcl : [PV.agg [B s0, .lst p0, I e0, B t0, .lst q0, I f0], .agg [B s1, .lst p1, I e1, B t1, .lst q1, I f1]] = cells6 [((s0, l0, e0), (t0, m0, f0)), ((s1, l1, e1), (t1, m1, f1))] := by rw [hp0, hq0, hp1, hq1]; rfl
  have hare := fun (P' : Program) (C' : Cx P' gl) => areIvs_fs C' hcl hall (by simp) hyy
  obtain ⟨y1, y2, y3, y4, z1, z2, z3, z4, z5, z6, z7, z8, z9, z10, z11, z12, z13, z14, z15, z16, z17, z18⟩ := sub_vals hp0 hq0 hp1 hq1 ok0 ok1
  obtain ⟨w1, g1, hs1⟩ := sumD_ex y1 e0 (-y4) f1
  obtain ⟨w2, g2, hs2⟩ := sumD_ex y2 f0 (-y3) e1
  have hm1 : d1 = mk w1 g1 := by rw [hd1, z9, sumD_mk hs1]
  have hm2 : d2 = mk w2 g2 := by rw [hd2, z10, sumD_mk hs2]
  obtain ⟨k1, k2⟩ := sumD_len (L := 100) (E := 3000) hs1 z15 (by rw [Int.natAbs_neg]; exact z18) z11 z14
  obtain ⟨k3, k4⟩ := sumD_len (L := 100) (E := 3000) hs2 z16 (by rw [Int.natAbs_neg]; exact z17) z12 z13
  have hw1 : d1 = 0 ↔ w1 = 0 := by rw [hm1, ← mk_zero g1, mk_inj]
  have hw2 : d2 = 0 ↔ w2 = 0 := by rw [hm2, ← mk_zero g2, mk_inj]
  obtain ⟨r1, hr1'⟩ : ∃ r, r = intsL (dg w1.natAbs) := ⟨_, rfl⟩
  obtain ⟨r2, hr2'⟩ : ∃ r, r = intsL (dg w2.natAbs) := ⟨_, rfl⟩
  obtain ⟨v1, hv1'⟩ : ∃ b, b = decide (w1 < 0) := ⟨_, rfl⟩
  obtain ⟨v2, hv2'⟩ : ∃ b, b = decide (w2 < 0) := ⟨_, rfl⟩
  obtain ⟨n1', hn1'⟩ : ∃ b, b = decide (0 < y3) := ⟨_, rfl⟩
  obtain ⟨n2', hn2'⟩ : ∃ b, b = decide (0 < y4) := ⟨_, rfl⟩
  have hneg1 := fun (P' : Program) (C' : Cx P' gl) => negated_fs C' (e := e1) z5 z6 hn1' (by omega)
  have hneg2 := fun (P' : Program) (C' : Cx P' gl) => negated_fs C' (e := f1) z7 z8 hn2' (by omega)
  have w7 : q1 = intsL (dg (-y4).natAbs) := by rw [Int.natAbs_neg]; exact z7
  have w5 : p1 = intsL (dg (-y3).natAbs) := by rw [Int.natAbs_neg]; exact z5
  have w8 : n2' = decide (-y4 < 0) := by rw [hn2', decide_eq_decide]; omega
  have w6 : n1' = decide (-y3 < 0) := by rw [hn1', decide_eq_decide]; omega
  have hplus := fun (P' : Program) (C' : Cx P' gl) => spanPlus_fs C' z1 z2 z3 z4 w7 w8 w5 w6 hs1 hs2 hr1' hv1' hr2' hv2' (by omega) (by omega) (by omega) (by omega) (by omega) (by omega) (by rw [Int.natAbs_neg]; omega) (by rw [Int.natAbs_neg]; omega)
  have x1 : r1 = [] := by rw [hr1', hw1.1 n1, show Int.natAbs 0 = 0 from rfl, dg_zero]; rfl
  have x2 : r2 = [] := by rw [hr2', hw2.1 n2, show Int.natAbs 0 = 0 from rfl, dg_zero]; rfl
  rw [x1, x2] at hplus
  have hiv := fun (P' : Program) (C' : Cx P' gl) => @spanIv_nn_fs P' gl C' g1 g2 v1 v2
  clear hall hyy hcl hs1 hs2 hm1 hm2 hr1' hr2' hv1' hv2' hw1 hw2 hd1 hd2 ok0 ok1 z9 z10 n1 n2
  obtain ⟨rfl, hG⟩ := C
  refine FS_ofC (args := fun A => [.agg [B s0, .lst p0, I e0, B t0, .lst q0, I f0], .agg [B s1, .lst p1, I e1, B t1, .lst q1, I f1]]) (R := fun A rr => rr = .tup [.agg [B false, .lst [], I 0, B false, .lst [], I 0], B true]) Tryz.hT Tryz.mix Tryz.func16 rfl rfl (Nat.le_of_ble_eq_true rfl) ?_
  generalize hP : Tryz.prog = P
  intro A hA
  have C : Tryz.Cx P gl := ⟨hP.symm, hG⟩
  have hI : intsL = A.ints := by subst hA; rfl
  all_goals try cbv
  all_goals repeat' (first | with_reducible exact True.intro | with_reducible refine And.intro ?_ ?_ | intro _)
  all_goals try cbv
  all_goals repeat' (first | with_reducible exact True.intro | with_reducible refine And.intro ?_ ?_ | intro _)
  all_goals first | ((first | (with_reducible first | refine q1 hA ?_ | refine q2 hA ?_ | refine q3 hA ?_ | refine q4 hA ?_ | refine q5 hA ?_ | refine q6 hA ?_ | refine q7 hA ?_ | refine q8 hA ?_ | refine q9 hA ?_ | refine q0 hA ?_ | refine tru_of ?_) | exfalso); subst hA; subst_vars; simp only [AR.std, natCast_eq, sA, sB, sC, sD, reduceCtorEq] at *; (try simp (disch := omega) only [AR.std, natCast_eq, sA, sB, sC, sD, reduceCtorEq] at *); first | done | rfl | omega | exact ints_ok _ | exact ints_all _ | (apply ints_part <;> first | omega | rfl)) | skip
  all_goals try (refine okA_of hA ?_; intro y hy; simp only [List.mem_cons, List.not_mem_nil, or_false] at hy; rcases hy with rfl | rfl <;> exact ⟨rfl, rfl⟩)
  refine callS hA rfl (hare P C) ?_; rintro _ rfl
  all_goals try cbv
  all_goals repeat' (first | with_reducible exact True.intro | with_reducible refine And.intro ?_ ?_ | intro _)
  all_goals try cbv
  all_goals repeat' (first | with_reducible exact True.intro | with_reducible refine And.intro ?_ ?_ | intro _)
  all_goals first | ((first | (with_reducible first | refine q1 hA ?_ | refine q2 hA ?_ | refine q3 hA ?_ | refine q4 hA ?_ | refine q5 hA ?_ | refine q6 hA ?_ | refine q7 hA ?_ | refine q8 hA ?_ | refine q9 hA ?_ | refine q0 hA ?_ | refine tru_of ?_) | exfalso); subst hA; subst_vars; simp only [AR.std, natCast_eq, sA, sB, sC, sD, reduceCtorEq] at *; (try simp (disch := omega) only [AR.std, natCast_eq, sA, sB, sC, sD, reduceCtorEq] at *); first | done | rfl | omega | exact ints_ok _ | exact ints_all _ | (apply ints_part <;> first | omega | rfl)) | skip
  refine callS hA rfl (span_fs C) ?_; rintro _ rfl
  all_goals try cbv
  all_goals repeat' (first | with_reducible exact True.intro | with_reducible refine And.intro ?_ ?_ | intro _)
  all_goals try cbv
  all_goals repeat' (first | with_reducible exact True.intro | with_reducible refine And.intro ?_ ?_ | intro _)
  all_goals first | ((first | (with_reducible first | refine q1 hA ?_ | refine q2 hA ?_ | refine q3 hA ?_ | refine q4 hA ?_ | refine q5 hA ?_ | refine q6 hA ?_ | refine q7 hA ?_ | refine q8 hA ?_ | refine q9 hA ?_ | refine q0 hA ?_ | refine tru_of ?_) | exfalso); subst hA; subst_vars; simp only [AR.std, natCast_eq, sA, sB, sC, sD, reduceCtorEq] at *; (try simp (disch := omega) only [AR.std, natCast_eq, sA, sB, sC, sD, reduceCtorEq] at *); first | done | rfl | omega | exact ints_ok _ | exact ints_all _ | (apply ints_part <;> first | omega | rfl)) | skip
  refine ⟨_, span_fs C, ?_⟩
  all_goals try cbv
  all_goals repeat' (first | with_reducible exact True.intro | with_reducible refine And.intro ?_ ?_ | intro _)
  all_goals try cbv
  all_goals repeat' (first | with_reducible exact True.intro | with_reducible refine And.intro ?_ ?_ | intro _)
  all_goals first | ((first | (with_reducible first | refine q1 hA ?_ | refine q2 hA ?_ | refine q3 hA ?_ | refine q4 hA ?_ | refine q5 hA ?_ | refine q6 hA ?_ | refine q7 hA ?_ | refine q8 hA ?_ | refine q9 hA ?_ | refine q0 hA ?_ | refine tru_of ?_) | exfalso); subst hA; subst_vars; simp only [AR.std, natCast_eq, sA, sB, sC, sD, reduceCtorEq] at *; (try simp (disch := omega) only [AR.std, natCast_eq, sA, sB, sC, sD, reduceCtorEq] at *); first | done | rfl | omega | exact ints_ok _ | exact ints_all _ | (apply ints_part <;> first | omega | rfl)) | skip
  refine ⟨_, hneg2 P C, ?_⟩
  all_goals try cbv
  all_goals repeat' (first | with_reducible exact True.intro | with_reducible refine And.intro ?_ ?_ | intro _)
  all_goals try cbv
  all_goals repeat' (first | with_reducible exact True.intro | with_reducible refine And.intro ?_ ?_ | intro _)
  all_goals first | ((first | (with_reducible first | refine q1 hA ?_ | refine q2 hA ?_ | refine q3 hA ?_ | refine q4 hA ?_ | refine q5 hA ?_ | refine q6 hA ?_ | refine q7 hA ?_ | refine q8 hA ?_ | refine q9 hA ?_ | refine q0 hA ?_ | refine tru_of ?_) | exfalso); subst hA; subst_vars; simp only [AR.std, natCast_eq, sA, sB, sC, sD, reduceCtorEq] at *; (try simp (disch := omega) only [AR.std, natCast_eq, sA, sB, sC, sD, reduceCtorEq] at *); first | done | rfl | omega | exact ints_ok _ | exact ints_all _ | (apply ints_part <;> first | omega | rfl)) | skip
  refine callS hA rfl (hneg1 P C) ?_; rintro _ rfl
  all_goals try cbv
  all_goals repeat' (first | with_reducible exact True.intro | with_reducible refine And.intro ?_ ?_ | intro _)
  all_goals try cbv
  all_goals repeat' (first | with_reducible exact True.intro | with_reducible refine And.intro ?_ ?_ | intro _)
  all_goals first | ((first | (with_reducible first | refine q1 hA ?_ | refine q2 hA ?_ | refine q3 hA ?_ | refine q4 hA ?_ | refine q5 hA ?_ | refine q6 hA ?_ | refine q7 hA ?_ | refine q8 hA ?_ | refine q9 hA ?_ | refine q0 hA ?_ | refine tru_of ?_) | exfalso); subst hA; subst_vars; simp only [AR.std, natCast_eq, sA, sB, sC, sD, reduceCtorEq] at *; (try simp (disch := omega) only [AR.std, natCast_eq, sA, sB, sC, sD, reduceCtorEq] at *); first | done | rfl | omega | exact ints_ok _ | exact ints_all _ | (apply ints_part <;> first | omega | rfl)) | skip
  refine callS hA rfl (hplus P C) ?_; rintro _ rfl
  all_goals try cbv
  all_goals repeat' (first | with_reducible exact True.intro | with_reducible refine And.intro ?_ ?_ | intro _)
  all_goals try cbv
  all_goals repeat' (first | with_reducible exact True.intro | with_reducible refine And.intro ?_ ?_ | intro _)
  all_goals first | ((first | (with_reducible first | refine q1 hA ?_ | refine q2 hA ?_ | refine q3 hA ?_ | refine q4 hA ?_ | refine q5 hA ?_ | refine q6 hA ?_ | refine q7 hA ?_ | refine q8 hA ?_ | refine q9 hA ?_ | refine q0 hA ?_ | refine tru_of ?_) | exfalso); subst hA; subst_vars; simp only [AR.std, natCast_eq, sA, sB, sC, sD, reduceCtorEq] at *; (try simp (disch := omega) only [AR.std, natCast_eq, sA, sB, sC, sD, reduceCtorEq] at *); first | done | rfl | omega | exact ints_ok _ | exact ints_all _ | (apply ints_part <;> first | omega | rfl)) | skip
  refine callS hA rfl (hiv P C) ?_; rintro _ rfl
  all_goals try cbv
  all_goals repeat' (first | with_reducible exact True.intro | with_reducible refine And.intro ?_ ?_ | intro _)
  all_goals try cbv
  all_goals repeat' (first | with_reducible exact True.intro | with_reducible refine And.intro ?_ ?_ | intro _)
  all_goals first | ((first | (with_reducible first | refine q1 hA ?_ | refine q2 hA ?_ | refine q3 hA ?_ | refine q4 hA ?_ | refine q5 hA ?_ | refine q6 hA ?_ | refine q7 hA ?_ | refine q8 hA ?_ | refine q9 hA ?_ | refine q0 hA ?_ | refine tru_of ?_) | exfalso); subst hA; subst_vars; simp only [AR.std, natCast_eq, sA, sB, sC, sD, reduceCtorEq] at *; (try simp (disch := omega) only [AR.std, natCast_eq, sA, sB, sC, sD, reduceCtorEq] at *); first | done | rfl | omega | exact ints_ok _ | exact ints_all _ | (apply ints_part <;> first | omega | rfl)) | skip

set_option maxHeartbeats 2000000 in
set_option maxRecDepth 100000 in
theorem implIvSub_X_fs (C : Cx P gl) {l0 m0 l1 m1 : List Int} {p0 q0 p1 q1 : List PV} {s0 t0 s1 t1 : Bool} {e0 f0 e1 f1 : Int} {d1 d2 : Dyadic} (hp0 : p0 = intsL l0) (hq0 : q0 = intsL m0) (hp1 : p1 = intsL l1) (hq1 : q1 = intsL m1) (ok0 : ivOk s0 l0 e0 t0 m0 f0) (ok1 : ivOk s1 l1 e1 t1 m1 f1) (hd1 : d1 = dval s0 l0 e0 - dval t1 m1 f1) (hd2 : d2 = dval t0 m0 f0 - dval s1 l1 e1) (hX : ¬(fits d1 ∧ fits d2))
    (b0 : l0.length ≤ 2000000) (b1 : m0.length ≤ 2000000) (b2 : l1.length ≤ 2000000) (b3 : m1.length ≤ 2000000) :
    FS P gl 16 [.agg [B s0, .lst p0, I e0, B t0, .lst q0, I f0], .agg [B s1, .lst p1, I e1, B t1, .lst q1, I f1]] (· = .tup [.agg [B false, .lst [], I 0, B false, .lst [], I 0], B false]) := by
  have hall : true = true ↔ allV [((s0, l0, e0), (t0, m0, f0)), ((s1, l1, e1), (t1, m1, f1))] := by
    refine ⟨fun _ => ?_, fun _ => rfl⟩
    intro y hy
    simp only [List.mem_cons, List.not_mem_nil, or_false] at hy
    rcases hy with rfl | rfl
    · exact ok0
    · exact ok1
  have hyy : ∀ y ∈ [((s0, l0, e0), (t0, m0, f0)), ((s1, l1, e1), (t1, m1, f1))], y.1.2.1.length ≤ 2000000 ∧ y.2.2.1.length ≤ 2000000 := by
    intro y hy
    simp only [List.mem_cons, List.not_mem_nil, or_false] at hy
    rcases hy with rfl | rfl
    · exact ⟨b0, b1⟩
    · exact ⟨b2, b3⟩
  have hcl : [PV.agg [B s0, .lst p0, I e0, B t0, .lst q0, I f0], .agg [B s1, .lst p1, I e1, B t1, .lst q1, I f1]] = cells6 [((s0, l0, e0), (t0, m0, f0)), ((s1, l1, e1), (t1, m1, f1))] := by rw [hp0, hq0, hp1, hq1]; rfl
  have hare := fun (P' : Program) (C' : Cx P' gl) => areIvs_fs C' hcl hall (by simp) hyy
  obtain ⟨y1, y2, y3, y4, z1, z2, z3, z4, z5, z6, z7, z8, z9, z10, z11, z12, z13, z14, z15, z16, z17, z18⟩ := sub_vals hp0 hq0 hp1 hq1 ok0 ok1
  obtain ⟨w1, g1, hs1⟩ := sumD_ex y1 e0 (-y4) f1
  obtain ⟨w2, g2, hs2⟩ := sumD_ex y2 f0 (-y3) e1
  have hm1 : d1 = mk w1 g1 := by rw [hd1, z9, sumD_mk hs1]
  have hm2 : d2 = mk w2 g2 := by rw [hd2, z10, sumD_mk hs2]
  obtain ⟨k1, k2⟩ := sumD_len (L := 100) (E := 3000) hs1 z15 (by rw [Int.natAbs_neg]; exact z18) z11 z14
  obtain ⟨k3, k4⟩ := sumD_len (L := 100) (E := 3000) hs2 z16 (by rw [Int.natAbs_neg]; exact z17) z12 z13
  have hw1 : d1 = 0 ↔ w1 = 0 := by rw [hm1, ← mk_zero g1, mk_inj]
  have hw2 : d2 = 0 ↔ w2 = 0 := by rw [hm2, ← mk_zero g2, mk_inj]
  obtain ⟨r1, hr1'⟩ : ∃ r, r = intsL (dg w1.natAbs) := ⟨_, rfl⟩
  obtain ⟨r2, hr2'⟩ : ∃ r, r = intsL (dg w2.natAbs) := ⟨_, rfl⟩
  obtain ⟨v1, hv1'⟩ : ∃ b, b = decide (w1 < 0) := ⟨_, rfl⟩
  obtain ⟨v2, hv2'⟩ : ∃ b, b = decide (w2 < 0) := ⟨_, rfl⟩
  obtain ⟨n1', hn1'⟩ : ∃ b, b = decide (0 < y3) := ⟨_, rfl⟩
  obtain ⟨n2', hn2'⟩ : ∃ b, b = decide (0 < y4) := ⟨_, rfl⟩
  have hneg1 := fun (P' : Program) (C' : Cx P' gl) => negated_fs C' (e := e1) z5 z6 hn1' (by omega)
  have hneg2 := fun (P' : Program) (C' : Cx P' gl) => negated_fs C' (e := f1) z7 z8 hn2' (by omega)
  have w7 : q1 = intsL (dg (-y4).natAbs) := by rw [Int.natAbs_neg]; exact z7
  have w5 : p1 = intsL (dg (-y3).natAbs) := by rw [Int.natAbs_neg]; exact z5
  have w8 : n2' = decide (-y4 < 0) := by rw [hn2', decide_eq_decide]; omega
  have w6 : n1' = decide (-y3 < 0) := by rw [hn1', decide_eq_decide]; omega
  have hplus := fun (P' : Program) (C' : Cx P' gl) => spanPlus_fs C' z1 z2 z3 z4 w7 w8 w5 w6 hs1 hs2 hr1' hv1' hr2' hv2' (by omega) (by omega) (by omega) (by omega) (by omega) (by omega) (by rw [Int.natAbs_neg]; omega) (by rw [Int.natAbs_neg]; omega)
  have hiv := fun (P' : Program) (C' : Cx P' gl) => spanIv_X_fs C' hr1' hv1' hr2' hv2' hm1 hm2 (by omega) (by omega) (by omega) (by omega) hX
  clear hall hyy hcl hs1 hs2 hm1 hm2 hr1' hr2' hv1' hv2' hw1 hw2 hd1 hd2 ok0 ok1 z9 z10 hX
  obtain ⟨rfl, hG⟩ := C
  refine FS_ofC (args := fun A => [.agg [B s0, .lst p0, I e0, B t0, .lst q0, I f0], .agg [B s1, .lst p1, I e1, B t1, .lst q1, I f1]]) (R := fun A rr => rr = .tup [.agg [B false, .lst [], I 0, B false, .lst [], I 0], B false]) Tryz.hT Tryz.mix Tryz.func16 rfl rfl (Nat.le_of_ble_eq_true rfl) ?_
  generalize hP : Tryz.prog = P
  intro A hA
  have C : Tryz.Cx P gl := ⟨hP.symm, hG⟩
  have hI : intsL = A.ints := by subst hA; rfl
  all_goals try cbv
  all_goals repeat' (first | with_reducible exact True.intro | with_reducible refine And.intro ?_ ?_ | intro _)
  all_goals try cbv
  all_goals repeat' (first | with_reducible exact True.intro | with_reducible refine And.intro ?_ ?_ | intro _)
  all_goals first | ((first | (with_reducible first | refine q1 hA ?_ | refine q2 hA ?_ | refine q3 hA ?_ | refine q4 hA ?_ | refine q5 hA ?_ | refine q6 hA ?_ | refine q7 hA ?_ | refine q8 hA ?_ | refine q9 hA ?_ | refine q0 hA ?_ | refine tru_of ?_) | exfalso); subst hA; subst_vars; simp only [AR.std, natCast_eq, sA, sB, sC, sD, reduceCtorEq] at *; (try simp (disch := omega) only [AR.std, natCast_eq, sA, sB, sC, sD, reduceCtorEq] at *); first | done | rfl | omega | exact ints_ok _ | exact ints_all _ | (apply ints_part <;> first | omega | rfl)) | skip
  all_goals try (refine okA_of hA ?_; intro y hy; simp only [List.mem_cons, List.not_mem_nil, or_false] at hy; rcases hy with rfl | rfl <;> exact ⟨rfl, rfl⟩)
  refine callS hA rfl (hare P C) ?_; rintro _ rfl
  all_goals try cbv
  all_goals repeat' (first | with_reducible exact True.intro | with_reducible refine And.intro ?_ ?_ | intro _)
  all_goals try cbv
  all_goals repeat' (first | with_reducible exact True.intro | with_reducible refine And.intro ?_ ?_ | intro _)
  all_goals first | ((first | (with_reducible first | refine q1 hA ?_ | refine q2 hA ?_ | refine q3 hA ?_ | refine q4 hA ?_ | refine q5 hA ?_ | refine q6 hA ?_ | refine q7 hA ?_ | refine q8 hA ?_ | refine q9 hA ?_ | refine q0 hA ?_ | refine tru_of ?_) | exfalso); subst hA; subst_vars; simp only [AR.std, natCast_eq, sA, sB, sC, sD, reduceCtorEq] at *; (try simp (disch := omega) only [AR.std, natCast_eq, sA, sB, sC, sD, reduceCtorEq] at *); first | done | rfl | omega | exact ints_ok _ | exact ints_all _ | (apply ints_part <;> first | omega | rfl)) | skip
  refine callS hA rfl (span_fs C) ?_; rintro _ rfl
  all_goals try cbv
  all_goals repeat' (first | with_reducible exact True.intro | with_reducible refine And.intro ?_ ?_ | intro _)
  all_goals try cbv
  all_goals repeat' (first | with_reducible exact True.intro | with_reducible refine And.intro ?_ ?_ | intro _)
  all_goals first | ((first | (with_reducible first | refine q1 hA ?_ | refine q2 hA ?_ | refine q3 hA ?_ | refine q4 hA ?_ | refine q5 hA ?_ | refine q6 hA ?_ | refine q7 hA ?_ | refine q8 hA ?_ | refine q9 hA ?_ | refine q0 hA ?_ | refine tru_of ?_) | exfalso); subst hA; subst_vars; simp only [AR.std, natCast_eq, sA, sB, sC, sD, reduceCtorEq] at *; (try simp (disch := omega) only [AR.std, natCast_eq, sA, sB, sC, sD, reduceCtorEq] at *); first | done | rfl | omega | exact ints_ok _ | exact ints_all _ | (apply ints_part <;> first | omega | rfl)) | skip
  refine ⟨_, span_fs C, ?_⟩
  all_goals try cbv
  all_goals repeat' (first | with_reducible exact True.intro | with_reducible refine And.intro ?_ ?_ | intro _)
  all_goals try cbv
  all_goals repeat' (first | with_reducible exact True.intro | with_reducible refine And.intro ?_ ?_ | intro _)
  all_goals first | ((first | (with_reducible first | refine q1 hA ?_ | refine q2 hA ?_ | refine q3 hA ?_ | refine q4 hA ?_ | refine q5 hA ?_ | refine q6 hA ?_ | refine q7 hA ?_ | refine q8 hA ?_ | refine q9 hA ?_ | refine q0 hA ?_ | refine tru_of ?_) | exfalso); subst hA; subst_vars; simp only [AR.std, natCast_eq, sA, sB, sC, sD, reduceCtorEq] at *; (try simp (disch := omega) only [AR.std, natCast_eq, sA, sB, sC, sD, reduceCtorEq] at *); first | done | rfl | omega | exact ints_ok _ | exact ints_all _ | (apply ints_part <;> first | omega | rfl)) | skip
  refine ⟨_, hneg2 P C, ?_⟩
  all_goals try cbv
  all_goals repeat' (first | with_reducible exact True.intro | with_reducible refine And.intro ?_ ?_ | intro _)
  all_goals try cbv
  all_goals repeat' (first | with_reducible exact True.intro | with_reducible refine And.intro ?_ ?_ | intro _)
  all_goals first | ((first | (with_reducible first | refine q1 hA ?_ | refine q2 hA ?_ | refine q3 hA ?_ | refine q4 hA ?_ | refine q5 hA ?_ | refine q6 hA ?_ | refine q7 hA ?_ | refine q8 hA ?_ | refine q9 hA ?_ | refine q0 hA ?_ | refine tru_of ?_) | exfalso); subst hA; subst_vars; simp only [AR.std, natCast_eq, sA, sB, sC, sD, reduceCtorEq] at *; (try simp (disch := omega) only [AR.std, natCast_eq, sA, sB, sC, sD, reduceCtorEq] at *); first | done | rfl | omega | exact ints_ok _ | exact ints_all _ | (apply ints_part <;> first | omega | rfl)) | skip
  refine callS hA rfl (hneg1 P C) ?_; rintro _ rfl
  all_goals try cbv
  all_goals repeat' (first | with_reducible exact True.intro | with_reducible refine And.intro ?_ ?_ | intro _)
  all_goals try cbv
  all_goals repeat' (first | with_reducible exact True.intro | with_reducible refine And.intro ?_ ?_ | intro _)
  all_goals first | ((first | (with_reducible first | refine q1 hA ?_ | refine q2 hA ?_ | refine q3 hA ?_ | refine q4 hA ?_ | refine q5 hA ?_ | refine q6 hA ?_ | refine q7 hA ?_ | refine q8 hA ?_ | refine q9 hA ?_ | refine q0 hA ?_ | refine tru_of ?_) | exfalso); subst hA; subst_vars; simp only [AR.std, natCast_eq, sA, sB, sC, sD, reduceCtorEq] at *; (try simp (disch := omega) only [AR.std, natCast_eq, sA, sB, sC, sD, reduceCtorEq] at *); first | done | rfl | omega | exact ints_ok _ | exact ints_all _ | (apply ints_part <;> first | omega | rfl)) | skip
  refine callS hA rfl (hplus P C) ?_; rintro _ rfl
  all_goals try cbv
  all_goals repeat' (first | with_reducible exact True.intro | with_reducible refine And.intro ?_ ?_ | intro _)
  all_goals try cbv
  all_goals repeat' (first | with_reducible exact True.intro | with_reducible refine And.intro ?_ ?_ | intro _)
  all_goals first | ((first | (with_reducible first | refine q1 hA ?_ | refine q2 hA ?_ | refine q3 hA ?_ | refine q4 hA ?_ | refine q5 hA ?_ | refine q6 hA ?_ | refine q7 hA ?_ | refine q8 hA ?_ | refine q9 hA ?_ | refine q0 hA ?_ | refine tru_of ?_) | exfalso); subst hA; subst_vars; simp only [AR.std, natCast_eq, sA, sB, sC, sD, reduceCtorEq] at *; (try simp (disch := omega) only [AR.std, natCast_eq, sA, sB, sC, sD, reduceCtorEq] at *); first | done | rfl | omega | exact ints_ok _ | exact ints_all _ | (apply ints_part <;> first | omega | rfl)) | skip
  refine callS hA rfl (hiv P C) ?_; rintro _ rfl
  all_goals try cbv
  all_goals repeat' (first | with_reducible exact True.intro | with_reducible refine And.intro ?_ ?_ | intro _)
  all_goals try cbv
  all_goals repeat' (first | with_reducible exact True.intro | with_reducible refine And.intro ?_ ?_ | intro _)
  all_goals first | ((first | (with_reducible first | refine q1 hA ?_ | refine q2 hA ?_ | refine q3 hA ?_ | refine q4 hA ?_ | refine q5 hA ?_ | refine q6 hA ?_ | refine q7 hA ?_ | refine q8 hA ?_ | refine q9 hA ?_ | refine q0 hA ?_ | refine tru_of ?_) | exfalso); subst hA; subst_vars; simp only [AR.std, natCast_eq, sA, sB, sC, sD, reduceCtorEq] at *; (try simp (disch := omega) only [AR.std, natCast_eq, sA, sB, sC, sD, reduceCtorEq] at *); first | done | rfl | omega | exact ints_ok _ | exact ints_all _ | (apply ints_part <;> first | omega | rfl)) | skip

set_option maxHeartbeats 2000000 in
set_option maxRecDepth 100000 in
theorem implIvSub_N_fs (C : Cx P gl) {l0 m0 l1 m1 : List Int} {p0 q0 p1 q1 : List PV} {s0 t0 s1 t1 : Bool} {e0 f0 e1 f1 : Int} (hp0 : p0 = intsL l0) (hq0 : q0 = intsL m0) (hp1 : p1 = intsL l1) (hq1 : q1 = intsL m1) (hno : ¬(ivOk s0 l0 e0 t0 m0 f0 ∧ ivOk s1 l1 e1 t1 m1 f1))
    (b0 : l0.length ≤ 2000000) (b1 : m0.length ≤ 2000000) (b2 : l1.length ≤ 2000000) (b3 : m1.length ≤ 2000000) :
    FS P gl 16 [.agg [B s0, .lst p0, I e0, B t0, .lst q0, I f0], .agg [B s1, .lst p1, I e1, B t1, .lst q1, I f1]] (· = .tup [.agg [B false, .lst [], I 0, B false, .lst [], I 0], B false]) := by
  have hall : false = true ↔ allV [((s0, l0, e0), (t0, m0, f0)), ((s1, l1, e1), (t1, m1, f1))] := by
    constructor
    · intro h; cases h
    · intro h; exact (hno ⟨h ((s0, l0, e0), (t0, m0, f0)) (by simp), h ((s1, l1, e1), (t1, m1, f1)) (by simp)⟩).elim
  have hyy : ∀ y ∈ [((s0, l0, e0), (t0, m0, f0)), ((s1, l1, e1), (t1, m1, f1))], y.1.2.1.length ≤ 2000000 ∧ y.2.2.1.length ≤ 2000000 := by
    intro y hy
    simp only [List.mem_cons, List.not_mem_nil, or_false] at hy
    rcases hy with rfl | rfl
    · exact ⟨b0, b1⟩
    · exact ⟨b2, b3⟩
  have hcl : [PV.agg [B s0, .lst p0, I e0, B t0, .lst q0, I f0], .agg [B s1, .lst p1, I e1, B t1, .lst q1, I f1]] = cells6 [((s0, l0, e0), (t0, m0, f0)), ((s1, l1, e1), (t1, m1, f1))] := by rw [hp0, hq0, hp1, hq1]; rfl
  have hare := fun (P' : Program) (C' : Cx P' gl) => areIvs_fs C' hcl hall (by simp) hyy
  clear hall hyy hcl hno
  obtain ⟨rfl, hG⟩ := C
  refine FS_ofC (args := fun A => [.agg [B s0, .lst p0, I e0, B t0, .lst q0, I f0], .agg [B s1, .lst p1, I e1, B t1, .lst q1, I f1]]) (R := fun A rr => rr = .tup [.agg [B false, .lst [], I 0, B false, .lst [], I 0], B false]) Tryz.hT Tryz.mix Tryz.func16 rfl rfl (Nat.le_of_ble_eq_true rfl) ?_
  generalize hP : Tryz.prog = P
  intro A hA
  have C : Tryz.Cx P gl := ⟨hP.symm, hG⟩
  have hI : intsL = A.ints := by subst hA; rfl
  all_goals try cbv
  all_goals repeat' (first | with_reducible exact True.intro | with_reducible refine And.intro ?_ ?_ | intro _)
  all_goals try cbv
  all_goals repeat' (first | with_reducible exact True.intro | with_reducible refine And.intro ?_ ?_ | intro _)
  all_goals first | ((first | (with_reducible first | refine q1 hA ?_ | refine q2 hA ?_ | refine q3 hA ?_ | refine q4 hA ?_ | refine q5 hA ?_ | refine q6 hA ?_ | refine q7 hA ?_ | refine q8 hA ?_ | refine q9 hA ?_ | refine q0 hA ?_ | refine tru_of ?_) | exfalso); subst hA; subst_vars; simp only [AR.std, natCast_eq, sA, sB, sC, sD, reduceCtorEq] at *; (try simp (disch := omega) only [AR.std, natCast_eq, sA, sB, sC, sD, reduceCtorEq] at *); first | done | rfl | omega | exact ints_ok _ | exact ints_all _ | (apply ints_part <;> first | omega | rfl)) | skip
  all_goals try (refine okA_of hA ?_; intro y hy; simp only [List.mem_cons, List.not_mem_nil, or_false] at hy; rcases hy with rfl | rfl <;> exact ⟨rfl, rfl⟩)
  refine callS hA rfl (hare P C) ?_; rintro _ rfl
  all_goals try cbv
  all_goals repeat' (first | with_reducible exact True.intro | with_reducible refine And.intro ?_ ?_ | intro _)
  all_goals try cbv
  all_goals repeat' (first | with_reducible exact True.intro | with_reducible refine And.intro ?_ ?_ | intro _)
  all_goals first | ((first | (with_reducible first | refine q1 hA ?_ | refine q2 hA ?_ | refine q3 hA ?_ | refine q4 hA ?_ | refine q5 hA ?_ | refine q6 hA ?_ | refine q7 hA ?_ | refine q8 hA ?_ | refine q9 hA ?_ | refine q0 hA ?_ | refine tru_of ?_) | exfalso); subst hA; subst_vars; simp only [AR.std, natCast_eq, sA, sB, sC, sD, reduceCtorEq] at *; (try simp (disch := omega) only [AR.std, natCast_eq, sA, sB, sC, sD, reduceCtorEq] at *); first | done | rfl | omega | exact ints_ok _ | exact ints_all _ | (apply ints_part <;> first | omega | rfl)) | skip

end Tryz
end Go.Proofs
