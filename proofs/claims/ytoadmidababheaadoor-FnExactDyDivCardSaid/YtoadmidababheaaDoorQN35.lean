/- Contracts: DyDiv in the reference. -/
import Derived.Test.YtoadmidababheaaDoorQN9
import Derived.Test.YtoadmidababheaaDoorQN34
namespace Go.Proofs
open Go Go.Pe Go.Dg
namespace Tryd
set_option linter.unusedSimpArgs false
set_option linter.unusedVariables false
variable {P : Program} {gl : List (Nat × Obj)}

set_option maxRecDepth 100000 in
theorem l4mode_fs (C : Cx P gl) {n : Int} {b : Bool} (hb : b = (decide (0 ≤ n) && decide (n ≤ 4))) : FS P gl 42 [I n] (· = B b) := by
  obtain ⟨rfl, hG⟩ := C
  refine FS_ofT (args := fun A => [I n]) (R := fun A rr => rr = B b) Tryd.hT Tryd.mix Tryd.func42 rfl rfl (Nat.le_of_ble_eq_true rfl) ?_
  generalize hP : Tryd.prog = P
  intro A hA
  have C : Tryd.Cx P gl := ⟨hP.symm, hG⟩
  have hI : intsL = A.ints := by subst hA; rfl
  all_goals try cbv
  all_goals repeat' (first | with_reducible exact True.intro | with_reducible refine And.intro ?_ ?_ | intro _)
  all_goals try cbv
  all_goals repeat' (first | with_reducible exact True.intro | with_reducible refine And.intro ?_ ?_ | intro _)
  all_goals first | ((with_reducible first | refine q1 hA ?_ | refine q2 hA ?_ | refine q3 hA ?_ | refine q4 hA ?_ | refine q5 hA ?_ | refine q6 hA ?_ | refine q7 hA ?_ | refine q8 hA ?_ | refine q9 hA ?_ | refine q0 hA ?_ | refine tru_of ?_); subst hA; subst_vars; simp only [AR.std, natCast_eq, sA, sB, sC, sD, reduceCtorEq] at *; (try simp (disch := omega) only [AR.std, natCast_eq, sA, sB, sC, sD, reduceCtorEq] at *); first | done | rfl | omega | exact ints_ok _ | exact ints_all _ | (apply ints_part <;> first | omega | rfl)) | skip
  rw [hb]
  subst hA
  show PV.val (.bool (bif decide (0 ≤ n) then decide (n ≤ 4) else false)) = _
  cases decide (0 ≤ n) <;> rfl

set_option maxHeartbeats 1000000 in
set_option maxRecDepth 100000 in
theorem l4div_fs (C : Cx P gl) {d1 d2 d : Dyadic} {s1 s2 u : Bool} {e1 e2 g low m : Int} {p q r : List PV} (hs1 : s1 = decide (cZ d1 < 0)) (hp : p = intsL (dg (cZ d1).natAbs)) (he1 : e1 = cE d1)
    (hs2 : s2 = decide (cZ d2 < 0)) (hq : q = intsL (dg (cZ d2).natAbs)) (he2 : e2 = cE d2) (h2 : d2 ≠ 0) (f1 : fits d1) (f2 : fits d2) (hd : d = divD d1 d2 low m) (hu : u = decide (cZ d < 0)) (hr : r = intsL (dg (cZ d).natAbs)) (hg : g = cE d)
    (h0 : 0 ≤ m) (h1 : m ≤ 4) (hlow : low.natAbs ≤ 20000) :
    FS P gl 43 [.agg [B s1, .lst p, I e1], .agg [B s2, .lst q, I e2], I low, I m] (· = .agg [B u, .lst r, I g]) := by
  obtain ⟨dq, hdq⟩ : ∃ dq, dq = quotD d1 d2 low := ⟨_, rfl⟩
  have hb := quot_bounds f1 f2 hlow
  rw [← hdq] at hb
  obtain ⟨a1, a2, a3⟩ := id f1
  obtain ⟨b1, b2, b3⟩ := id f2
  obtain ⟨sq, hsq⟩ : ∃ s, s = decide (cZ dq < 0) := ⟨_, rfl⟩
  obtain ⟨pq, hpq⟩ : ∃ p, p = intsL (dg (cZ dq).natAbs) := ⟨_, rfl⟩
  obtain ⟨eq, heq⟩ : ∃ e, e = cE dq := ⟨_, rfl⟩
  obtain ⟨ex, hex⟩ : ∃ ex, ex = decide (dq = 0 ∨ low ≤ eq) := ⟨_, rfl⟩
  have hd' : d = roundD dq low m := by rw [hd, hdq, div_law low m h2]
  have hquot := fun (P' : Program) (C' : Cx P' gl) => l4quot_fs C' hs1 hp he1 hs2 hq he2 h2 hdq hsq hpq heq (by omega) (by omega) (by omega) (by omega) (by omega)
  have hround := fun (P' : Program) (C' : Cx P' gl) => l4round_fs C' hsq hpq heq hd' hu hr hg hex h0 h1 (by omega) (by omega) (by omega)
  clear hs1 hp he1 hs2 hq he2 h2 f1 f2 hd hu hr hg hdq hsq hpq heq hex hd' hb
  obtain ⟨rfl, hG⟩ := C
  refine FS_ofT (args := fun A => [.agg [B s1, .lst p, I e1], .agg [B s2, .lst q, I e2], I low, I m]) (R := fun A rr => rr = .agg [B u, .lst r, I g]) Tryd.hT Tryd.mix Tryd.func43 rfl rfl (Nat.le_of_ble_eq_true rfl) ?_
  generalize hP : Tryd.prog = P
  intro A hA
  have C : Tryd.Cx P gl := ⟨hP.symm, hG⟩
  have hI : intsL = A.ints := by subst hA; rfl
  all_goals try cbv
  all_goals repeat' (first | with_reducible exact True.intro | with_reducible refine And.intro ?_ ?_ | intro _)
  all_goals try cbv
  all_goals repeat' (first | with_reducible exact True.intro | with_reducible refine And.intro ?_ ?_ | intro _)
  all_goals first | ((with_reducible first | refine q1 hA ?_ | refine q2 hA ?_ | refine q3 hA ?_ | refine q4 hA ?_ | refine q5 hA ?_ | refine q6 hA ?_ | refine q7 hA ?_ | refine q8 hA ?_ | refine q9 hA ?_ | refine q0 hA ?_ | refine tru_of ?_); subst hA; subst_vars; simp only [AR.std, natCast_eq, sA, sB, sC, sD, reduceCtorEq] at *; (try simp (disch := omega) only [AR.std, natCast_eq, sA, sB, sC, sD, reduceCtorEq] at *); first | done | rfl | omega | exact ints_ok _ | exact ints_all _ | (apply ints_part <;> first | omega | rfl)) | skip
  refine callS hA rfl (hquot P C) ?_; rintro _ rfl
  all_goals try cbv
  all_goals repeat' (first | with_reducible exact True.intro | with_reducible refine And.intro ?_ ?_ | intro _)
  all_goals try cbv
  all_goals repeat' (first | with_reducible exact True.intro | with_reducible refine And.intro ?_ ?_ | intro _)
  all_goals first | ((with_reducible first | refine q1 hA ?_ | refine q2 hA ?_ | refine q3 hA ?_ | refine q4 hA ?_ | refine q5 hA ?_ | refine q6 hA ?_ | refine q7 hA ?_ | refine q8 hA ?_ | refine q9 hA ?_ | refine q0 hA ?_ | refine tru_of ?_); subst hA; subst_vars; simp only [AR.std, natCast_eq, sA, sB, sC, sD, reduceCtorEq] at *; (try simp (disch := omega) only [AR.std, natCast_eq, sA, sB, sC, sD, reduceCtorEq] at *); first | done | rfl | omega | exact ints_ok _ | exact ints_all _ | (apply ints_part <;> first | omega | rfl)) | skip
  refine callS hA rfl (hround P C) ?_; rintro _ rfl
  all_goals try cbv
  all_goals repeat' (first | with_reducible exact True.intro | with_reducible refine And.intro ?_ ?_ | intro _)
  all_goals try cbv
  all_goals repeat' (first | with_reducible exact True.intro | with_reducible refine And.intro ?_ ?_ | intro _)
  all_goals first | ((with_reducible first | refine q1 hA ?_ | refine q2 hA ?_ | refine q3 hA ?_ | refine q4 hA ?_ | refine q5 hA ?_ | refine q6 hA ?_ | refine q7 hA ?_ | refine q8 hA ?_ | refine q9 hA ?_ | refine q0 hA ?_ | refine tru_of ?_); subst hA; subst_vars; simp only [AR.std, natCast_eq, sA, sB, sC, sD, reduceCtorEq] at *; (try simp (disch := omega) only [AR.std, natCast_eq, sA, sB, sC, sD, reduceCtorEq] at *); first | done | rfl | omega | exact ints_ok _ | exact ints_all _ | (apply ints_part <;> first | omega | rfl)) | skip

set_option maxHeartbeats 1000000 in
set_option maxRecDepth 100000 in
theorem specDyDiv_fs (C : Cx P gl) {l0 l1 o : List Int} {p0 p1 r : List PV} {s0 s1 u w : Bool} {e0 e1 n2 n3 g : Int} {d : Dyadic} (hp0 : p0 = intsL l0) (hp1 : p1 = intsL l1) (hr : r = intsL o)
    (hd : d = divD (dval s0 l0 e0) (dval s1 l1 e1) n2 n3) (hw : w = true ↔ okDiv s0 l0 e0 s1 l1 e1 n2 n3 ∧ fits d) (ho1 : w = true → cellsD d u o g) (ho2 : w = false → u = false ∧ o = [] ∧ g = 0)
    (b0 : l0.length ≤ 2000000) (b1 : l1.length ≤ 2000000) :
    FS P gl 18 [.agg [B s0, .lst p0, I e0], .agg [B s1, .lst p1, I e1], I n2, I n3] (· = .tup [.agg [B u, .lst r, I g], B w]) := by
  obtain ⟨c0, hc0⟩ := bool_of (dyOk s0 l0 e0)
  obtain ⟨c1, hc1⟩ := bool_of (dyOk s1 l1 e1)
  obtain ⟨zb, hzb⟩ : ∃ zb, zb = decide (l1.length = 0) := ⟨_, rfl⟩
  obtain ⟨lb, hlb⟩ : ∃ lb, lb = decide (n2 < -3000) := ⟨_, rfl⟩
  obtain ⟨lc, hlc⟩ : ∃ lc, lc = decide (3000 < n2) := ⟨_, rfl⟩
  obtain ⟨mb, hmb⟩ : ∃ mb, mb = (decide (0 ≤ n3) && decide (n3 ≤ 4)) := ⟨_, rfl⟩
  have hok : okDiv s0 l0 e0 s1 l1 e1 n2 n3 ↔ (c0 = true ∧ c1 = true ∧ zb = false ∧ lb = false ∧ lc = false ∧ mb = true) := by
    obtain ⟨cc, hcc⟩ := bool_of (dyOk s0 l0 e0 ∧ dyOk s1 l1 e1)
    rw [okDiv_iff (low := n2) (mode := n3) hcc hzb rfl hmb, hcc, hc0, hc1, hlb, hlc, Bool.and_eq_true, decide_eq_true_eq, decide_eq_true_eq, decide_eq_false_iff_not, decide_eq_false_iff_not]
    constructor
    · rintro ⟨⟨a, b⟩, c, ⟨d1, d2⟩, e⟩; exact ⟨a, b, c, by omega, by omega, e⟩
    · rintro ⟨a, b, c, d1, d2, e⟩; exact ⟨⟨a, b⟩, c, ⟨by omega, by omega⟩, e⟩
  have hno : ¬ (c0 = true ∧ c1 = true ∧ zb = false ∧ lb = false ∧ lc = false ∧ mb = true) → w = false ∧ u = false ∧ r = [] ∧ g = 0 := by
    intro h
    have hw0 : w = false := by
      cases hww : w with
      | false => rfl
      | true => exact absurd (hok.1 (hw.1 hww).1) h
    obtain ⟨k1, k2, k3⟩ := ho2 hw0
    exact ⟨hw0, k1, by rw [hr, k2]; rfl, k3⟩
  obtain ⟨ud, hud⟩ : ∃ b, b = decide (cZ d < 0) := ⟨_, rfl⟩
  obtain ⟨rd, hrd⟩ : ∃ r, r = intsL (dg (cZ d).natAbs) := ⟨_, rfl⟩
  obtain ⟨gd, hgd⟩ : ∃ g, g = cE d := ⟨_, rfl⟩
  have hyes : (c0 = true ∧ c1 = true ∧ zb = false ∧ lb = false ∧ lc = false ∧ mb = true) →
      (∀ (P' : Program) (C' : Cx P' gl), FS P' gl 43 [.agg [B s0, .lst p0, I e0], .agg [B s1, .lst p1, I e1], I n2, I n3] (· = .agg [B ud, .lst rd, I gd])) ∧
      (∀ (P' : Program) (C' : Cx P' gl), FS P' gl 30 [.agg [B ud, .lst rd, I gd]] (· = .tup [.agg [B u, .lst r, I g], B w])) := by
    intro h
    have ok := hok.2 h
    obtain ⟨⟨x1, x2, x3⟩, y⟩ := dyOk_val ok.1
    obtain ⟨⟨x4, x5, x6⟩, y'⟩ := dyOk_val ok.2.1
    refine ⟨fun P' C' => l4div_fs C' x1 (by rw [hp0, ← x2]) x3 x4 (by rw [hp1, ← x5]) x6 ok.2.2.1 y y' hd hud hrd hgd ok.2.2.2.2.1 ok.2.2.2.2.2 (by have := ok.2.2.2.1; omega), fun P' C' => ?_⟩
    have hcd : cellsD d ud (dg (cZ d).natAbs) gd := ⟨hud, rfl, hgd⟩
    have hwf : w = true ↔ dyOk ud (dg (cZ d).natAbs) gd := by rw [hw, dyOk_cells hcd]; exact ⟨fun h => h.2, fun h => ⟨ok, h⟩⟩
    refine l4fits_fs C' hrd hwf ?_ (fun h => ?_) (fun h => ?_)
    · rw [hd]
      have z1 := zover_len (cZ (dval s0 l0 e0)) (cZ (dval s1 l1 e1)) (cE (dval s0 l0 e0) - cE (dval s1 l1 e1) - n2) n3
      have z2 := cZ_len (zover (cZ (dval s0 l0 e0)) (cZ (dval s1 l1 e1)) (cE (dval s0 l0 e0) - cE (dval s1 l1 e1) - n2) n3) n2
      obtain ⟨t1, t2, t3⟩ := y
      obtain ⟨t4, t5, t6⟩ := y'
      have t7 := ok.2.2.2.1
      unfold divD
      omega
    · obtain ⟨k1, k2, k3⟩ := ho1 h
      exact ⟨by rw [hr, k2, hrd], by rw [k1, hud], by rw [k3, hgd]⟩
    · obtain ⟨k1, k2, k3⟩ := ho2 h
      exact ⟨by rw [hr, k2]; rfl, k1, k3⟩
  have hcall0 := fun (P' : Program) (C' : Cx P' gl) => DyOk_fs C' hp0 hc0 b0
  have hcall1 := fun (P' : Program) (C' : Cx P' gl) => DyOk_fs C' hp1 hc1 b1
  have hmode := fun (P' : Program) (C' : Cx P' gl) => l4mode_fs C' hmb
  clear hd hw ho1 ho2 hc0 hc1 hmb hok hud hrd hgd hr hp0
  obtain ⟨rfl, hG⟩ := C
  refine FS_ofT (args := fun A => [.agg [B s0, .lst p0, I e0], .agg [B s1, .lst p1, I e1], I n2, I n3]) (R := fun A rr => rr = .tup [.agg [B u, .lst r, I g], B w]) Tryd.hT Tryd.mix Tryd.func18 rfl rfl (Nat.le_of_ble_eq_true rfl) ?_
  generalize hP : Tryd.prog = P
  intro A hA
  have C : Tryd.Cx P gl := ⟨hP.symm, hG⟩
  have hI : intsL = A.ints := by subst hA; rfl
  have f1 : A.eq (A.cast (A.len p1)) 0 = zb := by
    rw [hzb]; subst hA; subst hp1; rw [Bool.eq_iff_iff]; simp [AR.std, ints_len]
  have f2 : A.lt n2 (-3000) = lb := by rw [hlb]; subst hA; rfl
  have f3 : A.lt 3000 n2 = lc := by rw [hlc]; subst hA; rfl
  clear hzb hlb hlc
  all_goals try cbv
  all_goals repeat' (first | with_reducible exact True.intro | with_reducible refine And.intro ?_ ?_ | intro _)
  all_goals try cbv
  all_goals repeat' (first | with_reducible exact True.intro | with_reducible refine And.intro ?_ ?_ | intro _)
  all_goals first | ((with_reducible first | refine q1 hA ?_ | refine q2 hA ?_ | refine q3 hA ?_ | refine q4 hA ?_ | refine q5 hA ?_ | refine q6 hA ?_ | refine q7 hA ?_ | refine q8 hA ?_ | refine q9 hA ?_ | refine q0 hA ?_ | refine tru_of ?_); subst hA; subst_vars; simp only [AR.std, natCast_eq, sA, sB, sC, sD, reduceCtorEq] at *; (try simp (disch := omega) only [AR.std, natCast_eq, sA, sB, sC, sD, reduceCtorEq] at *); first | done | rfl | omega | exact ints_ok _ | exact ints_all _ | (apply ints_part <;> first | omega | rfl)) | skip
  refine callS hA rfl (hcall0 P C) ?_; rintro _ rfl
  all_goals try cbv
  all_goals repeat' (first | with_reducible exact True.intro | with_reducible refine And.intro ?_ ?_ | intro _)
  all_goals try cbv
  all_goals repeat' (first | with_reducible exact True.intro | with_reducible refine And.intro ?_ ?_ | intro _)
  all_goals first | ((with_reducible first | refine q1 hA ?_ | refine q2 hA ?_ | refine q3 hA ?_ | refine q4 hA ?_ | refine q5 hA ?_ | refine q6 hA ?_ | refine q7 hA ?_ | refine q8 hA ?_ | refine q9 hA ?_ | refine q0 hA ?_ | refine tru_of ?_); subst hA; subst_vars; simp only [AR.std, natCast_eq, sA, sB, sC, sD, reduceCtorEq] at *; (try simp (disch := omega) only [AR.std, natCast_eq, sA, sB, sC, sD, reduceCtorEq] at *); first | done | rfl | omega | exact ints_ok _ | exact ints_all _ | (apply ints_part <;> first | omega | rfl)) | skip
  refine ⟨_, fun _ => hcall1 P C, ?_⟩
  all_goals try cbv
  all_goals repeat' (first | with_reducible exact True.intro | with_reducible refine And.intro ?_ ?_ | intro _)
  all_goals try cbv
  all_goals repeat' (first | with_reducible exact True.intro | with_reducible refine And.intro ?_ ?_ | intro _)
  all_goals first | ((with_reducible first | refine q1 hA ?_ | refine q2 hA ?_ | refine q3 hA ?_ | refine q4 hA ?_ | refine q5 hA ?_ | refine q6 hA ?_ | refine q7 hA ?_ | refine q8 hA ?_ | refine q9 hA ?_ | refine q0 hA ?_ | refine tru_of ?_); subst hA; subst_vars; simp only [AR.std, natCast_eq, sA, sB, sC, sD, reduceCtorEq] at *; (try simp (disch := omega) only [AR.std, natCast_eq, sA, sB, sC, sD, reduceCtorEq] at *); first | done | rfl | omega | exact ints_ok _ | exact ints_all _ | (apply ints_part <;> first | omega | rfl)) | skip
  all_goals try simp only [f1, f2, f3]
  refine ⟨_, fun _ => hmode P C, ?_⟩
  all_goals try cbv
  all_goals repeat' (first | with_reducible exact True.intro | with_reducible refine And.intro ?_ ?_ | intro _)
  all_goals try cbv
  all_goals repeat' (first | with_reducible exact True.intro | with_reducible refine And.intro ?_ ?_ | intro _)
  all_goals first | ((with_reducible first | refine q1 hA ?_ | refine q2 hA ?_ | refine q3 hA ?_ | refine q4 hA ?_ | refine q5 hA ?_ | refine q6 hA ?_ | refine q7 hA ?_ | refine q8 hA ?_ | refine q9 hA ?_ | refine q0 hA ?_ | refine tru_of ?_); subst hA; subst_vars; simp only [AR.std, natCast_eq, sA, sB, sC, sD, reduceCtorEq] at *; (try simp (disch := omega) only [AR.std, natCast_eq, sA, sB, sC, sD, reduceCtorEq] at *); first | done | rfl | omega | exact ints_ok _ | exact ints_all _ | (apply ints_part <;> first | omega | rfl)) | skip
  · rename_i gg
    obtain ⟨rfl, rfl, rfl, rfl⟩ := hno (by
      rintro ⟨k1, k2, k3, k4, k5, k6⟩
      subst k1 k2 k3 k4 k5 k6 hA
      exact absurd gg (by decide))
    rfl
  · rename_i gg
    have hc : c0 = true ∧ c1 = true ∧ zb = false ∧ lb = false ∧ lc = false ∧ mb = true := by
      subst hA
      revert gg
      cases c0 <;> cases c1 <;> cases zb <;> cases lb <;> cases lc <;> cases mb <;> decide
    obtain ⟨hdiv, hfits⟩ := hyes hc
    refine callS hA rfl (hdiv P C) ?_; rintro _ rfl
    all_goals try cbv
    all_goals repeat' (first | with_reducible exact True.intro | with_reducible refine And.intro ?_ ?_ | intro _)
    all_goals try cbv
    all_goals repeat' (first | with_reducible exact True.intro | with_reducible refine And.intro ?_ ?_ | intro _)
    all_goals first | ((with_reducible first | refine q1 hA ?_ | refine q2 hA ?_ | refine q3 hA ?_ | refine q4 hA ?_ | refine q5 hA ?_ | refine q6 hA ?_ | refine q7 hA ?_ | refine q8 hA ?_ | refine q9 hA ?_ | refine q0 hA ?_ | refine tru_of ?_); subst hA; subst_vars; simp only [AR.std, natCast_eq, sA, sB, sC, sD, reduceCtorEq] at *; (try simp (disch := omega) only [AR.std, natCast_eq, sA, sB, sC, sD, reduceCtorEq] at *); first | done | rfl | omega | exact ints_ok _ | exact ints_all _ | (apply ints_part <;> first | omega | rfl)) | skip
    refine callS hA rfl (hfits P C) ?_; rintro _ rfl
    all_goals try cbv
    all_goals repeat' (first | with_reducible exact True.intro | with_reducible refine And.intro ?_ ?_ | intro _)
    all_goals try cbv
    all_goals repeat' (first | with_reducible exact True.intro | with_reducible refine And.intro ?_ ?_ | intro _)
    all_goals first | ((with_reducible first | refine q1 hA ?_ | refine q2 hA ?_ | refine q3 hA ?_ | refine q4 hA ?_ | refine q5 hA ?_ | refine q6 hA ?_ | refine q7 hA ?_ | refine q8 hA ?_ | refine q9 hA ?_ | refine q0 hA ?_ | refine tru_of ?_); subst hA; subst_vars; simp only [AR.std, natCast_eq, sA, sB, sC, sD, reduceCtorEq] at *; (try simp (disch := omega) only [AR.std, natCast_eq, sA, sB, sC, sD, reduceCtorEq] at *); first | done | rfl | omega | exact ints_ok _ | exact ints_all _ | (apply ints_part <;> first | omega | rfl)) | skip

end Tryd
end Go.Proofs
