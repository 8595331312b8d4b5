/- Contracts: DyDiv as the program has it. -/
import Derived.Test.YtoadmidababheaaDoorQD6
import Derived.Test.YtoadmidababheaaDoorQN21
import Derived.Test.YtoadmidababheaaDoorQN29
namespace Go.Proofs
open Go Go.Pe Go.Dg
namespace Tryd
set_option linter.unusedSimpArgs false
set_option linter.unusedVariables false
variable {P : Program} {gl : List (Nat × Obj)}

set_option maxRecDepth 100000 in
theorem isLow_fs (C : Cx P gl) {n : Int} {b : Bool} (hb : b = (decide (-3000 ≤ n) && decide (n ≤ 3000))) : FS P gl 48 [I n] (· = B b) := by
  obtain ⟨rfl, hG⟩ := C
  refine FS_ofT (args := fun A => [I n]) (R := fun A rr => rr = B b) Tryd.hT Tryd.mix Tryd.func48 rfl rfl (Nat.le_of_ble_eq_true rfl) ?_
  generalize hP : Tryd.prog = P
  intro A hA
  have C : Tryd.Cx P gl := ⟨hP.symm, hG⟩
  have hI : intsL = A.ints := by subst hA; rfl
  all_goals try cbv
  all_goals repeat' (first | with_reducible exact True.intro | with_reducible refine And.intro ?_ ?_ | intro _)
  all_goals try cbv
  all_goals repeat' (first | with_reducible exact True.intro | with_reducible refine And.intro ?_ ?_ | intro _)
  all_goals first | ((first | (with_reducible first | refine q1 hA ?_ | refine q2 hA ?_ | refine q3 hA ?_ | refine q4 hA ?_ | refine q5 hA ?_ | refine q6 hA ?_ | refine q7 hA ?_ | refine q8 hA ?_ | refine q9 hA ?_ | refine q0 hA ?_ | refine tru_of ?_) | exfalso); subst hA; subst_vars; simp only [AR.std, natCast_eq, sA, sB, sC, sD, reduceCtorEq] at *; (try simp (disch := omega) only [AR.std, natCast_eq, sA, sB, sC, sD, reduceCtorEq] at *); first | done | rfl | omega | exact ints_ok _ | exact ints_all _ | (apply ints_part <;> first | omega | rfl)) | skip
  refine callS hA rfl (within_fs C hb) ?_; rintro _ rfl
  all_goals try cbv
  all_goals repeat' (first | with_reducible exact True.intro | with_reducible refine And.intro ?_ ?_ | intro _)
  all_goals try cbv
  all_goals repeat' (first | with_reducible exact True.intro | with_reducible refine And.intro ?_ ?_ | intro _)
  all_goals first | ((first | (with_reducible first | refine q1 hA ?_ | refine q2 hA ?_ | refine q3 hA ?_ | refine q4 hA ?_ | refine q5 hA ?_ | refine q6 hA ?_ | refine q7 hA ?_ | refine q8 hA ?_ | refine q9 hA ?_ | refine q0 hA ?_ | refine tru_of ?_) | exfalso); subst hA; subst_vars; simp only [AR.std, natCast_eq, sA, sB, sC, sD, reduceCtorEq] at *; (try simp (disch := omega) only [AR.std, natCast_eq, sA, sB, sC, sD, reduceCtorEq] at *); first | done | rfl | omega | exact ints_ok _ | exact ints_all _ | (apply ints_part <;> first | omega | rfl)) | skip

set_option maxRecDepth 100000 in
theorem isMode_fs (C : Cx P gl) {n : Int} {b : Bool} (hb : b = (decide (0 ≤ n) && decide (n ≤ 4))) : FS P gl 49 [I n] (· = B b) := by
  obtain ⟨rfl, hG⟩ := C
  refine FS_ofT (args := fun A => [I n]) (R := fun A rr => rr = B b) Tryd.hT Tryd.mix Tryd.func49 rfl rfl (Nat.le_of_ble_eq_true rfl) ?_
  generalize hP : Tryd.prog = P
  intro A hA
  have C : Tryd.Cx P gl := ⟨hP.symm, hG⟩
  have hI : intsL = A.ints := by subst hA; rfl
  all_goals try cbv
  all_goals repeat' (first | with_reducible exact True.intro | with_reducible refine And.intro ?_ ?_ | intro _)
  all_goals try cbv
  all_goals repeat' (first | with_reducible exact True.intro | with_reducible refine And.intro ?_ ?_ | intro _)
  all_goals first | ((first | (with_reducible first | refine q1 hA ?_ | refine q2 hA ?_ | refine q3 hA ?_ | refine q4 hA ?_ | refine q5 hA ?_ | refine q6 hA ?_ | refine q7 hA ?_ | refine q8 hA ?_ | refine q9 hA ?_ | refine q0 hA ?_ | refine tru_of ?_) | exfalso); subst hA; subst_vars; simp only [AR.std, natCast_eq, sA, sB, sC, sD, reduceCtorEq] at *; (try simp (disch := omega) only [AR.std, natCast_eq, sA, sB, sC, sD, reduceCtorEq] at *); first | done | rfl | omega | exact ints_ok _ | exact ints_all _ | (apply ints_part <;> first | omega | rfl)) | skip
  refine callS hA rfl (within_fs C hb) ?_; rintro _ rfl
  all_goals try cbv
  all_goals repeat' (first | with_reducible exact True.intro | with_reducible refine And.intro ?_ ?_ | intro _)
  all_goals try cbv
  all_goals repeat' (first | with_reducible exact True.intro | with_reducible refine And.intro ?_ ?_ | intro _)
  all_goals first | ((first | (with_reducible first | refine q1 hA ?_ | refine q2 hA ?_ | refine q3 hA ?_ | refine q4 hA ?_ | refine q5 hA ?_ | refine q6 hA ?_ | refine q7 hA ?_ | refine q8 hA ?_ | refine q9 hA ?_ | refine q0 hA ?_ | refine tru_of ?_) | exfalso); subst hA; subst_vars; simp only [AR.std, natCast_eq, sA, sB, sC, sD, reduceCtorEq] at *; (try simp (disch := omega) only [AR.std, natCast_eq, sA, sB, sC, sD, reduceCtorEq] at *); first | done | rfl | omega | exact ints_ok _ | exact ints_all _ | (apply ints_part <;> first | omega | rfl)) | skip

set_option maxRecDepth 100000 in
theorem isZero_fs (C : Cx P gl) {l : List Int} {p : List PV} {s b : Bool} {e : Int} (hp : p = intsL l) (hb : b = decide (l.length = 0)) : FS P gl 47 [.agg [B s, .lst p, I e]] (· = B b) := by
  obtain ⟨rfl, hG⟩ := C
  refine FS_ofT (args := fun A => [.agg [B s, .lst p, I e]]) (R := fun A rr => rr = B b) Tryd.hT Tryd.mix Tryd.func47 rfl rfl (Nat.le_of_ble_eq_true rfl) ?_
  generalize hP : Tryd.prog = P
  intro A hA
  have C : Tryd.Cx P gl := ⟨hP.symm, hG⟩
  have hI : intsL = A.ints := by subst hA; rfl
  all_goals try cbv
  all_goals repeat' (first | with_reducible exact True.intro | with_reducible refine And.intro ?_ ?_ | intro _)
  all_goals try cbv
  all_goals repeat' (first | with_reducible exact True.intro | with_reducible refine And.intro ?_ ?_ | intro _)
  all_goals first | ((first | (with_reducible first | refine q1 hA ?_ | refine q2 hA ?_ | refine q3 hA ?_ | refine q4 hA ?_ | refine q5 hA ?_ | refine q6 hA ?_ | refine q7 hA ?_ | refine q8 hA ?_ | refine q9 hA ?_ | refine q0 hA ?_ | refine tru_of ?_) | exfalso); subst hA; subst_vars; simp only [AR.std, natCast_eq, sA, sB, sC, sD, reduceCtorEq] at *; (try simp (disch := omega) only [AR.std, natCast_eq, sA, sB, sC, sD, reduceCtorEq] at *); first | done | rfl | omega | exact ints_ok _ | exact ints_all _ | (apply ints_part <;> first | omega | rfl)) | skip
  have e1 : A.eq (A.cast (A.len p)) 0 = b := by
    rw [hb]; subst hA; subst hp; rw [Bool.eq_iff_iff]; simp [AR.std, ints_len]
  exact congrArg (fun x => PV.val (.bool x)) e1

set_option maxHeartbeats 2000000 in
set_option maxRecDepth 100000 in
theorem implDyDiv_o_fx (C : Cx P gl) {l0 l1 : List Int} {p0 p1 : List PV} {s0 s1 : Bool} {e0 e1 n2 n3 : Int} {d : Dyadic} {u : Bool} {r : List PV} {g : Int} (hp0 : p0 = intsL l0) (hp1 : p1 = intsL l1) (ok : okDiv s0 l0 e0 s1 l1 e1 n2 n3) (hd : d = divD (dval s0 l0 e0) (dval s1 l1 e1) n2 n3) (fit : fits d) (n0 : d ≠ 0) (hr : r = intsL (dg (cZ d).natAbs)) (hu : u = decide (cZ d < 0)) (hg : g = cE d)
    (b0 : l0.length ≤ 2000000) (b1 : l1.length ≤ 2000000) :
    FX P gl 20 [] [.pv (.agg [B s0, .lst p0, I e0]), .pv (.agg [B s1, .lst p1, I e1]), .pv (I n2), .pv (I n3)] (fun own rr => own = [.row 3 1 r] ∧ rr = .tup [.agg [.pv (B u), .own 0, .pv (I g)], .pv (B true)]) := by
  obtain ⟨⟨x1, x2, x3⟩, y1, y2, y3⟩ := dyOk_val ok.1
  obtain ⟨⟨x4, x5, x6⟩, y4, y5, y6⟩ := dyOk_val ok.2.1
  obtain ⟨z1, hz1⟩ : ∃ z, z = cZ (dval s0 l0 e0) := ⟨_, rfl⟩
  obtain ⟨z2, hz2⟩ : ∃ z, z = cZ (dval s1 l1 e1) := ⟨_, rfl⟩
  have hd' : d = mk (zover z1 z2 (e0 - e1 - n2) n3) n2 := by rw [hd, hz1, hz2, divD, ← x3, ← x6]
  rw [← hz1] at x1 x2 y1
  rw [← hz2] at x4 x5 y4
  have hn2 : z2 ≠ 0 := by rw [hz2]; intro h; exact ok.2.2.1 (cZ_eq_zero.1 h)
  obtain ⟨z, hz⟩ : ∃ z, z = zover z1 z2 (e0 - e1 - n2) n3 := ⟨_, rfl⟩
  have hzl := zover_len z1 z2 (e0 - e1 - n2) n3
  rw [← hz] at hzl hd'
  have hb2 := ok.2.2.2.1
  have hb3 := ok.2.2.2.2.1
  obtain ⟨pr, hpr⟩ : ∃ r, r = intsL (dg z.natAbs) := ⟨_, rfl⟩
  obtain ⟨sr, hsr⟩ : ∃ b, b = decide (z < 0) := ⟨_, rfl⟩
  have hp0' : p0 = intsL (dg z1.natAbs) := by rw [hp0, x2]
  have hp1' : p1 = intsL (dg z2.natAbs) := by rw [hp1, x5]
  have hover := fun (P' : Program) (C' : Cx P' gl) => over_fs C' (e1 := e0) (e2 := e1) hp0' hp1' x1 x4 hn2 hz hpr hsr rfl (by omega) (by omega) (by omega) (by omega) (by omega)
  obtain ⟨ex, hex⟩ : ∃ ex, ex = decide (z1.natAbs * 2 ^ (e0 - e1 - n2).toNat % (z2.natAbs * 2 ^ (-(e0 - e1 - n2)).toNat) = 0) := ⟨_, rfl⟩
  rw [← hex] at hover
  have hd0 : d = 0 ↔ z = 0 := by rw [hd', ← mk_zero n2, mk_inj]
  have hdy := fun (P' : Program) (C' : Cx P' gl) => dy_fn C' hpr hsr hd' hr hu hg (by omega) (by omega) (fun h => n0 (hd0.2 h)) fit
  obtain ⟨okb, hokb⟩ := bool_of (dyOk s0 l0 e0 ∧ dyOk s1 l1 e1)
  have hall : okb = true ↔ allY [(s0, l0, e0), (s1, l1, e1)] := by
    rw [hokb]
    constructor
    · intro h y hy
      simp only [List.mem_cons, List.not_mem_nil, or_false] at hy
      rcases hy with rfl | rfl
      · exact h.1
      · exact h.2
    · intro h
      exact ⟨h (s0, l0, e0) (by simp), h (s1, l1, e1) (by simp)⟩
  have hyy : ∀ y ∈ [(s0, l0, e0), (s1, l1, e1)], y.2.1.length ≤ 2000000 := by
    intro y hy
    simp only [List.mem_cons, List.not_mem_nil, or_false] at hy
    rcases hy with rfl | rfl
    · exact b0
    · exact b1
  have hcl : [PV.agg [B s0, .lst p0, I e0], .agg [B s1, .lst p1, I e1]] = cells3 [(s0, l0, e0), (s1, l1, e1)] := by rw [hp0, hp1]; rfl
  have hare := fun (P' : Program) (C' : Cx P' gl) => areDys_fs C' hcl hall (by simp) hyy
  obtain ⟨zb, hzb⟩ : ∃ zb, zb = decide (l1.length = 0) := ⟨_, rfl⟩
  have hzero := fun (P' : Program) (C' : Cx P' gl) => isZero_fs C' (s := s1) (e := e1) hp1 hzb
  obtain ⟨lb, hlb⟩ : ∃ lb, lb = (decide (-3000 ≤ n2) && decide (n2 ≤ 3000)) := ⟨_, rfl⟩
  have hlow := fun (P' : Program) (C' : Cx P' gl) => isLow_fs C' hlb
  obtain ⟨mb, hmb⟩ : ∃ mb, mb = (decide (0 ≤ n3) && decide (n3 ≤ 4)) := ⟨_, rfl⟩
  have hmode := fun (P' : Program) (C' : Cx P' gl) => isMode_fs C' hmb
  obtain ⟨rfl, rfl, rfl, rfl⟩ := (okDiv_iff hokb hzb hlb hmb).1 ok
  clear hall hyy hcl hokb hzb hlb hmb hb2 hb3 hex hd0 hzl hz hd' hd ok x1 x2 x3 x4 x5 x6 y1 y2 y3 y4 y5 y6 hz1 hz2 hn2 hpr hsr fit n0 hr hu hg
  obtain ⟨rfl, hG⟩ := C
  refine FX_ofC (own := fun A => []) (args := fun A => [.pv (.agg [B s0, .lst p0, I e0]), .pv (.agg [B s1, .lst p1, I e1]), .pv (I n2), .pv (I n3)]) (R := fun A ow rr => ow = [.row 3 1 r] ∧ rr = .tup [.agg [.pv (B u), .own 0, .pv (I g)], .pv (B true)]) Tryd.hT Tryd.mix Tryd.func20 rfl rfl (Nat.le_of_ble_eq_true rfl) ?_
  generalize hP : Tryd.prog = P
  intro A hA
  have C : Tryd.Cx P gl := ⟨hP.symm, hG⟩
  have hI : intsL = A.ints := by subst hA; rfl
  have q1 : A.bnot true = false := by subst hA; rfl
  have q2 : A.bnot false = true := by subst hA; rfl
  have q3 : ∀ x, A.pick false true x = x := fun x => by subst hA; cases x <;> rfl
  have q4 : ∀ x, A.pick true true x = true := fun x => by subst hA; cases x <;> rfl
  all_goals try cbv
  all_goals repeat' (first | with_reducible exact True.intro | with_reducible refine And.intro ?_ ?_ | intro _)
  all_goals try cbv
  all_goals repeat' (first | with_reducible exact True.intro | with_reducible refine And.intro ?_ ?_ | intro _)
  all_goals first | ((first | (with_reducible first | refine q1 hA ?_ | refine q2 hA ?_ | refine q3 hA ?_ | refine q4 hA ?_ | refine q5 hA ?_ | refine q6 hA ?_ | refine q7 hA ?_ | refine q8 hA ?_ | refine q9 hA ?_ | refine q0 hA ?_ | refine tru_of ?_) | exfalso); subst hA; subst_vars; simp only [AR.std, natCast_eq, sA, sB, sC, sD, reduceCtorEq] at *; (try simp (disch := omega) only [AR.std, natCast_eq, sA, sB, sC, sD, reduceCtorEq] at *); first | done | rfl | omega | exact ints_ok _ | exact ints_all _ | (apply ints_part <;> first | omega | rfl)) | skip
  all_goals try (refine okA_of hA ?_; intro y hy; simp only [List.mem_cons, List.not_mem_nil, or_false] at hy; rcases hy with rfl | rfl <;> exact ⟨rfl, rfl⟩)
  refine callS hA rfl (hare P C) ?_; rintro _ rfl
  all_goals try cbv
  all_goals repeat' (first | with_reducible exact True.intro | with_reducible refine And.intro ?_ ?_ | intro _)
  all_goals try cbv
  all_goals repeat' (first | with_reducible exact True.intro | with_reducible refine And.intro ?_ ?_ | intro _)
  all_goals first | ((first | (with_reducible first | refine q1 hA ?_ | refine q2 hA ?_ | refine q3 hA ?_ | refine q4 hA ?_ | refine q5 hA ?_ | refine q6 hA ?_ | refine q7 hA ?_ | refine q8 hA ?_ | refine q9 hA ?_ | refine q0 hA ?_ | refine tru_of ?_) | exfalso); subst hA; subst_vars; simp only [AR.std, natCast_eq, sA, sB, sC, sD, reduceCtorEq] at *; (try simp (disch := omega) only [AR.std, natCast_eq, sA, sB, sC, sD, reduceCtorEq] at *); first | done | rfl | omega | exact ints_ok _ | exact ints_all _ | (apply ints_part <;> first | omega | rfl)) | skip
  all_goals try simp only [q1, q2, q3, q4]
  refine ⟨_, fun _ => dyExact_fs C, ?_⟩
  all_goals try cbv
  all_goals repeat' (first | with_reducible exact True.intro | with_reducible refine And.intro ?_ ?_ | intro _)
  all_goals try cbv
  all_goals repeat' (first | with_reducible exact True.intro | with_reducible refine And.intro ?_ ?_ | intro _)
  all_goals first | ((first | (with_reducible first | refine q1 hA ?_ | refine q2 hA ?_ | refine q3 hA ?_ | refine q4 hA ?_ | refine q5 hA ?_ | refine q6 hA ?_ | refine q7 hA ?_ | refine q8 hA ?_ | refine q9 hA ?_ | refine q0 hA ?_ | refine tru_of ?_) | exfalso); subst hA; subst_vars; simp only [AR.std, natCast_eq, sA, sB, sC, sD, reduceCtorEq] at *; (try simp (disch := omega) only [AR.std, natCast_eq, sA, sB, sC, sD, reduceCtorEq] at *); first | done | rfl | omega | exact ints_ok _ | exact ints_all _ | (apply ints_part <;> first | omega | rfl)) | skip
  all_goals try simp only [q1, q2, q3, q4]
  refine ⟨_, fun _ => hzero P C, ?_⟩
  all_goals try cbv
  all_goals repeat' (first | with_reducible exact True.intro | with_reducible refine And.intro ?_ ?_ | intro _)
  all_goals try cbv
  all_goals repeat' (first | with_reducible exact True.intro | with_reducible refine And.intro ?_ ?_ | intro _)
  all_goals first | ((first | (with_reducible first | refine q1 hA ?_ | refine q2 hA ?_ | refine q3 hA ?_ | refine q4 hA ?_ | refine q5 hA ?_ | refine q6 hA ?_ | refine q7 hA ?_ | refine q8 hA ?_ | refine q9 hA ?_ | refine q0 hA ?_ | refine tru_of ?_) | exfalso); subst hA; subst_vars; simp only [AR.std, natCast_eq, sA, sB, sC, sD, reduceCtorEq] at *; (try simp (disch := omega) only [AR.std, natCast_eq, sA, sB, sC, sD, reduceCtorEq] at *); first | done | rfl | omega | exact ints_ok _ | exact ints_all _ | (apply ints_part <;> first | omega | rfl)) | skip
  all_goals try simp only [q1, q2, q3, q4]
  refine ⟨_, fun _ => hlow P C, ?_⟩
  all_goals try cbv
  all_goals repeat' (first | with_reducible exact True.intro | with_reducible refine And.intro ?_ ?_ | intro _)
  all_goals try cbv
  all_goals repeat' (first | with_reducible exact True.intro | with_reducible refine And.intro ?_ ?_ | intro _)
  all_goals first | ((first | (with_reducible first | refine q1 hA ?_ | refine q2 hA ?_ | refine q3 hA ?_ | refine q4 hA ?_ | refine q5 hA ?_ | refine q6 hA ?_ | refine q7 hA ?_ | refine q8 hA ?_ | refine q9 hA ?_ | refine q0 hA ?_ | refine tru_of ?_) | exfalso); subst hA; subst_vars; simp only [AR.std, natCast_eq, sA, sB, sC, sD, reduceCtorEq] at *; (try simp (disch := omega) only [AR.std, natCast_eq, sA, sB, sC, sD, reduceCtorEq] at *); first | done | rfl | omega | exact ints_ok _ | exact ints_all _ | (apply ints_part <;> first | omega | rfl)) | skip
  all_goals try simp only [q1, q2, q3, q4]
  refine ⟨_, fun _ => hmode P C, ?_⟩
  all_goals try cbv
  all_goals repeat' (first | with_reducible exact True.intro | with_reducible refine And.intro ?_ ?_ | intro _)
  all_goals try cbv
  all_goals repeat' (first | with_reducible exact True.intro | with_reducible refine And.intro ?_ ?_ | intro _)
  all_goals first | ((first | (with_reducible first | refine q1 hA ?_ | refine q2 hA ?_ | refine q3 hA ?_ | refine q4 hA ?_ | refine q5 hA ?_ | refine q6 hA ?_ | refine q7 hA ?_ | refine q8 hA ?_ | refine q9 hA ?_ | refine q0 hA ?_ | refine tru_of ?_) | exfalso); subst hA; subst_vars; simp only [AR.std, natCast_eq, sA, sB, sC, sD, reduceCtorEq] at *; (try simp (disch := omega) only [AR.std, natCast_eq, sA, sB, sC, sD, reduceCtorEq] at *); first | done | rfl | omega | exact ints_ok _ | exact ints_all _ | (apply ints_part <;> first | omega | rfl)) | skip
  all_goals try simp only [q1, q2, q3, q4]
  refine ⟨_, dyExact_fs C, ?_⟩
  all_goals try cbv
  all_goals repeat' (first | with_reducible exact True.intro | with_reducible refine And.intro ?_ ?_ | intro _)
  all_goals try cbv
  all_goals repeat' (first | with_reducible exact True.intro | with_reducible refine And.intro ?_ ?_ | intro _)
  all_goals first | ((first | (with_reducible first | refine q1 hA ?_ | refine q2 hA ?_ | refine q3 hA ?_ | refine q4 hA ?_ | refine q5 hA ?_ | refine q6 hA ?_ | refine q7 hA ?_ | refine q8 hA ?_ | refine q9 hA ?_ | refine q0 hA ?_ | refine tru_of ?_) | exfalso); subst hA; subst_vars; simp only [AR.std, natCast_eq, sA, sB, sC, sD, reduceCtorEq] at *; (try simp (disch := omega) only [AR.std, natCast_eq, sA, sB, sC, sD, reduceCtorEq] at *); first | done | rfl | omega | exact ints_ok _ | exact ints_all _ | (apply ints_part <;> first | omega | rfl)) | skip
  refine ⟨_, dyExact_fs C, ?_⟩
  all_goals try cbv
  all_goals repeat' (first | with_reducible exact True.intro | with_reducible refine And.intro ?_ ?_ | intro _)
  all_goals try cbv
  all_goals repeat' (first | with_reducible exact True.intro | with_reducible refine And.intro ?_ ?_ | intro _)
  all_goals first | ((first | (with_reducible first | refine q1 hA ?_ | refine q2 hA ?_ | refine q3 hA ?_ | refine q4 hA ?_ | refine q5 hA ?_ | refine q6 hA ?_ | refine q7 hA ?_ | refine q8 hA ?_ | refine q9 hA ?_ | refine q0 hA ?_ | refine tru_of ?_) | exfalso); subst hA; subst_vars; simp only [AR.std, natCast_eq, sA, sB, sC, sD, reduceCtorEq] at *; (try simp (disch := omega) only [AR.std, natCast_eq, sA, sB, sC, sD, reduceCtorEq] at *); first | done | rfl | omega | exact ints_ok _ | exact ints_all _ | (apply ints_part <;> first | omega | rfl)) | skip
  refine ⟨_, hover P C, ?_⟩
  all_goals try cbv
  all_goals repeat' (first | with_reducible exact True.intro | with_reducible refine And.intro ?_ ?_ | intro _)
  all_goals try cbv
  all_goals repeat' (first | with_reducible exact True.intro | with_reducible refine And.intro ?_ ?_ | intro _)
  all_goals first | ((first | (with_reducible first | refine q1 hA ?_ | refine q2 hA ?_ | refine q3 hA ?_ | refine q4 hA ?_ | refine q5 hA ?_ | refine q6 hA ?_ | refine q7 hA ?_ | refine q8 hA ?_ | refine q9 hA ?_ | refine q0 hA ?_ | refine tru_of ?_) | exfalso); subst hA; subst_vars; simp only [AR.std, natCast_eq, sA, sB, sC, sD, reduceCtorEq] at *; (try simp (disch := omega) only [AR.std, natCast_eq, sA, sB, sC, sD, reduceCtorEq] at *); first | done | rfl | omega | exact ints_ok _ | exact ints_all _ | (apply ints_part <;> first | omega | rfl)) | skip
  refine callN hA rfl (hdy P C) ?_; rintro _ _ ⟨rfl, rfl⟩; refine ⟨rfl, ?_⟩
  all_goals try cbv
  all_goals repeat' (first | with_reducible exact True.intro | with_reducible refine And.intro ?_ ?_ | intro _)
  all_goals try cbv
  all_goals repeat' (first | with_reducible exact True.intro | with_reducible refine And.intro ?_ ?_ | intro _)
  all_goals first | ((first | (with_reducible first | refine q1 hA ?_ | refine q2 hA ?_ | refine q3 hA ?_ | refine q4 hA ?_ | refine q5 hA ?_ | refine q6 hA ?_ | refine q7 hA ?_ | refine q8 hA ?_ | refine q9 hA ?_ | refine q0 hA ?_ | refine tru_of ?_) | exfalso); subst hA; subst_vars; simp only [AR.std, natCast_eq, sA, sB, sC, sD, reduceCtorEq] at *; (try simp (disch := omega) only [AR.std, natCast_eq, sA, sB, sC, sD, reduceCtorEq] at *); first | done | rfl | omega | exact ints_ok _ | exact ints_all _ | (apply ints_part <;> first | omega | rfl)) | skip
  subst hA
  exact ⟨[5], _, _, by decide, Nat.zero_le _, rfl, rfl, rfl, rfl, rfl, rfl⟩

set_option maxHeartbeats 2000000 in
set_option maxRecDepth 100000 in
theorem implDyDiv_n_fs (C : Cx P gl) {l0 l1 : List Int} {p0 p1 : List PV} {s0 s1 : Bool} {e0 e1 n2 n3 : Int} {d : Dyadic} (hp0 : p0 = intsL l0) (hp1 : p1 = intsL l1) (ok : okDiv s0 l0 e0 s1 l1 e1 n2 n3) (hd : d = divD (dval s0 l0 e0) (dval s1 l1 e1) n2 n3) (n0 : d = 0)
    (b0 : l0.length ≤ 2000000) (b1 : l1.length ≤ 2000000) :
    FS P gl 20 [.agg [B s0, .lst p0, I e0], .agg [B s1, .lst p1, I e1], I n2, I n3] (· = .tup [.agg [B false, .lst [], I 0], B true]) := by
  obtain ⟨⟨x1, x2, x3⟩, y1, y2, y3⟩ := dyOk_val ok.1
  obtain ⟨⟨x4, x5, x6⟩, y4, y5, y6⟩ := dyOk_val ok.2.1
  obtain ⟨z1, hz1⟩ : ∃ z, z = cZ (dval s0 l0 e0) := ⟨_, rfl⟩
  obtain ⟨z2, hz2⟩ : ∃ z, z = cZ (dval s1 l1 e1) := ⟨_, rfl⟩
  have hd' : d = mk (zover z1 z2 (e0 - e1 - n2) n3) n2 := by rw [hd, hz1, hz2, divD, ← x3, ← x6]
  rw [← hz1] at x1 x2 y1
  rw [← hz2] at x4 x5 y4
  have hn2 : z2 ≠ 0 := by rw [hz2]; intro h; exact ok.2.2.1 (cZ_eq_zero.1 h)
  obtain ⟨z, hz⟩ : ∃ z, z = zover z1 z2 (e0 - e1 - n2) n3 := ⟨_, rfl⟩
  have hzl := zover_len z1 z2 (e0 - e1 - n2) n3
  rw [← hz] at hzl hd'
  have hb2 := ok.2.2.2.1
  have hb3 := ok.2.2.2.2.1
  obtain ⟨pr, hpr⟩ : ∃ r, r = intsL (dg z.natAbs) := ⟨_, rfl⟩
  obtain ⟨sr, hsr⟩ : ∃ b, b = decide (z < 0) := ⟨_, rfl⟩
  have hp0' : p0 = intsL (dg z1.natAbs) := by rw [hp0, x2]
  have hp1' : p1 = intsL (dg z2.natAbs) := by rw [hp1, x5]
  have hover := fun (P' : Program) (C' : Cx P' gl) => over_fs C' (e1 := e0) (e2 := e1) hp0' hp1' x1 x4 hn2 hz hpr hsr rfl (by omega) (by omega) (by omega) (by omega) (by omega)
  obtain ⟨ex, hex⟩ : ∃ ex, ex = decide (z1.natAbs * 2 ^ (e0 - e1 - n2).toNat % (z2.natAbs * 2 ^ (-(e0 - e1 - n2)).toNat) = 0) := ⟨_, rfl⟩
  rw [← hex] at hover
  have hd0 : d = 0 ↔ z = 0 := by rw [hd', ← mk_zero n2, mk_inj]
  have hpr0 : pr = [] := by rw [hpr, hd0.1 n0, show Int.natAbs 0 = 0 from rfl, dg_zero]; rfl
  rw [hpr0] at hover
  have hdy := fun (P' : Program) (C' : Cx P' gl) => @dy0_fs P' gl C' n2 sr
  obtain ⟨okb, hokb⟩ := bool_of (dyOk s0 l0 e0 ∧ dyOk s1 l1 e1)
  have hall : okb = true ↔ allY [(s0, l0, e0), (s1, l1, e1)] := by
    rw [hokb]
    constructor
    · intro h y hy
      simp only [List.mem_cons, List.not_mem_nil, or_false] at hy
      rcases hy with rfl | rfl
      · exact h.1
      · exact h.2
    · intro h
      exact ⟨h (s0, l0, e0) (by simp), h (s1, l1, e1) (by simp)⟩
  have hyy : ∀ y ∈ [(s0, l0, e0), (s1, l1, e1)], y.2.1.length ≤ 2000000 := by
    intro y hy
    simp only [List.mem_cons, List.not_mem_nil, or_false] at hy
    rcases hy with rfl | rfl
    · exact b0
    · exact b1
  have hcl : [PV.agg [B s0, .lst p0, I e0], .agg [B s1, .lst p1, I e1]] = cells3 [(s0, l0, e0), (s1, l1, e1)] := by rw [hp0, hp1]; rfl
  have hare := fun (P' : Program) (C' : Cx P' gl) => areDys_fs C' hcl hall (by simp) hyy
  obtain ⟨zb, hzb⟩ : ∃ zb, zb = decide (l1.length = 0) := ⟨_, rfl⟩
  have hzero := fun (P' : Program) (C' : Cx P' gl) => isZero_fs C' (s := s1) (e := e1) hp1 hzb
  obtain ⟨lb, hlb⟩ : ∃ lb, lb = (decide (-3000 ≤ n2) && decide (n2 ≤ 3000)) := ⟨_, rfl⟩
  have hlow := fun (P' : Program) (C' : Cx P' gl) => isLow_fs C' hlb
  obtain ⟨mb, hmb⟩ : ∃ mb, mb = (decide (0 ≤ n3) && decide (n3 ≤ 4)) := ⟨_, rfl⟩
  have hmode := fun (P' : Program) (C' : Cx P' gl) => isMode_fs C' hmb
  obtain ⟨rfl, rfl, rfl, rfl⟩ := (okDiv_iff hokb hzb hlb hmb).1 ok
  clear hall hyy hcl hokb hzb hlb hmb hb2 hb3 hex hd0 hzl hz hd' hd ok x1 x2 x3 x4 x5 x6 y1 y2 y3 y4 y5 y6 hz1 hz2 hn2 hpr hsr n0
  obtain ⟨rfl, hG⟩ := C
  refine FS_ofC (args := fun A => [.agg [B s0, .lst p0, I e0], .agg [B s1, .lst p1, I e1], I n2, I n3]) (R := fun A rr => rr = .tup [.agg [B false, .lst [], I 0], B true]) Tryd.hT Tryd.mix Tryd.func20 rfl rfl (Nat.le_of_ble_eq_true rfl) ?_
  generalize hP : Tryd.prog = P
  intro A hA
  have C : Tryd.Cx P gl := ⟨hP.symm, hG⟩
  have hI : intsL = A.ints := by subst hA; rfl
  have q1 : A.bnot true = false := by subst hA; rfl
  have q2 : A.bnot false = true := by subst hA; rfl
  have q3 : ∀ x, A.pick false true x = x := fun x => by subst hA; cases x <;> rfl
  have q4 : ∀ x, A.pick true true x = true := fun x => by subst hA; cases x <;> rfl
  all_goals try cbv
  all_goals repeat' (first | with_reducible exact True.intro | with_reducible refine And.intro ?_ ?_ | intro _)
  all_goals try cbv
  all_goals repeat' (first | with_reducible exact True.intro | with_reducible refine And.intro ?_ ?_ | intro _)
  all_goals first | ((first | (with_reducible first | refine q1 hA ?_ | refine q2 hA ?_ | refine q3 hA ?_ | refine q4 hA ?_ | refine q5 hA ?_ | refine q6 hA ?_ | refine q7 hA ?_ | refine q8 hA ?_ | refine q9 hA ?_ | refine q0 hA ?_ | refine tru_of ?_) | exfalso); subst hA; subst_vars; simp only [AR.std, natCast_eq, sA, sB, sC, sD, reduceCtorEq] at *; (try simp (disch := omega) only [AR.std, natCast_eq, sA, sB, sC, sD, reduceCtorEq] at *); first | done | rfl | omega | exact ints_ok _ | exact ints_all _ | (apply ints_part <;> first | omega | rfl)) | skip
  all_goals try (refine okA_of hA ?_; intro y hy; simp only [List.mem_cons, List.not_mem_nil, or_false] at hy; rcases hy with rfl | rfl <;> exact ⟨rfl, rfl⟩)
  refine callS hA rfl (hare P C) ?_; rintro _ rfl
  all_goals try cbv
  all_goals repeat' (first | with_reducible exact True.intro | with_reducible refine And.intro ?_ ?_ | intro _)
  all_goals try cbv
  all_goals repeat' (first | with_reducible exact True.intro | with_reducible refine And.intro ?_ ?_ | intro _)
  all_goals first | ((first | (with_reducible first | refine q1 hA ?_ | refine q2 hA ?_ | refine q3 hA ?_ | refine q4 hA ?_ | refine q5 hA ?_ | refine q6 hA ?_ | refine q7 hA ?_ | refine q8 hA ?_ | refine q9 hA ?_ | refine q0 hA ?_ | refine tru_of ?_) | exfalso); subst hA; subst_vars; simp only [AR.std, natCast_eq, sA, sB, sC, sD, reduceCtorEq] at *; (try simp (disch := omega) only [AR.std, natCast_eq, sA, sB, sC, sD, reduceCtorEq] at *); first | done | rfl | omega | exact ints_ok _ | exact ints_all _ | (apply ints_part <;> first | omega | rfl)) | skip
  all_goals try simp only [q1, q2, q3, q4]
  refine ⟨_, fun _ => dyExact_fs C, ?_⟩
  all_goals try cbv
  all_goals repeat' (first | with_reducible exact True.intro | with_reducible refine And.intro ?_ ?_ | intro _)
  all_goals try cbv
  all_goals repeat' (first | with_reducible exact True.intro | with_reducible refine And.intro ?_ ?_ | intro _)
  all_goals first | ((first | (with_reducible first | refine q1 hA ?_ | refine q2 hA ?_ | refine q3 hA ?_ | refine q4 hA ?_ | refine q5 hA ?_ | refine q6 hA ?_ | refine q7 hA ?_ | refine q8 hA ?_ | refine q9 hA ?_ | refine q0 hA ?_ | refine tru_of ?_) | exfalso); subst hA; subst_vars; simp only [AR.std, natCast_eq, sA, sB, sC, sD, reduceCtorEq] at *; (try simp (disch := omega) only [AR.std, natCast_eq, sA, sB, sC, sD, reduceCtorEq] at *); first | done | rfl | omega | exact ints_ok _ | exact ints_all _ | (apply ints_part <;> first | omega | rfl)) | skip
  all_goals try simp only [q1, q2, q3, q4]
  refine ⟨_, fun _ => hzero P C, ?_⟩
  all_goals try cbv
  all_goals repeat' (first | with_reducible exact True.intro | with_reducible refine And.intro ?_ ?_ | intro _)
  all_goals try cbv
  all_goals repeat' (first | with_reducible exact True.intro | with_reducible refine And.intro ?_ ?_ | intro _)
  all_goals first | ((first | (with_reducible first | refine q1 hA ?_ | refine q2 hA ?_ | refine q3 hA ?_ | refine q4 hA ?_ | refine q5 hA ?_ | refine q6 hA ?_ | refine q7 hA ?_ | refine q8 hA ?_ | refine q9 hA ?_ | refine q0 hA ?_ | refine tru_of ?_) | exfalso); subst hA; subst_vars; simp only [AR.std, natCast_eq, sA, sB, sC, sD, reduceCtorEq] at *; (try simp (disch := omega) only [AR.std, natCast_eq, sA, sB, sC, sD, reduceCtorEq] at *); first | done | rfl | omega | exact ints_ok _ | exact ints_all _ | (apply ints_part <;> first | omega | rfl)) | skip
  all_goals try simp only [q1, q2, q3, q4]
  refine ⟨_, fun _ => hlow P C, ?_⟩
  all_goals try cbv
  all_goals repeat' (first | with_reducible exact True.intro | with_reducible refine And.intro ?_ ?_ | intro _)
  all_goals try cbv
  all_goals repeat' (first | with_reducible exact True.intro | with_reducible refine And.intro ?_ ?_ | intro _)
  all_goals first | ((first | (with_reducible first | refine q1 hA ?_ | refine q2 hA ?_ | refine q3 hA ?_ | refine q4 hA ?_ | refine q5 hA ?_ | refine q6 hA ?_ | refine q7 hA ?_ | refine q8 hA ?_ | refine q9 hA ?_ | refine q0 hA ?_ | refine tru_of ?_) | exfalso); subst hA; subst_vars; simp only [AR.std, natCast_eq, sA, sB, sC, sD, reduceCtorEq] at *; (try simp (disch := omega) only [AR.std, natCast_eq, sA, sB, sC, sD, reduceCtorEq] at *); first | done | rfl | omega | exact ints_ok _ | exact ints_all _ | (apply ints_part <;> first | omega | rfl)) | skip
  all_goals try simp only [q1, q2, q3, q4]
  refine ⟨_, fun _ => hmode P C, ?_⟩
  all_goals try cbv
  all_goals repeat' (first | with_reducible exact True.intro | with_reducible refine And.intro ?_ ?_ | intro _)
  all_goals try cbv
  all_goals repeat' (first | with_reducible exact True.intro | with_reducible refine And.intro ?_ ?_ | intro _)
  all_goals first | ((first | (with_reducible first | refine q1 hA ?_ | refine q2 hA ?_ | refine q3 hA ?_ | refine q4 hA ?_ | refine q5 hA ?_ | refine q6 hA ?_ | refine q7 hA ?_ | refine q8 hA ?_ | refine q9 hA ?_ | refine q0 hA ?_ | refine tru_of ?_) | exfalso); subst hA; subst_vars; simp only [AR.std, natCast_eq, sA, sB, sC, sD, reduceCtorEq] at *; (try simp (disch := omega) only [AR.std, natCast_eq, sA, sB, sC, sD, reduceCtorEq] at *); first | done | rfl | omega | exact ints_ok _ | exact ints_all _ | (apply ints_part <;> first | omega | rfl)) | skip
  all_goals try simp only [q1, q2, q3, q4]
  refine ⟨_, dyExact_fs C, ?_⟩
  all_goals try cbv
  all_goals repeat' (first | with_reducible exact True.intro | with_reducible refine And.intro ?_ ?_ | intro _)
  all_goals try cbv
  all_goals repeat' (first | with_reducible exact True.intro | with_reducible refine And.intro ?_ ?_ | intro _)
  all_goals first | ((first | (with_reducible first | refine q1 hA ?_ | refine q2 hA ?_ | refine q3 hA ?_ | refine q4 hA ?_ | refine q5 hA ?_ | refine q6 hA ?_ | refine q7 hA ?_ | refine q8 hA ?_ | refine q9 hA ?_ | refine q0 hA ?_ | refine tru_of ?_) | exfalso); subst hA; subst_vars; simp only [AR.std, natCast_eq, sA, sB, sC, sD, reduceCtorEq] at *; (try simp (disch := omega) only [AR.std, natCast_eq, sA, sB, sC, sD, reduceCtorEq] at *); first | done | rfl | omega | exact ints_ok _ | exact ints_all _ | (apply ints_part <;> first | omega | rfl)) | skip
  refine ⟨_, dyExact_fs C, ?_⟩
  all_goals try cbv
  all_goals repeat' (first | with_reducible exact True.intro | with_reducible refine And.intro ?_ ?_ | intro _)
  all_goals try cbv
  all_goals repeat' (first | with_reducible exact True.intro | with_reducible refine And.intro ?_ ?_ | intro _)
  all_goals first | ((first | (with_reducible first | refine q1 hA ?_ | refine q2 hA ?_ | refine q3 hA ?_ | refine q4 hA ?_ | refine q5 hA ?_ | refine q6 hA ?_ | refine q7 hA ?_ | refine q8 hA ?_ | refine q9 hA ?_ | refine q0 hA ?_ | refine tru_of ?_) | exfalso); subst hA; subst_vars; simp only [AR.std, natCast_eq, sA, sB, sC, sD, reduceCtorEq] at *; (try simp (disch := omega) only [AR.std, natCast_eq, sA, sB, sC, sD, reduceCtorEq] at *); first | done | rfl | omega | exact ints_ok _ | exact ints_all _ | (apply ints_part <;> first | omega | rfl)) | skip
  refine ⟨_, hover P C, ?_⟩
  all_goals try cbv
  all_goals repeat' (first | with_reducible exact True.intro | with_reducible refine And.intro ?_ ?_ | intro _)
  all_goals try cbv
  all_goals repeat' (first | with_reducible exact True.intro | with_reducible refine And.intro ?_ ?_ | intro _)
  all_goals first | ((first | (with_reducible first | refine q1 hA ?_ | refine q2 hA ?_ | refine q3 hA ?_ | refine q4 hA ?_ | refine q5 hA ?_ | refine q6 hA ?_ | refine q7 hA ?_ | refine q8 hA ?_ | refine q9 hA ?_ | refine q0 hA ?_ | refine tru_of ?_) | exfalso); subst hA; subst_vars; simp only [AR.std, natCast_eq, sA, sB, sC, sD, reduceCtorEq] at *; (try simp (disch := omega) only [AR.std, natCast_eq, sA, sB, sC, sD, reduceCtorEq] at *); first | done | rfl | omega | exact ints_ok _ | exact ints_all _ | (apply ints_part <;> first | omega | rfl)) | skip
  refine callS hA rfl (hdy P C) ?_; rintro _ rfl
  all_goals try cbv
  all_goals repeat' (first | with_reducible exact True.intro | with_reducible refine And.intro ?_ ?_ | intro _)
  all_goals try cbv
  all_goals repeat' (first | with_reducible exact True.intro | with_reducible refine And.intro ?_ ?_ | intro _)
  all_goals first | ((first | (with_reducible first | refine q1 hA ?_ | refine q2 hA ?_ | refine q3 hA ?_ | refine q4 hA ?_ | refine q5 hA ?_ | refine q6 hA ?_ | refine q7 hA ?_ | refine q8 hA ?_ | refine q9 hA ?_ | refine q0 hA ?_ | refine tru_of ?_) | exfalso); subst hA; subst_vars; simp only [AR.std, natCast_eq, sA, sB, sC, sD, reduceCtorEq] at *; (try simp (disch := omega) only [AR.std, natCast_eq, sA, sB, sC, sD, reduceCtorEq] at *); first | done | rfl | omega | exact ints_ok _ | exact ints_all _ | (apply ints_part <;> first | omega | rfl)) | skip

set_option maxHeartbeats 2000000 in
set_option maxRecDepth 100000 in
theorem implDyDiv_X_fs (C : Cx P gl) {l0 l1 : List Int} {p0 p1 : List PV} {s0 s1 : Bool} {e0 e1 n2 n3 : Int} {d : Dyadic} (hp0 : p0 = intsL l0) (hp1 : p1 = intsL l1) (ok : okDiv s0 l0 e0 s1 l1 e1 n2 n3) (hd : d = divD (dval s0 l0 e0) (dval s1 l1 e1) n2 n3) (hX : ¬fits d)
    (b0 : l0.length ≤ 2000000) (b1 : l1.length ≤ 2000000) :
    FS P gl 20 [.agg [B s0, .lst p0, I e0], .agg [B s1, .lst p1, I e1], I n2, I n3] (· = .tup [.agg [B false, .lst [], I 0], B false]) := by
  obtain ⟨⟨x1, x2, x3⟩, y1, y2, y3⟩ := dyOk_val ok.1
  obtain ⟨⟨x4, x5, x6⟩, y4, y5, y6⟩ := dyOk_val ok.2.1
  obtain ⟨z1, hz1⟩ : ∃ z, z = cZ (dval s0 l0 e0) := ⟨_, rfl⟩
  obtain ⟨z2, hz2⟩ : ∃ z, z = cZ (dval s1 l1 e1) := ⟨_, rfl⟩
  have hd' : d = mk (zover z1 z2 (e0 - e1 - n2) n3) n2 := by rw [hd, hz1, hz2, divD, ← x3, ← x6]
  rw [← hz1] at x1 x2 y1
  rw [← hz2] at x4 x5 y4
  have hn2 : z2 ≠ 0 := by rw [hz2]; intro h; exact ok.2.2.1 (cZ_eq_zero.1 h)
  obtain ⟨z, hz⟩ : ∃ z, z = zover z1 z2 (e0 - e1 - n2) n3 := ⟨_, rfl⟩
  have hzl := zover_len z1 z2 (e0 - e1 - n2) n3
  rw [← hz] at hzl hd'
  have hb2 := ok.2.2.2.1
  have hb3 := ok.2.2.2.2.1
  obtain ⟨pr, hpr⟩ : ∃ r, r = intsL (dg z.natAbs) := ⟨_, rfl⟩
  obtain ⟨sr, hsr⟩ : ∃ b, b = decide (z < 0) := ⟨_, rfl⟩
  have hp0' : p0 = intsL (dg z1.natAbs) := by rw [hp0, x2]
  have hp1' : p1 = intsL (dg z2.natAbs) := by rw [hp1, x5]
  have hover := fun (P' : Program) (C' : Cx P' gl) => over_fs C' (e1 := e0) (e2 := e1) hp0' hp1' x1 x4 hn2 hz hpr hsr rfl (by omega) (by omega) (by omega) (by omega) (by omega)
  obtain ⟨ex, hex⟩ : ∃ ex, ex = decide (z1.natAbs * 2 ^ (e0 - e1 - n2).toNat % (z2.natAbs * 2 ^ (-(e0 - e1 - n2)).toNat) = 0) := ⟨_, rfl⟩
  rw [← hex] at hover
  have hd0 : d = 0 ↔ z = 0 := by rw [hd', ← mk_zero n2, mk_inj]
  have hdy := fun (P' : Program) (C' : Cx P' gl) => dyn_fs C' (e := n2) hpr hsr (by omega) (by omega) (fun h => hX (by rw [hd0.2 h]; exact fits_zero)) (by rw [← hd']; exact hX)
  obtain ⟨okb, hokb⟩ := bool_of (dyOk s0 l0 e0 ∧ dyOk s1 l1 e1)
  have hall : okb = true ↔ allY [(s0, l0, e0), (s1, l1, e1)] := by
    rw [hokb]
    constructor
    · intro h y hy
      simp only [List.mem_cons, List.not_mem_nil, or_false] at hy
      rcases hy with rfl | rfl
      · exact h.1
      · exact h.2
    · intro h
      exact ⟨h (s0, l0, e0) (by simp), h (s1, l1, e1) (by simp)⟩
  have hyy : ∀ y ∈ [(s0, l0, e0), (s1, l1, e1)], y.2.1.length ≤ 2000000 := by
    intro y hy
    simp only [List.mem_cons, List.not_mem_nil, or_false] at hy
    rcases hy with rfl | rfl
    · exact b0
    · exact b1
  have hcl : [PV.agg [B s0, .lst p0, I e0], .agg [B s1, .lst p1, I e1]] = cells3 [(s0, l0, e0), (s1, l1, e1)] := by rw [hp0, hp1]; rfl
  have hare := fun (P' : Program) (C' : Cx P' gl) => areDys_fs C' hcl hall (by simp) hyy
  obtain ⟨zb, hzb⟩ : ∃ zb, zb = decide (l1.length = 0) := ⟨_, rfl⟩
  have hzero := fun (P' : Program) (C' : Cx P' gl) => isZero_fs C' (s := s1) (e := e1) hp1 hzb
  obtain ⟨lb, hlb⟩ : ∃ lb, lb = (decide (-3000 ≤ n2) && decide (n2 ≤ 3000)) := ⟨_, rfl⟩
  have hlow := fun (P' : Program) (C' : Cx P' gl) => isLow_fs C' hlb
  obtain ⟨mb, hmb⟩ : ∃ mb, mb = (decide (0 ≤ n3) && decide (n3 ≤ 4)) := ⟨_, rfl⟩
  have hmode := fun (P' : Program) (C' : Cx P' gl) => isMode_fs C' hmb
  obtain ⟨rfl, rfl, rfl, rfl⟩ := (okDiv_iff hokb hzb hlb hmb).1 ok
  clear hall hyy hcl hokb hzb hlb hmb hb2 hb3 hex hd0 hzl hz hd' hd ok x1 x2 x3 x4 x5 x6 y1 y2 y3 y4 y5 y6 hz1 hz2 hn2 hpr hsr hX
  obtain ⟨rfl, hG⟩ := C
  refine FS_ofC (args := fun A => [.agg [B s0, .lst p0, I e0], .agg [B s1, .lst p1, I e1], I n2, I n3]) (R := fun A rr => rr = .tup [.agg [B false, .lst [], I 0], B false]) Tryd.hT Tryd.mix Tryd.func20 rfl rfl (Nat.le_of_ble_eq_true rfl) ?_
  generalize hP : Tryd.prog = P
  intro A hA
  have C : Tryd.Cx P gl := ⟨hP.symm, hG⟩
  have hI : intsL = A.ints := by subst hA; rfl
  have q1 : A.bnot true = false := by subst hA; rfl
  have q2 : A.bnot false = true := by subst hA; rfl
  have q3 : ∀ x, A.pick false true x = x := fun x => by subst hA; cases x <;> rfl
  have q4 : ∀ x, A.pick true true x = true := fun x => by subst hA; cases x <;> rfl
  all_goals try cbv
  all_goals repeat' (first | with_reducible exact True.intro | with_reducible refine And.intro ?_ ?_ | intro _)
  all_goals try cbv
  all_goals repeat' (first | with_reducible exact True.intro | with_reducible refine And.intro ?_ ?_ | intro _)
  all_goals first | ((first | (with_reducible first | refine q1 hA ?_ | refine q2 hA ?_ | refine q3 hA ?_ | refine q4 hA ?_ | refine q5 hA ?_ | refine q6 hA ?_ | refine q7 hA ?_ | refine q8 hA ?_ | refine q9 hA ?_ | refine q0 hA ?_ | refine tru_of ?_) | exfalso); subst hA; subst_vars; simp only [AR.std, natCast_eq, sA, sB, sC, sD, reduceCtorEq] at *; (try simp (disch := omega) only [AR.std, natCast_eq, sA, sB, sC, sD, reduceCtorEq] at *); first | done | rfl | omega | exact ints_ok _ | exact ints_all _ | (apply ints_part <;> first | omega | rfl)) | skip
  all_goals try (refine okA_of hA ?_; intro y hy; simp only [List.mem_cons, List.not_mem_nil, or_false] at hy; rcases hy with rfl | rfl <;> exact ⟨rfl, rfl⟩)
  refine callS hA rfl (hare P C) ?_; rintro _ rfl
  all_goals try cbv
  all_goals repeat' (first | with_reducible exact True.intro | with_reducible refine And.intro ?_ ?_ | intro _)
  all_goals try cbv
  all_goals repeat' (first | with_reducible exact True.intro | with_reducible refine And.intro ?_ ?_ | intro _)
  all_goals first | ((first | (with_reducible first | refine q1 hA ?_ | refine q2 hA ?_ | refine q3 hA ?_ | refine q4 hA ?_ | refine q5 hA ?_ | refine q6 hA ?_ | refine q7 hA ?_ | refine q8 hA ?_ | refine q9 hA ?_ | refine q0 hA ?_ | refine tru_of ?_) | exfalso); subst hA; subst_vars; simp only [AR.std, natCast_eq, sA, sB, sC, sD, reduceCtorEq] at *; (try simp (disch := omega) only [AR.std, natCast_eq, sA, sB, sC, sD, reduceCtorEq] at *); first | done | rfl | omega | exact ints_ok _ | exact ints_all _ | (apply ints_part <;> first | omega | rfl)) | skip
  all_goals try simp only [q1, q2, q3, q4]
  refine ⟨_, fun _ => dyExact_fs C, ?_⟩
  all_goals try cbv
  all_goals repeat' (first | with_reducible exact True.intro | with_reducible refine And.intro ?_ ?_ | intro _)
  all_goals try cbv
  all_goals repeat' (first | with_reducible exact True.intro | with_reducible refine And.intro ?_ ?_ | intro _)
  all_goals first | ((first | (with_reducible first | refine q1 hA ?_ | refine q2 hA ?_ | refine q3 hA ?_ | refine q4 hA ?_ | refine q5 hA ?_ | refine q6 hA ?_ | refine q7 hA ?_ | refine q8 hA ?_ | refine q9 hA ?_ | refine q0 hA ?_ | refine tru_of ?_) | exfalso); subst hA; subst_vars; simp only [AR.std, natCast_eq, sA, sB, sC, sD, reduceCtorEq] at *; (try simp (disch := omega) only [AR.std, natCast_eq, sA, sB, sC, sD, reduceCtorEq] at *); first | done | rfl | omega | exact ints_ok _ | exact ints_all _ | (apply ints_part <;> first | omega | rfl)) | skip
  all_goals try simp only [q1, q2, q3, q4]
  refine ⟨_, fun _ => hzero P C, ?_⟩
  all_goals try cbv
  all_goals repeat' (first | with_reducible exact True.intro | with_reducible refine And.intro ?_ ?_ | intro _)
  all_goals try cbv
  all_goals repeat' (first | with_reducible exact True.intro | with_reducible refine And.intro ?_ ?_ | intro _)
  all_goals first | ((first | (with_reducible first | refine q1 hA ?_ | refine q2 hA ?_ | refine q3 hA ?_ | refine q4 hA ?_ | refine q5 hA ?_ | refine q6 hA ?_ | refine q7 hA ?_ | refine q8 hA ?_ | refine q9 hA ?_ | refine q0 hA ?_ | refine tru_of ?_) | exfalso); subst hA; subst_vars; simp only [AR.std, natCast_eq, sA, sB, sC, sD, reduceCtorEq] at *; (try simp (disch := omega) only [AR.std, natCast_eq, sA, sB, sC, sD, reduceCtorEq] at *); first | done | rfl | omega | exact ints_ok _ | exact ints_all _ | (apply ints_part <;> first | omega | rfl)) | skip
  all_goals try simp only [q1, q2, q3, q4]
  refine ⟨_, fun _ => hlow P C, ?_⟩
  all_goals try cbv
  all_goals repeat' (first | with_reducible exact True.intro | with_reducible refine And.intro ?_ ?_ | intro _)
  all_goals try cbv
  all_goals repeat' (first | with_reducible exact True.intro | with_reducible refine And.intro ?_ ?_ | intro _)
  all_goals first | ((first | (with_reducible first | refine q1 hA ?_ | refine q2 hA ?_ | refine q3 hA ?_ | refine q4 hA ?_ | refine q5 hA ?_ | refine q6 hA ?_ | refine q7 hA ?_ | refine q8 hA ?_ | refine q9 hA ?_ | refine q0 hA ?_ | refine tru_of ?_) | exfalso); subst hA; subst_vars; simp only [AR.std, natCast_eq, sA, sB, sC, sD, reduceCtorEq] at *; (try simp (disch := omega) only [AR.std, natCast_eq, sA, sB, sC, sD, reduceCtorEq] at *); first | done | rfl | omega | exact ints_ok _ | exact ints_all _ | (apply ints_part <;> first | omega | rfl)) | skip
  all_goals try simp only [q1, q2, q3, q4]
  refine ⟨_, fun _ => hmode P C, ?_⟩
  all_goals try cbv
  all_goals repeat' (first | with_reducible exact True.intro | with_reducible refine And.intro ?_ ?_ | intro _)
  all_goals try cbv
  all_goals repeat' (first | with_reducible exact True.intro | with_reducible refine And.intro ?_ ?_ | intro _)
  all_goals first | ((first | (with_reducible first | refine q1 hA ?_ | refine q2 hA ?_ | refine q3 hA ?_ | refine q4 hA ?_ | refine q5 hA ?_ | refine q6 hA ?_ | refine q7 hA ?_ | refine q8 hA ?_ | refine q9 hA ?_ | refine q0 hA ?_ | refine tru_of ?_) | exfalso); subst hA; subst_vars; simp only [AR.std, natCast_eq, sA, sB, sC, sD, reduceCtorEq] at *; (try simp (disch := omega) only [AR.std, natCast_eq, sA, sB, sC, sD, reduceCtorEq] at *); first | done | rfl | omega | exact ints_ok _ | exact ints_all _ | (apply ints_part <;> first | omega | rfl)) | skip
  all_goals try simp only [q1, q2, q3, q4]
  refine ⟨_, dyExact_fs C, ?_⟩
  all_goals try cbv
  all_goals repeat' (first | with_reducible exact True.intro | with_reducible refine And.intro ?_ ?_ | intro _)
  all_goals try cbv
  all_goals repeat' (first | with_reducible exact True.intro | with_reducible refine And.intro ?_ ?_ | intro _)
  all_goals first | ((first | (with_reducible first | refine q1 hA ?_ | refine q2 hA ?_ | refine q3 hA ?_ | refine q4 hA ?_ | refine q5 hA ?_ | refine q6 hA ?_ | refine q7 hA ?_ | refine q8 hA ?_ | refine q9 hA ?_ | refine q0 hA ?_ | refine tru_of ?_) | exfalso); subst hA; subst_vars; simp only [AR.std, natCast_eq, sA, sB, sC, sD, reduceCtorEq] at *; (try simp (disch := omega) only [AR.std, natCast_eq, sA, sB, sC, sD, reduceCtorEq] at *); first | done | rfl | omega | exact ints_ok _ | exact ints_all _ | (apply ints_part <;> first | omega | rfl)) | skip
  refine ⟨_, dyExact_fs C, ?_⟩
  all_goals try cbv
  all_goals repeat' (first | with_reducible exact True.intro | with_reducible refine And.intro ?_ ?_ | intro _)
  all_goals try cbv
  all_goals repeat' (first | with_reducible exact True.intro | with_reducible refine And.intro ?_ ?_ | intro _)
  all_goals first | ((first | (with_reducible first | refine q1 hA ?_ | refine q2 hA ?_ | refine q3 hA ?_ | refine q4 hA ?_ | refine q5 hA ?_ | refine q6 hA ?_ | refine q7 hA ?_ | refine q8 hA ?_ | refine q9 hA ?_ | refine q0 hA ?_ | refine tru_of ?_) | exfalso); subst hA; subst_vars; simp only [AR.std, natCast_eq, sA, sB, sC, sD, reduceCtorEq] at *; (try simp (disch := omega) only [AR.std, natCast_eq, sA, sB, sC, sD, reduceCtorEq] at *); first | done | rfl | omega | exact ints_ok _ | exact ints_all _ | (apply ints_part <;> first | omega | rfl)) | skip
  refine ⟨_, hover P C, ?_⟩
  all_goals try cbv
  all_goals repeat' (first | with_reducible exact True.intro | with_reducible refine And.intro ?_ ?_ | intro _)
  all_goals try cbv
  all_goals repeat' (first | with_reducible exact True.intro | with_reducible refine And.intro ?_ ?_ | intro _)
  all_goals first | ((first | (with_reducible first | refine q1 hA ?_ | refine q2 hA ?_ | refine q3 hA ?_ | refine q4 hA ?_ | refine q5 hA ?_ | refine q6 hA ?_ | refine q7 hA ?_ | refine q8 hA ?_ | refine q9 hA ?_ | refine q0 hA ?_ | refine tru_of ?_) | exfalso); subst hA; subst_vars; simp only [AR.std, natCast_eq, sA, sB, sC, sD, reduceCtorEq] at *; (try simp (disch := omega) only [AR.std, natCast_eq, sA, sB, sC, sD, reduceCtorEq] at *); first | done | rfl | omega | exact ints_ok _ | exact ints_all _ | (apply ints_part <;> first | omega | rfl)) | skip
  refine callS hA rfl (hdy P C) ?_; rintro _ rfl
  all_goals try cbv
  all_goals repeat' (first | with_reducible exact True.intro | with_reducible refine And.intro ?_ ?_ | intro _)
  all_goals try cbv
  all_goals repeat' (first | with_reducible exact True.intro | with_reducible refine And.intro ?_ ?_ | intro _)
  all_goals first | ((first | (with_reducible first | refine q1 hA ?_ | refine q2 hA ?_ | refine q3 hA ?_ | refine q4 hA ?_ | refine q5 hA ?_ | refine q6 hA ?_ | refine q7 hA ?_ | refine q8 hA ?_ | refine q9 hA ?_ | refine q0 hA ?_ | refine tru_of ?_) | exfalso); subst hA; subst_vars; simp only [AR.std, natCast_eq, sA, sB, sC, sD, reduceCtorEq] at *; (try simp (disch := omega) only [AR.std, natCast_eq, sA, sB, sC, sD, reduceCtorEq] at *); first | done | rfl | omega | exact ints_ok _ | exact ints_all _ | (apply ints_part <;> first | omega | rfl)) | skip

set_option maxHeartbeats 2000000 in
set_option maxRecDepth 100000 in
theorem implDyDiv_N_fs (C : Cx P gl) {l0 l1 : List Int} {p0 p1 : List PV} {s0 s1 : Bool} {e0 e1 n2 n3 : Int} (hp0 : p0 = intsL l0) (hp1 : p1 = intsL l1) (hno : ¬okDiv s0 l0 e0 s1 l1 e1 n2 n3)
    (b0 : l0.length ≤ 2000000) (b1 : l1.length ≤ 2000000) :
    FS P gl 20 [.agg [B s0, .lst p0, I e0], .agg [B s1, .lst p1, I e1], I n2, I n3] (· = .tup [.agg [B false, .lst [], I 0], B false]) := by
  obtain ⟨okb, hokb⟩ := bool_of (dyOk s0 l0 e0 ∧ dyOk s1 l1 e1)
  have hall : okb = true ↔ allY [(s0, l0, e0), (s1, l1, e1)] := by
    rw [hokb]
    constructor
    · intro h y hy
      simp only [List.mem_cons, List.not_mem_nil, or_false] at hy
      rcases hy with rfl | rfl
      · exact h.1
      · exact h.2
    · intro h
      exact ⟨h (s0, l0, e0) (by simp), h (s1, l1, e1) (by simp)⟩
  have hyy : ∀ y ∈ [(s0, l0, e0), (s1, l1, e1)], y.2.1.length ≤ 2000000 := by
    intro y hy
    simp only [List.mem_cons, List.not_mem_nil, or_false] at hy
    rcases hy with rfl | rfl
    · exact b0
    · exact b1
  have hcl : [PV.agg [B s0, .lst p0, I e0], .agg [B s1, .lst p1, I e1]] = cells3 [(s0, l0, e0), (s1, l1, e1)] := by rw [hp0, hp1]; rfl
  have hare := fun (P' : Program) (C' : Cx P' gl) => areDys_fs C' hcl hall (by simp) hyy
  obtain ⟨zb, hzb⟩ : ∃ zb, zb = decide (l1.length = 0) := ⟨_, rfl⟩
  have hzero := fun (P' : Program) (C' : Cx P' gl) => isZero_fs C' (s := s1) (e := e1) hp1 hzb
  obtain ⟨lb, hlb⟩ : ∃ lb, lb = (decide (-3000 ≤ n2) && decide (n2 ≤ 3000)) := ⟨_, rfl⟩
  have hlow := fun (P' : Program) (C' : Cx P' gl) => isLow_fs C' hlb
  obtain ⟨mb, hmb⟩ : ∃ mb, mb = (decide (0 ≤ n3) && decide (n3 ≤ 4)) := ⟨_, rfl⟩
  have hmode := fun (P' : Program) (C' : Cx P' gl) => isMode_fs C' hmb
  have hno2 : okb = true → zb = false → lb = true → mb = true → False := by
    intro h1 h2 h3 h4
    refine hno ((okDiv_iff hokb hzb hlb hmb).2 ⟨h1, h2, h3, h4⟩)
  clear hall hyy hcl hno hokb hzb hlb hmb
  obtain ⟨rfl, hG⟩ := C
  refine FS_ofC (args := fun A => [.agg [B s0, .lst p0, I e0], .agg [B s1, .lst p1, I e1], I n2, I n3]) (R := fun A rr => rr = .tup [.agg [B false, .lst [], I 0], B false]) Tryd.hT Tryd.mix Tryd.func20 rfl rfl (Nat.le_of_ble_eq_true rfl) ?_
  generalize hP : Tryd.prog = P
  intro A hA
  have C : Tryd.Cx P gl := ⟨hP.symm, hG⟩
  have hI : intsL = A.ints := by subst hA; rfl
  have q1 : A.bnot true = false := by subst hA; rfl
  have q2 : A.bnot false = true := by subst hA; rfl
  have q3 : ∀ x, A.pick false true x = x := fun x => by subst hA; cases x <;> rfl
  have q4 : ∀ x, A.pick true true x = true := fun x => by subst hA; cases x <;> rfl
  all_goals try cbv
  all_goals repeat' (first | with_reducible exact True.intro | with_reducible refine And.intro ?_ ?_ | intro _)
  all_goals try cbv
  all_goals repeat' (first | with_reducible exact True.intro | with_reducible refine And.intro ?_ ?_ | intro _)
  all_goals first | ((first | (with_reducible first | refine q1 hA ?_ | refine q2 hA ?_ | refine q3 hA ?_ | refine q4 hA ?_ | refine q5 hA ?_ | refine q6 hA ?_ | refine q7 hA ?_ | refine q8 hA ?_ | refine q9 hA ?_ | refine q0 hA ?_ | refine tru_of ?_) | exfalso); subst hA; subst_vars; simp only [AR.std, natCast_eq, sA, sB, sC, sD, reduceCtorEq] at *; (try simp (disch := omega) only [AR.std, natCast_eq, sA, sB, sC, sD, reduceCtorEq] at *); first | done | rfl | omega | exact ints_ok _ | exact ints_all _ | (apply ints_part <;> first | omega | rfl)) | skip
  all_goals try (refine okA_of hA ?_; intro y hy; simp only [List.mem_cons, List.not_mem_nil, or_false] at hy; rcases hy with rfl | rfl <;> exact ⟨rfl, rfl⟩)
  refine callS hA rfl (hare P C) ?_; rintro _ rfl
  all_goals try cbv
  all_goals repeat' (first | with_reducible exact True.intro | with_reducible refine And.intro ?_ ?_ | intro _)
  all_goals try cbv
  all_goals repeat' (first | with_reducible exact True.intro | with_reducible refine And.intro ?_ ?_ | intro _)
  all_goals first | ((first | (with_reducible first | refine q1 hA ?_ | refine q2 hA ?_ | refine q3 hA ?_ | refine q4 hA ?_ | refine q5 hA ?_ | refine q6 hA ?_ | refine q7 hA ?_ | refine q8 hA ?_ | refine q9 hA ?_ | refine q0 hA ?_ | refine tru_of ?_) | exfalso); subst hA; subst_vars; simp only [AR.std, natCast_eq, sA, sB, sC, sD, reduceCtorEq] at *; (try simp (disch := omega) only [AR.std, natCast_eq, sA, sB, sC, sD, reduceCtorEq] at *); first | done | rfl | omega | exact ints_ok _ | exact ints_all _ | (apply ints_part <;> first | omega | rfl)) | skip
  refine ⟨_, fun _ => dyExact_fs C, ?_⟩
  all_goals try cbv
  all_goals repeat' (first | with_reducible exact True.intro | with_reducible refine And.intro ?_ ?_ | intro _)
  all_goals try cbv
  all_goals repeat' (first | with_reducible exact True.intro | with_reducible refine And.intro ?_ ?_ | intro _)
  all_goals first | ((first | (with_reducible first | refine q1 hA ?_ | refine q2 hA ?_ | refine q3 hA ?_ | refine q4 hA ?_ | refine q5 hA ?_ | refine q6 hA ?_ | refine q7 hA ?_ | refine q8 hA ?_ | refine q9 hA ?_ | refine q0 hA ?_ | refine tru_of ?_) | exfalso); subst hA; subst_vars; simp only [AR.std, natCast_eq, sA, sB, sC, sD, reduceCtorEq] at *; (try simp (disch := omega) only [AR.std, natCast_eq, sA, sB, sC, sD, reduceCtorEq] at *); first | done | rfl | omega | exact ints_ok _ | exact ints_all _ | (apply ints_part <;> first | omega | rfl)) | skip
  refine ⟨_, fun _ => hzero P C, ?_⟩
  all_goals try cbv
  all_goals repeat' (first | with_reducible exact True.intro | with_reducible refine And.intro ?_ ?_ | intro _)
  all_goals try cbv
  all_goals repeat' (first | with_reducible exact True.intro | with_reducible refine And.intro ?_ ?_ | intro _)
  all_goals first | ((first | (with_reducible first | refine q1 hA ?_ | refine q2 hA ?_ | refine q3 hA ?_ | refine q4 hA ?_ | refine q5 hA ?_ | refine q6 hA ?_ | refine q7 hA ?_ | refine q8 hA ?_ | refine q9 hA ?_ | refine q0 hA ?_ | refine tru_of ?_) | exfalso); subst hA; subst_vars; simp only [AR.std, natCast_eq, sA, sB, sC, sD, reduceCtorEq] at *; (try simp (disch := omega) only [AR.std, natCast_eq, sA, sB, sC, sD, reduceCtorEq] at *); first | done | rfl | omega | exact ints_ok _ | exact ints_all _ | (apply ints_part <;> first | omega | rfl)) | skip
  refine ⟨_, fun _ => hlow P C, ?_⟩
  all_goals try cbv
  all_goals repeat' (first | with_reducible exact True.intro | with_reducible refine And.intro ?_ ?_ | intro _)
  all_goals try cbv
  all_goals repeat' (first | with_reducible exact True.intro | with_reducible refine And.intro ?_ ?_ | intro _)
  all_goals first | ((first | (with_reducible first | refine q1 hA ?_ | refine q2 hA ?_ | refine q3 hA ?_ | refine q4 hA ?_ | refine q5 hA ?_ | refine q6 hA ?_ | refine q7 hA ?_ | refine q8 hA ?_ | refine q9 hA ?_ | refine q0 hA ?_ | refine tru_of ?_) | exfalso); subst hA; subst_vars; simp only [AR.std, natCast_eq, sA, sB, sC, sD, reduceCtorEq] at *; (try simp (disch := omega) only [AR.std, natCast_eq, sA, sB, sC, sD, reduceCtorEq] at *); first | done | rfl | omega | exact ints_ok _ | exact ints_all _ | (apply ints_part <;> first | omega | rfl)) | skip
  refine ⟨_, fun _ => hmode P C, ?_⟩
  all_goals try cbv
  all_goals repeat' (first | with_reducible exact True.intro | with_reducible refine And.intro ?_ ?_ | intro _)
  all_goals try cbv
  all_goals repeat' (first | with_reducible exact True.intro | with_reducible refine And.intro ?_ ?_ | intro _)
  all_goals first | ((first | (with_reducible first | refine q1 hA ?_ | refine q2 hA ?_ | refine q3 hA ?_ | refine q4 hA ?_ | refine q5 hA ?_ | refine q6 hA ?_ | refine q7 hA ?_ | refine q8 hA ?_ | refine q9 hA ?_ | refine q0 hA ?_ | refine tru_of ?_) | exfalso); subst hA; subst_vars; simp only [AR.std, natCast_eq, sA, sB, sC, sD, reduceCtorEq] at *; (try simp (disch := omega) only [AR.std, natCast_eq, sA, sB, sC, sD, reduceCtorEq] at *); first | done | rfl | omega | exact ints_ok _ | exact ints_all _ | (apply ints_part <;> first | omega | rfl)) | skip
  · rename_i g
    exfalso
    subst hA
    revert g hno2
    cases okb <;> cases zb <;> cases lb <;> cases mb <;> intro hno2 g <;> first | exact hno2 rfl rfl rfl rfl | exact absurd g (by decide)

theorem implDyDiv_o_fn (C : Cx P gl) {l0 l1 : List Int} {p0 p1 : List PV} {s0 s1 : Bool} {e0 e1 n2 n3 : Int} {d : Dyadic} {u : Bool} {r : List PV} {g : Int} (hp0 : p0 = intsL l0) (hp1 : p1 = intsL l1) (ok : okDiv s0 l0 e0 s1 l1 e1 n2 n3) (hd : d = divD (dval s0 l0 e0) (dval s1 l1 e1) n2 n3) (fit : fits d) (n0 : d ≠ 0) (hr : r = intsL (dg (cZ d).natAbs)) (hu : u = decide (cZ d < 0)) (hg : g = cE d)
    (b0 : l0.length ≤ 2000000) (b1 : l1.length ≤ 2000000) :
    FN P gl 20 [.agg [B s0, .lst p0, I e0], .agg [B s1, .lst p1, I e1], I n2, I n3] (fun own rr => own = [.row 3 1 r] ∧ rr = .tup [.agg [.pv (B u), .own 0, .pv (I g)], .pv (B true)]) :=
  FN_of (implDyDiv_o_fx C hp0 hp1 ok hd fit n0 hr hu hg b0 b1) (by rintro _ _ ⟨rfl, rfl⟩; exact ⟨by simpa using closed_ints hr _ _, rfl⟩)

end Tryd
end Go.Proofs
