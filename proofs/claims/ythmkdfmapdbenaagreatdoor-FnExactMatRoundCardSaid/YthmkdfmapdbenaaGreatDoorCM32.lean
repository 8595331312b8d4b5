/- Contracts: MatRound in the program and in the reference. -/
import Derived.Test.YthmkdfmapdbenaaGreatDoorCM10
import Derived.Test.YthmkdfmapdbenaaGreatDoorCN32
import Derived.Test.YthmkdfmapdbenaaGreatDoorCEvD
import Derived.Test.YthmkdfmapdbenaaGreatDoorCM30
namespace Go.Proofs
open Go Go.Pe Go.Dg
namespace Tryz
set_option linter.unusedSimpArgs false
set_option linter.unusedVariables false
variable {P : Program} {gl : List (Nat × Obj)}

set_option maxRecDepth 100000 in
theorem l4modeR_fs (C : Cx P gl) {n : Int} {b : Bool} (hb : b = (decide (0 ≤ n) && decide (n ≤ 4))) : FS P gl 71 [I n] (· = B b) := by
  obtain ⟨rfl, hG⟩ := C
  refine FS_ofT (args := fun A => [I n]) (R := fun A rr => rr = B b) Tryz.hT Tryz.mix Tryz.func71 rfl rfl (Nat.le_of_ble_eq_true rfl) ?_
  generalize hP : Tryz.prog = P
  intro A hA
  have C : Tryz.Cx P gl := ⟨hP.symm, hG⟩
  have hI : intsL = A.ints := by subst hA; rfl
  iterate 2 (all_goals try cbv; all_goals repeat' (first | with_reducible exact True.intro | with_reducible refine And.intro ?_ ?_ | intro _))
  all_goals try exact pG
  rw [hb]
  subst hA
  show PV.val (.bool (bif decide (0 ≤ n) then decide (n ≤ 4) else false)) = _
  cases decide (0 ≤ n) <;> rfl

set_option maxHeartbeats 1000000 in
set_option maxRecDepth 100000 in
theorem l8round_fs (C : Cx P gl) {ys : List Cell3} {d : Nat → Dyadic} {p r : List PV} {n low m : Int} (hp : p = cells3 ys) (h1 : CL 3000 4600 d ys) (hf : ∀ k, k < ys.length → fits (d k)) (hlow : low.natAbs ≤ 3000) (hm0 : 0 ≤ m) (hm4 : m ≤ 4) (hn : 0 ≤ n) (hn4 : n ≤ 100)
    (hyl : (ys.length : Int) = n * n) (hr : r = cells3 (canL (fun k => roundD (d k) low m) ys.length)) :
    FS P gl 72 [.agg [I n, .lst p], I low, I m] (· = .agg [I n, .lst r]) := by
  have hnn : 0 ≤ n * n ∧ n * n ≤ 10000 := by
    have h3 : n * n ≤ 100 * n := Int.mul_le_mul_of_nonneg_right hn4 hn
    have h4 := Int.mul_nonneg hn hn
    omega
  have hyl2 : ys.length ≤ 10000 := by omega
  obtain ⟨u0, hu0⟩ : ∃ u, u = cells3 (List.replicate ys.length noY) := ⟨_, rfl⟩
  have hnew := fun (P' : Program) (C' : Cx P' gl) => l8new_fn C' hn hn4 (by rw [hu0, show ys.length = (n * n).toNat by omega] : u0 = cells3 (List.replicate (n * n).toNat noY))
  clear hyl hnn
  obtain ⟨rfl, hG⟩ := C
  refine FS_ofT (args := fun A => [.agg [I n, .lst p], I low, I m]) (R := fun A rr => rr = .agg [I n, .lst r]) Tryz.hT Tryz.mix Tryz.func72 rfl rfl (Nat.le_of_ble_eq_true rfl) ?_
  generalize hP : Tryz.prog = P
  intro A hA
  have C : Tryz.Cx P gl := ⟨hP.symm, hG⟩
  have hI : intsL = A.ints := by subst hA; rfl
  iterate 2 (all_goals try cbv; all_goals repeat' (first | with_reducible exact True.intro | with_reducible refine And.intro ?_ ?_ | intro _))
  all_goals try exact oG
  refine callN hA rfl (hnew P C) ?_; rintro _ _ ⟨rfl, rfl⟩; refine ⟨rfl, ?_⟩
  clear hnew
  iterate 2 (all_goals try cbv; all_goals repeat' (first | with_reducible exact True.intro | with_reducible refine And.intro ?_ ?_ | intro _))
  all_goals try exact oG
  refine loopI hA [] (ι := Int × List PV) (fun x => [(8, .pv (I x.1))]) (fun x => [(2, .row 41 3 x.2)]) (fun x => (ys.length - x.1).toNat) (fun x => 0 ≤ x.1 ∧ x.1 ≤ ys.length ∧ x.2 = cells3 (canL (fun k => roundD (d k) low m) x.1.toNat ++ List.replicate (ys.length - x.1.toNat) noY)) (0, u0) (by rfl) ?_ ?_ ?_
  all_goals try exact tG
  · exact ⟨Int.le_refl _, by omega, by rw [hu0]; rfl⟩
  rintro ⟨i, t⟩ ⟨hi0, hi1, ht⟩
  simp only at hi0 hi1 ht
  have htl : t.length = ys.length := by
    rw [ht, cells3_len, List.length_append, canL_len, List.length_replicate]; omega
  have hex : i.toNat = ys.length → t = r := by
    intro h
    rw [ht, hr, h, Nat.sub_self, List.replicate_zero, List.append_nil]
  have hstep : ∀ _ : Unit, i < ys.length → ∃ (s u ex : Bool) (e f : Int) (q rr : List PV), (ys.getD i.toNat noY).1 = s ∧ intsL (ys.getD i.toNat noY).2.1 = q ∧ (ys.getD i.toNat noY).2.2 = e ∧
      (∀ P', Cx P' gl → FS P' gl 123 [.agg [B s, .lst q, I e], I low, I m] (· = .tup [.agg [B u, .lst rr, I f], B ex])) ∧
      t.set i.toNat (.agg [B u, .lst rr, I f]) = cells3 (canL (fun k => roundD (d k) low m) (i.toNat + 1) ++ List.replicate (ys.length - (i.toNat + 1)) noY) := by
    intro _ h
    have hlt : i.toNat < ys.length := by omega
    obtain ⟨c1, _⟩ := h1 i.toNat hlt
    obtain ⟨f1, f2, f3⟩ := hf i.toNat hlt
    refine ⟨_, _, _, _, _, _, _, rfl, rfl, rfl, fun P' C' => l4round_fs C' (d := d i.toNat) (by rw [c1]; rfl) (by rw [c1]; rfl) (by rw [c1]; rfl) rfl rfl rfl rfl rfl hm0 hm4 (by rw [c1]; show (cE (d i.toNat)).natAbs ≤ _; omega) (by omega) (by omega), ?_⟩
    show t.set i.toNat (cell3 (canY (roundD (d i.toNat) low m))) = _
    rw [ht, c3set, canL_succ, List.append_assoc]
    congr 1
    rw [List.set_append_right _ _ (by rw [canL_len]; exact Nat.le_refl _), canL_len, Nat.sub_self, show ys.length - i.toNat = (ys.length - (i.toNat + 1)) + 1 by omega, List.replicate_succ]
    rfl
  clear h1 hf ht hr hu0
  iterate 2 (all_goals try cbv; all_goals repeat' (first | with_reducible exact True.intro | with_reducible refine And.intro ?_ ?_ | intro _))
  all_goals try exact oG
  · rename_i g
    have gi : i < ys.length := by clear hstep hex; (subst hA; subst_vars; simp only [AR.std, natCast_eq, sG, reduceCtorEq] at *; try simp (disch := omega) only [AR.std, natCast_eq, sG, reduceCtorEq] at *); omega
    have hlt : i.toNat < ys.length := by omega
    have hge1 : i + 1 ≤ ys.length := by omega
    obtain ⟨s, u, ex, e, f, q, rr, g1, g2, g3, g4, g5⟩ := hstep () gi
    have c1 : A.gb (A.el p (A.nat i)) 0 = s := by rw [← g1]; clear hstep hex g1 g2 g3 g4 g5; (subst hA; subst_vars; simp only [AR.std, natCast_eq, sG, reduceCtorEq] at *; try simp (disch := omega) only [AR.std, natCast_eq, sG, reduceCtorEq] at *)
    have c2 : A.gl (A.el p (A.nat i)) 1 = q := by rw [← g2]; clear hstep hex g1 g2 g3 g4 g5 c1; (subst hA; subst_vars; simp only [AR.std, natCast_eq, sG, reduceCtorEq] at *; try simp (disch := omega) only [AR.std, natCast_eq, sG, reduceCtorEq] at *)
    have c3 : A.gi (A.el p (A.nat i)) 2 = e := by rw [← g3]; clear hstep hex g1 g2 g3 g4 g5 c1 c2; (subst hA; subst_vars; simp only [AR.std, natCast_eq, sG, reduceCtorEq] at *; try simp (disch := omega) only [AR.std, natCast_eq, sG, reduceCtorEq] at *)
    obtain ⟨t9, ht9⟩ : ∃ t9, t9 = t.set i.toNat (.agg [B u, .lst rr, I f]) := ⟨_, rfl⟩
    have hst : A.set t (A.nat i) (.agg [B u, .lst rr, I f]) = t9 := by rw [ht9]; subst hA; rfl
    rw [← ht9] at g5
    clear hstep hex g1 g2 g3 g ht9
    iterate 2 (all_goals try cbv; all_goals repeat' (first | with_reducible exact True.intro | with_reducible refine And.intro ?_ ?_ | intro _))
    all_goals try exact oG
    simp only [c1, c2, c3]
    refine ⟨_, g4 P C, ?_⟩
    clear g4 c1 c2 c3
    iterate 2 (all_goals try cbv; all_goals repeat' (first | with_reducible exact True.intro | with_reducible refine And.intro ?_ ?_ | intro _))
    all_goals try exact oG
    simp only [hst]
    clear hst
    obtain ⟨y1, hy1⟩ : ∃ y, y = i + 1 := ⟨_, rfl⟩
    obtain ⟨y2, hy2⟩ : ∃ y, y = t9 := ⟨_, rfl⟩
    refine ⟨⟨(y1, y2), ?_⟩, ?_, ?_⟩
    rotate_left
    · cbv
      exact nG
    · (subst hA; subst_vars; simp only [AR.std, natCast_eq, sG, reduceCtorEq] at *; try simp (disch := omega) only [AR.std, natCast_eq, sG, reduceCtorEq] at *); omega
    · rw [hy1, hy2]
      refine ⟨by simp only; omega, hge1, ?_⟩
      simp only
      rw [show (i + 1).toNat = i.toNat + 1 by omega]; exact g5
  · rename_i g
    have e := hex (by clear hstep; (subst hA; subst_vars; simp only [AR.std, natCast_eq, sG, reduceCtorEq] at *; try simp (disch := omega) only [AR.std, natCast_eq, sG, reduceCtorEq] at *); omega)
    rw [e]

end Tryz
end Go.Proofs

namespace Go.Proofs
open Go Go.Pe Go.Dg
namespace Tryz
set_option linter.unusedSimpArgs false
set_option linter.unusedVariables false
variable {P : Program} {gl : List (Nat × Obj)}

theorem dyOk_val' {y : Cell3} (h : okY y) : fits (dval y.1 y.2.1 y.2.2) := by
  obtain ⟨_, h4, h5, h6⟩ := dyOk_val h
  exact ⟨h4, h5, h6⟩

set_option maxHeartbeats 2000000 in
set_option maxRecDepth 100000 in
theorem implMatRound_o_fx (C : Cx P gl) {ys : List Cell3} {p r : List PV} {n low m : Int} (hp : p = cells3 ys) (ok : matOk n ys ∧ (-3000 ≤ low ∧ low ≤ 3000) ∧ 0 ≤ m ∧ m ≤ 4) (fit : ∀ k, k < ys.length → fits ((fun k => roundD (dvY ys k) low m) k)) (hr : r = cells3 (canL (fun k => roundD (dvY ys k) low m) ys.length))
    (hl : ys.length ≤ 2000000) (hy : ∀ y ∈ ys, y.2.1.length ≤ 2000000) :
    FX P gl 33 [] [.pv (.agg [I n, .lst p]), .pv (I low), .pv (I m)] (fun own rr => own = [.tree 41 3 3 r] ∧ rr = .tup [.agg [.pv (I n), .own 0], .pv (B true)]) := by
  obtain ⟨ok1, ⟨ol1, ol2⟩, om1, om2⟩ := ok
  have am := fun (P' : Program) (C' : Cx P' gl) => implMatOk_fs C' (n := n) (b := true) hp ⟨fun _ => ok1, fun _ => rfl⟩ hl hy
  have hlow := fun (P' : Program) (C' : Cx P' gl) => isLow_fs C' (n := low) (b := true) (by rw [decide_eq_true ol1, decide_eq_true ol2]; rfl)
  have hmode := fun (P' : Program) (C' : Cx P' gl) => isMode_fs C' (n := m) (b := true) (by rw [decide_eq_true om1, decide_eq_true om2]; rfl)
  obtain ⟨n1, n4, hyl, hya⟩ := ok1
  have hyl2 := matLen n1 n4 hyl
  obtain ⟨ws, w1, w2, w3⟩ := gridRounded_ex (m := m) (allY_CL hya) (fun k hk => dyOk_val' (hya _ (getY_mem hk))) (low := low) (by omega) (by omega) n4 hyl
  have hlw : ws.length = ys.length := by omega
  obtain ⟨pw, hpw⟩ : ∃ pw, pw = cells3 ws := ⟨_, rfl⟩
  have gr := fun (P' : Program) (C' : Cx P' gl) => w3 P' gl p pw C' hp hpw
  have g1 := fun (P' : Program) (C' : Cx P' gl) => matGrid_fs C' (n := n) hp hl
  have mt := fun (P' : Program) (C' : Cx P' gl) => gridMat_fn C' (n := n) (r := r) hpw w2 (by omega) (by omega) (fun k hk => fit k (by omega)) (by rw [hr, hlw]) (by omega)
  clear w1 w2 w3 hya hyl hpw fit hr hp hy ol1 ol2 om1 om2
  obtain ⟨rfl, hG⟩ := C
  refine FX_ofC (own := fun A => []) (args := fun A => [.pv (.agg [I n, .lst p]), .pv (I low), .pv (I m)]) (R := fun A ow rr => ow = [.tree 41 3 3 r] ∧ rr = .tup [.agg [.pv (I n), .own 0], .pv (B true)]) Tryz.hT Tryz.mix Tryz.func33 rfl rfl (Nat.le_of_ble_eq_true rfl) ?_
  generalize hP : Tryz.prog = P
  intro A hA
  have C : Tryz.Cx P gl := ⟨hP.symm, hG⟩
  have hI : intsL = A.ints := by subst hA; rfl
  have q1 : A.bnot true = false := by subst hA; rfl
  have q2 : A.bnot false = true := by subst hA; rfl
  have q3 : ∀ x, A.pick false true x = x := fun x => by subst hA; cases x <;> rfl
  have q4 : ∀ x, A.pick true true x = true := fun x => by subst hA; cases x <;> rfl
  iterate 2 (all_goals try cbv; all_goals repeat' (first | with_reducible exact True.intro | with_reducible refine And.intro ?_ ?_ | intro _))
  all_goals try exact oG
  refine callS hA rfl (am P C) ?_; rintro _ rfl
  iterate 2 (all_goals try cbv; all_goals repeat' (first | with_reducible exact True.intro | with_reducible refine And.intro ?_ ?_ | intro _))
  all_goals try exact oG
  all_goals try simp only [q1, q2, q3, q4]
  refine ⟨_, fun _ => hlow P C, ?_⟩
  iterate 2 (all_goals try cbv; all_goals repeat' (first | with_reducible exact True.intro | with_reducible refine And.intro ?_ ?_ | intro _))
  all_goals try exact oG
  all_goals try simp only [q1, q2, q3, q4]
  refine ⟨_, fun _ => hmode P C, ?_⟩
  iterate 2 (all_goals try cbv; all_goals repeat' (first | with_reducible exact True.intro | with_reducible refine And.intro ?_ ?_ | intro _))
  all_goals try exact oG
  all_goals try simp only [q1, q2, q3, q4]
  refine callS hA rfl (g1 P C) ?_; rintro _ rfl
  iterate 2 (all_goals try cbv; all_goals repeat' (first | with_reducible exact True.intro | with_reducible refine And.intro ?_ ?_ | intro _))
  all_goals try exact oG
  refine callS hA rfl (gr P C) ?_; rintro _ rfl
  iterate 2 (all_goals try cbv; all_goals repeat' (first | with_reducible exact True.intro | with_reducible refine And.intro ?_ ?_ | intro _))
  all_goals try exact oG
  refine callN hA rfl (mt P C) ?_; rintro _ _ ⟨rfl, rfl⟩; refine ⟨rfl, ?_⟩
  iterate 2 (all_goals try cbv; all_goals repeat' (first | with_reducible exact True.intro | with_reducible refine And.intro ?_ ?_ | intro _))
  all_goals try exact oG
  subst hA
  exact ⟨[2], _, _, by decide, Nat.zero_le _, rfl, rfl, rfl, rfl, rfl, rfl⟩

theorem implMatRound_o_fn (C : Cx P gl) {ys : List Cell3} {p r : List PV} {n low m : Int} (hp : p = cells3 ys) (ok : matOk n ys ∧ (-3000 ≤ low ∧ low ≤ 3000) ∧ 0 ≤ m ∧ m ≤ 4) (fit : ∀ k, k < ys.length → fits ((fun k => roundD (dvY ys k) low m) k)) (hr : r = cells3 (canL (fun k => roundD (dvY ys k) low m) ys.length))
    (hl : ys.length ≤ 2000000) (hy : ∀ y ∈ ys, y.2.1.length ≤ 2000000) :
    FN P gl 33 [.agg [I n, .lst p], I low, I m] (fun own rr => own = [.tree 41 3 3 r] ∧ rr = .tup [.agg [.pv (I n), .own 0], .pv (B true)]) :=
  FN_of (implMatRound_o_fx C hp ok fit hr hl hy) (by rintro _ _ ⟨rfl, rfl⟩; exact ⟨by simp [closedB], rfl⟩)

set_option maxHeartbeats 2000000 in
set_option maxRecDepth 100000 in
theorem implMatRound_X_fs (C : Cx P gl) {ys : List Cell3} {p : List PV} {n low m : Int} (hp : p = cells3 ys) (ok : matOk n ys ∧ (-3000 ≤ low ∧ low ≤ 3000) ∧ 0 ≤ m ∧ m ≤ 4) (fit : ¬∀ k, k < ys.length → fits ((fun k => roundD (dvY ys k) low m) k))
    (hl : ys.length ≤ 2000000) (hy : ∀ y ∈ ys, y.2.1.length ≤ 2000000) :
    FS P gl 33 [.agg [I n, .lst p], I low, I m] (· = .tup [.agg [I 0, .lst []], B false]) := by
  obtain ⟨ok1, ⟨ol1, ol2⟩, om1, om2⟩ := ok
  have am := fun (P' : Program) (C' : Cx P' gl) => implMatOk_fs C' (n := n) (b := true) hp ⟨fun _ => ok1, fun _ => rfl⟩ hl hy
  have hlow := fun (P' : Program) (C' : Cx P' gl) => isLow_fs C' (n := low) (b := true) (by rw [decide_eq_true ol1, decide_eq_true ol2]; rfl)
  have hmode := fun (P' : Program) (C' : Cx P' gl) => isMode_fs C' (n := m) (b := true) (by rw [decide_eq_true om1, decide_eq_true om2]; rfl)
  obtain ⟨n1, n4, hyl, hya⟩ := ok1
  have hyl2 := matLen n1 n4 hyl
  obtain ⟨ws, w1, w2, w3⟩ := gridRounded_ex (m := m) (allY_CL hya) (fun k hk => dyOk_val' (hya _ (getY_mem hk))) (low := low) (by omega) (by omega) n4 hyl
  have hlw : ws.length = ys.length := by omega
  obtain ⟨pw, hpw⟩ : ∃ pw, pw = cells3 ws := ⟨_, rfl⟩
  have gr := fun (P' : Program) (C' : Cx P' gl) => w3 P' gl p pw C' hp hpw
  have g1 := fun (P' : Program) (C' : Cx P' gl) => matGrid_fs C' (n := n) hp hl
  have mt := fun (P' : Program) (C' : Cx P' gl) => gridMat_fs C' (n := n) hpw w2 (by omega) (by omega) (fun h => fit (fun k hk => h k (by omega))) (by omega)
  clear w1 w2 w3 hya hyl hpw fit hp hy ol1 ol2 om1 om2
  obtain ⟨rfl, hG⟩ := C
  refine FS_ofC (args := fun A => [.agg [I n, .lst p], I low, I m]) (R := fun A rr => rr = .tup [.agg [I 0, .lst []], B false]) Tryz.hT Tryz.mix Tryz.func33 rfl rfl (Nat.le_of_ble_eq_true rfl) ?_
  generalize hP : Tryz.prog = P
  intro A hA
  have C : Tryz.Cx P gl := ⟨hP.symm, hG⟩
  have hI : intsL = A.ints := by subst hA; rfl
  have q1 : A.bnot true = false := by subst hA; rfl
  have q2 : A.bnot false = true := by subst hA; rfl
  have q3 : ∀ x, A.pick false true x = x := fun x => by subst hA; cases x <;> rfl
  have q4 : ∀ x, A.pick true true x = true := fun x => by subst hA; cases x <;> rfl
  iterate 2 (all_goals try cbv; all_goals repeat' (first | with_reducible exact True.intro | with_reducible refine And.intro ?_ ?_ | intro _))
  all_goals try exact oG
  refine callS hA rfl (am P C) ?_; rintro _ rfl
  iterate 2 (all_goals try cbv; all_goals repeat' (first | with_reducible exact True.intro | with_reducible refine And.intro ?_ ?_ | intro _))
  all_goals try exact oG
  all_goals try simp only [q1, q2, q3, q4]
  refine ⟨_, fun _ => hlow P C, ?_⟩
  iterate 2 (all_goals try cbv; all_goals repeat' (first | with_reducible exact True.intro | with_reducible refine And.intro ?_ ?_ | intro _))
  all_goals try exact oG
  all_goals try simp only [q1, q2, q3, q4]
  refine ⟨_, fun _ => hmode P C, ?_⟩
  iterate 2 (all_goals try cbv; all_goals repeat' (first | with_reducible exact True.intro | with_reducible refine And.intro ?_ ?_ | intro _))
  all_goals try exact oG
  all_goals try simp only [q1, q2, q3, q4]
  refine callS hA rfl (g1 P C) ?_; rintro _ rfl
  iterate 2 (all_goals try cbv; all_goals repeat' (first | with_reducible exact True.intro | with_reducible refine And.intro ?_ ?_ | intro _))
  all_goals try exact oG
  refine callS hA rfl (gr P C) ?_; rintro _ rfl
  iterate 2 (all_goals try cbv; all_goals repeat' (first | with_reducible exact True.intro | with_reducible refine And.intro ?_ ?_ | intro _))
  all_goals try exact oG
  refine callS hA rfl (mt P C) ?_; rintro _ rfl
  iterate 2 (all_goals try cbv; all_goals repeat' (first | with_reducible exact True.intro | with_reducible refine And.intro ?_ ?_ | intro _))
  all_goals try exact oG

set_option maxHeartbeats 2000000 in
set_option maxRecDepth 100000 in
theorem implMatRound_N_fs (C : Cx P gl) {ys : List Cell3} {p : List PV} {n low m : Int} (hp : p = cells3 ys) (ok : ¬(matOk n ys ∧ (-3000 ≤ low ∧ low ≤ 3000) ∧ 0 ≤ m ∧ m ≤ 4))
    (hl : ys.length ≤ 2000000) (hy : ∀ y ∈ ys, y.2.1.length ≤ 2000000) :
    FS P gl 33 [.agg [I n, .lst p], I low, I m] (· = .tup [.agg [I 0, .lst []], B false]) := by
  obtain ⟨b, hb⟩ := bool_of (matOk n ys)
  have am := fun (P' : Program) (C' : Cx P' gl) => implMatOk_fs C' (n := n) (b := b) hp hb hl hy
  obtain ⟨lb, hlb⟩ : ∃ lb, lb = (decide (-3000 ≤ low) && decide (low ≤ 3000)) := ⟨_, rfl⟩
  have hlow := fun (P' : Program) (C' : Cx P' gl) => isLow_fs C' hlb
  obtain ⟨mb, hmb⟩ : ∃ mb, mb = (decide (0 ≤ m) && decide (m ≤ 4)) := ⟨_, rfl⟩
  have hmode := fun (P' : Program) (C' : Cx P' gl) => isMode_fs C' hmb
  have hno : b = true → lb = true → mb = true → False := by
    intro h1 h2 h3
    rw [hlb, Bool.and_eq_true, decide_eq_true_eq, decide_eq_true_eq] at h2
    rw [hmb, Bool.and_eq_true, decide_eq_true_eq, decide_eq_true_eq] at h3
    exact ok ⟨hb.1 h1, h2, h3⟩
  clear ok hp hy hb hlb hmb
  obtain ⟨rfl, hG⟩ := C
  refine FS_ofC (args := fun A => [.agg [I n, .lst p], I low, I m]) (R := fun A rr => rr = .tup [.agg [I 0, .lst []], B false]) Tryz.hT Tryz.mix Tryz.func33 rfl rfl (Nat.le_of_ble_eq_true rfl) ?_
  generalize hP : Tryz.prog = P
  intro A hA
  have C : Tryz.Cx P gl := ⟨hP.symm, hG⟩
  have hI : intsL = A.ints := by subst hA; rfl
  have q1 : A.bnot true = false := by subst hA; rfl
  have q2 : A.bnot false = true := by subst hA; rfl
  have q3 : ∀ x, A.pick false true x = x := fun x => by subst hA; cases x <;> rfl
  have q4 : ∀ x, A.pick true true x = true := fun x => by subst hA; cases x <;> rfl
  iterate 2 (all_goals try cbv; all_goals repeat' (first | with_reducible exact True.intro | with_reducible refine And.intro ?_ ?_ | intro _))
  all_goals try exact oG
  refine callS hA rfl (am P C) ?_; rintro _ rfl
  iterate 2 (all_goals try cbv; all_goals repeat' (first | with_reducible exact True.intro | with_reducible refine And.intro ?_ ?_ | intro _))
  all_goals try exact oG
  refine ⟨_, fun _ => hlow P C, ?_⟩
  iterate 2 (all_goals try cbv; all_goals repeat' (first | with_reducible exact True.intro | with_reducible refine And.intro ?_ ?_ | intro _))
  all_goals try exact oG
  refine ⟨_, fun _ => hmode P C, ?_⟩
  iterate 2 (all_goals try cbv; all_goals repeat' (first | with_reducible exact True.intro | with_reducible refine And.intro ?_ ?_ | intro _))
  all_goals try exact oG
  · rename_i g
    exfalso
    subst hA
    revert g hno
    cases b <;> cases lb <;> cases mb <;> intro hno g <;> first | exact hno rfl rfl rfl | exact absurd g (by decide)

set_option maxHeartbeats 2000000 in
set_option maxRecDepth 100000 in
theorem specMatRound_fs (C : Cx P gl) {ys : List Cell3} {p r : List PV} {n n' low m : Int} {w : Bool} (hp : p = cells3 ys) (hw : w = true ↔ (matOk n ys ∧ (-3000 ≤ low ∧ low ≤ 3000) ∧ 0 ≤ m ∧ m ≤ 4) ∧ ∀ k, k < ys.length → fits ((fun k => roundD (dvY ys k) low m) k))
    (h1 : w = true → r = cells3 (canL (fun k => roundD (dvY ys k) low m) ys.length) ∧ n' = n) (h2 : w = false → r = [] ∧ n' = 0)
    (hl : ys.length ≤ 2000000) (hy : ∀ y ∈ ys, y.2.1.length ≤ 2000000) :
    FS P gl 32 [.agg [I n, .lst p], I low, I m] (· = .tup [.agg [I n', .lst r], B w]) := by
  obtain ⟨b, hb⟩ := bool_of (matOk n ys)
  have am := fun (P' : Program) (C' : Cx P' gl) => specMatOk_fs C' (n := n) (b := b) hp hb hl hy
  obtain ⟨mb, hmb⟩ : ∃ mb, mb = (decide (0 ≤ m) && decide (m ≤ 4)) := ⟨_, rfl⟩
  have hmode := fun (P' : Program) (C' : Cx P' gl) => l4modeR_fs C' hmb
  obtain ⟨lb, hlb⟩ : ∃ lb, lb = decide (low < -3000) := ⟨_, rfl⟩
  obtain ⟨lc, hlc⟩ : ∃ lc, lc = decide (3000 < low) := ⟨_, rfl⟩
  have hok : (matOk n ys ∧ (-3000 ≤ low ∧ low ≤ 3000) ∧ 0 ≤ m ∧ m ≤ 4) ↔ (b = true ∧ lb = false ∧ lc = false ∧ mb = true) := by
    rw [hb, hlb, hlc, hmb, Bool.and_eq_true, decide_eq_true_eq, decide_eq_true_eq, decide_eq_false_iff_not, decide_eq_false_iff_not]
    constructor
    · rintro ⟨a, ⟨c, d⟩, e, f⟩
      exact ⟨a, by omega, by omega, e, f⟩
    · rintro ⟨a, c, d, e, f⟩
      exact ⟨a, ⟨by omega, by omega⟩, e, f⟩
  by_cases ok : matOk n ys ∧ (-3000 ≤ low ∧ low ≤ 3000) ∧ 0 ≤ m ∧ m ≤ 4
  · obtain ⟨rfl, rfl, rfl, rfl⟩ := hok.1 ok
    obtain ⟨ok1, ⟨ol1, ol2⟩, om1, om2⟩ := id ok
    obtain ⟨n1, n4, hyl, hya⟩ := ok1
    have hyl2 := matLen n1 n4 hyl
    have hfy : ∀ k, k < ys.length → fits (dvY ys k) := fun k hk => dyOk_val' (hya _ (getY_mem hk))
    obtain ⟨pw, hpw⟩ : ∃ pw, pw = cells3 (canL (fun k => roundD (dvY ys k) low m) ys.length) := ⟨_, rfl⟩
    have ad := fun (P' : Program) (C' : Cx P' gl) => l8round_fs C' (n := n) (low := low) (m := m) (r := pw) hp (allY_CL hya) hfy (by omega) om1 om2 (by omega) (by omega) hyl hpw
    have hwm : w = true ↔ matOk n (canL (fun k => roundD (dvY ys k) low m) ys.length) := by
      constructor
      · intro h
        exact ⟨n1, n4, by rw [canL_len]; exact hyl, canL_ok.2 (hw.1 h).2⟩
      · intro h
        exact hw.2 ⟨ok, canL_ok.1 h.2.2.2⟩
    have ft := fun (P' : Program) (C' : Cx P' gl) => l8fits_fs C' (n := n) (n' := n') (q := r) (b := w) (L := 100000) hpw (canL_W fun k hk => by
      obtain ⟨f1, f2, f3⟩ := hfy k hk
      obtain ⟨y, ex, g1, _⟩ := xRounded (d := dvY ys k) (low := low) (m := m) (L := 102) (E := 3000) (by omega) (by omega) (by omega) (by omega) (by omega) (by omega)
      have := X_can g1
      omega) (by omega) (by rw [canL_len]; omega) hwm (fun h => by rw [hpw]; exact h1 h) h2
    clear h1 h2 hw hb hp hy hwm hpw hya hyl hok hmb ok hfy
    obtain ⟨rfl, hG⟩ := C
    refine FS_ofC (args := fun A => [.agg [I n, .lst p], I low, I m]) (R := fun A rr => rr = .tup [.agg [I n', .lst r], B w]) Tryz.hT Tryz.mix Tryz.func32 rfl rfl (Nat.le_of_ble_eq_true rfl) ?_
    generalize hP : Tryz.prog = P
    intro A hA
    have C : Tryz.Cx P gl := ⟨hP.symm, hG⟩
    have hI : intsL = A.ints := by subst hA; rfl
    have q5 : A.lt low (-3000) = false := by rw [hlb]; subst hA; rfl
    have q6 : A.lt 3000 low = false := by rw [hlc]; subst hA; rfl
    clear hlb hlc
    iterate 2 (all_goals try cbv; all_goals repeat' (first | with_reducible exact True.intro | with_reducible refine And.intro ?_ ?_ | intro _))
    all_goals try exact oG
    refine callS hA rfl (am P C) ?_; rintro _ rfl
    iterate 2 (all_goals try cbv; all_goals repeat' (first | with_reducible exact True.intro | with_reducible refine And.intro ?_ ?_ | intro _))
    all_goals try exact oG
    all_goals try simp only [q5, q6]
    iterate 2 (all_goals try cbv; all_goals repeat' (first | with_reducible exact True.intro | with_reducible refine And.intro ?_ ?_ | intro _))
    all_goals try exact oG
    all_goals try simp only [q5, q6]
    iterate 2 (all_goals try cbv; all_goals repeat' (first | with_reducible exact True.intro | with_reducible refine And.intro ?_ ?_ | intro _))
    all_goals try exact oG
    all_goals try (refine ⟨_, fun _ => hmode P C, ?_⟩)
    iterate 2 (all_goals try cbv; all_goals repeat' (first | with_reducible exact True.intro | with_reducible refine And.intro ?_ ?_ | intro _))
    all_goals try exact oG
    refine callS hA rfl (ad P C) ?_; rintro _ rfl
    iterate 2 (all_goals try cbv; all_goals repeat' (first | with_reducible exact True.intro | with_reducible refine And.intro ?_ ?_ | intro _))
    all_goals try exact oG
    refine callS hA rfl (ft P C) ?_; rintro _ rfl
    iterate 2 (all_goals try cbv; all_goals repeat' (first | with_reducible exact True.intro | with_reducible refine And.intro ?_ ?_ | intro _))
    all_goals try exact oG
  · have hwf : w = false := by
      cases hwc : w with
      | false => rfl
      | true => exact absurd (hw.1 hwc).1 ok
    obtain ⟨e1, e2⟩ := h2 hwf
    have hno : b = true → lb = false → lc = false → mb = true → False := fun h1 h2 h3 h4 => ok (hok.2 ⟨h1, h2, h3, h4⟩)
    clear h1 h2 hw hb hp hy hok ok hmb
    rw [e1, e2, hwf]
    clear e1 e2 hwf
    obtain ⟨rfl, hG⟩ := C
    refine FS_ofC (args := fun A => [.agg [I n, .lst p], I low, I m]) (R := fun A rr => rr = .tup [.agg [I 0, .lst []], B false]) Tryz.hT Tryz.mix Tryz.func32 rfl rfl (Nat.le_of_ble_eq_true rfl) ?_
    generalize hP : Tryz.prog = P
    intro A hA
    have C : Tryz.Cx P gl := ⟨hP.symm, hG⟩
    have hI : intsL = A.ints := by subst hA; rfl
    have q5 : A.lt low (-3000) = lb := by rw [hlb]; subst hA; rfl
    have q6 : A.lt 3000 low = lc := by rw [hlc]; subst hA; rfl
    clear hlb hlc
    iterate 2 (all_goals try cbv; all_goals repeat' (first | with_reducible exact True.intro | with_reducible refine And.intro ?_ ?_ | intro _))
    all_goals try exact oG
    refine callS hA rfl (am P C) ?_; rintro _ rfl
    iterate 2 (all_goals try cbv; all_goals repeat' (first | with_reducible exact True.intro | with_reducible refine And.intro ?_ ?_ | intro _))
    all_goals try exact oG
    all_goals try simp only [q5, q6]
    all_goals try (refine ⟨_, fun _ => hmode P C, ?_⟩)
    iterate 2 (all_goals try cbv; all_goals repeat' (first | with_reducible exact True.intro | with_reducible refine And.intro ?_ ?_ | intro _))
    all_goals try exact oG
    all_goals try simp only [q5, q6]
    all_goals try (refine ⟨_, fun _ => hmode P C, ?_⟩)
    iterate 2 (all_goals try cbv; all_goals repeat' (first | with_reducible exact True.intro | with_reducible refine And.intro ?_ ?_ | intro _))
    all_goals try exact oG
    all_goals (
      exfalso
      clear am hmode hI q5 q6
      subst hA
      simp only [AR.std] at *
      revert hno
      cases b <;> cases lb <;> cases lc <;> cases mb <;> simp_all)

end Tryz
end Go.Proofs

