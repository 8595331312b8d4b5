/- Contracts: MatPow in the reference. -/
import Derived.Test.YthmkdfmapdbenaaGreatDoorEM52
import Derived.Test.YthmkdfmapdbenaaGreatDoorEM14
import Derived.Test.YthmkdfmapdbenaaGreatDoorEM7
import Derived.Test.YthmkdfmapdbenaaGreatDoorEM37
import Derived.Test.YthmkdfmapdbenaaGreatDoorEM16
import Derived.Test.YthmkdfmapdbenaaGreatDoorEPeTe
namespace Go.Proofs
open Go Go.Pe Go.Dg
namespace Tryz
set_option linter.unusedSimpArgs false
set_option linter.unusedVariables false
variable {P : Program} {gl : List (Nat × Obj)}

/-- a matrix whose power can be asked for -/
def powOk (n : Int) (ys : List Cell3) (k : Int) : Prop := matOk n ys ∧ 0 ≤ k ∧ k ≤ 30

/-- a step towards a power: what is called -/
theorem powStep {ys : List Cell3} {n : Int} (n1 : 1 ≤ n) (hn4 : n ≤ 4) (hyl : (ys.length : Int) = n * n) (hya : allY ys) {dd : Nat → Dyadic} (hf : ∀ k, k < ys.length → fits (dd k)) {gl : List (Nat × Obj)} :
    ∃ (xs : List Cell3), xs.length = ys.length ∧ XL (mulD n dd (dvY ys)) 24308 6000 xs ∧
      ∀ (P : Program) (p q r : List PV), Cx P gl → p = cells3 (canL dd ys.length) → q = cells3 ys → r = cells3 xs → FS P gl 58 [.agg [I n, .lst p], .agg [I n, .lst q]] (· = .agg [I n, .lst r]) := by
  obtain ⟨ws, w1, w2, w3⟩ := gridTimes_ex (n := n) (canL_XL hf) (allY_XL hya) (by omega) (by omega) (by omega) hn4 (by rw [canL_len]; exact hyl) hyl
  exact ⟨ws, by omega, w2.mono (by omega) (by omega), fun P p q r C h1 h2 h3 => w3 P gl p q r C h1 h2 h3⟩

set_option maxHeartbeats 2000000 in
set_option maxRecDepth 100000 in
theorem implMatPow_o_fx (C : Cx P gl) {ys : List Cell3} {p r : List PV} {n k : Int} (hp : p = cells3 ys) (ok : powOk n ys k) (fit : ∀ j, j ≤ k.toNat → ∀ a, a < ys.length → fits (powD n (dvY ys) j a)) (hr : r = cells3 (canL (powD n (dvY ys) k.toNat) ys.length))
    (hl : ys.length ≤ 2000000) (hy : ∀ y ∈ ys, y.2.1.length ≤ 2000000) :
    FX P gl 35 [] [.pv (.agg [I n, .lst p]), .pv (I k)] (fun own rr => own = [.tree 41 3 3 r] ∧ rr = .tup [.agg [.pv (I n), .own 0], .pv (B true)]) := by
  obtain ⟨ok1, k0, k30⟩ := ok
  have am := fun (P' : Program) (C' : Cx P' gl) => implMatOk_fs C' (n := n) (b := true) hp ⟨fun _ => ok1, fun _ => rfl⟩ hl hy
  have wi := fun (P' : Program) (C' : Cx P' gl) => within_fs C' (n := k) (l := 0) (h := 30) (b := true) (by rw [decide_eq_true k0, decide_eq_true k30]; rfl)
  obtain ⟨n1, n4, hyl, hya⟩ := ok1
  have hyl2 := matLen n1 n4 hyl
  obtain ⟨ws, w1, w2, w3⟩ := identity_ex (n := n) (by omega) n4
  obtain ⟨pw, hpw⟩ : ∃ pw, pw = cells3 ws := ⟨_, rfl⟩
  obtain ⟨q0, hq0⟩ : ∃ q0, q0 = cells3 (canL (powD n (dvY ys) (0 : Int).toNat) ys.length) := ⟨_, rfl⟩
  have gi := fun (P' : Program) (C' : Cx P' gl) => w3 P' gl pw C' hpw
  have hlw : ws.length = ys.length := by omega
  have mt := fun (P' : Program) (C' : Cx P' gl) => gridMat_fn C' (n := n) (r := q0) hpw w2 (by omega) (by omega) (fun a _ => fits_id _ _) (by rw [hq0, hlw]; rfl) (by omega)
  have g2 := fun (P' : Program) (C' : Cx P' gl) => matGrid_fs C' (n := n) hp hl
  have hstep : ∀ (i : Int) (q : List PV), 0 ≤ i → i < k → q = cells3 (canL (powD n (dvY ys) i.toNat) ys.length) → ∃ (x q2 : List PV), (∀ P', Cx P' gl → FS P' gl 53 [.agg [I n, .lst q]] (· = .agg [I n, .lst q])) ∧
      (∀ P', Cx P' gl → FS P' gl 58 [.agg [I n, .lst q], .agg [I n, .lst p]] (· = .agg [I n, .lst x])) ∧
      (∀ P', Cx P' gl → FN P' gl 55 [.agg [I n, .lst x]] (fun own rr => own = [.tree 41 3 3 q2] ∧ rr = .tup [.agg [.pv (I n), .own 0], .pv (B true)])) ∧ q2 = cells3 (canL (powD n (dvY ys) (i + 1).toNat) ys.length) := by
    intro i q h1 h2 hq
    obtain ⟨xs, x1, x2, x3⟩ := powStep (gl := gl) n1 n4 hyl hya (fit i.toNat (by omega))
    refine ⟨cells3 xs, _, fun P' C' => matGrid_fs C' hq (by rw [canL_len]; omega), fun P' C' => x3 P' _ _ _ C' hq hp rfl, fun P' C' => gridMat_fn C' rfl x2 (by omega) (by omega) (fun a ha => ?_) (by rw [x1]) (by omega), ?_⟩
    · exact fit (i.toNat + 1) (by omega) a (by omega)
    · rw [show (i + 1).toNat = i.toNat + 1 by omega]; rfl
  have hend : ∀ q : List PV, q = cells3 (canL (powD n (dvY ys) k.toNat) ys.length) → q = r := fun q h => by rw [h, hr]
  clear w1 w2 w3 hya hyl hpw fit hr hp hy hlw hyl2
  obtain ⟨rfl, hG⟩ := C
  refine FX_ofM (own := fun A => []) (args := fun A => [.pv (.agg [I n, .lst p]), .pv (I k)]) (R := fun A ow rr => ow = [.tree 41 3 3 r] ∧ rr = .tup [.agg [.pv (I n), .own 0], .pv (B true)]) Tryz.hT Tryz.mix Tryz.func35 rfl rfl (Nat.le_of_ble_eq_true rfl) ?_
  generalize hP : Tryz.prog = P
  intro A hA
  have C : Tryz.Cx P gl := ⟨hP.symm, hG⟩
  have hI : intsL = A.ints := by subst hA; rfl
  have q1 : A.bnot true = false := by subst hA; rfl
  have q2 : A.bnot false = true := by subst hA; rfl
  have q3 : ∀ x, A.pick false true x = x := fun x => by subst hA; cases x <;> rfl
  have q4 : ∀ x, A.pick true true x = true := fun x => by subst hA; cases x <;> rfl
  iterate 2 (all_goals try cbv; all_goals repeat' (first | with_reducible exact True.intro | with_reducible refine And.intro ?_ ?_ | intro _))
  all_goals try exact oG
  refine callS hA rfl (am P C) ?_; rintro _ rfl
  iterate 2 (all_goals try cbv; all_goals repeat' (first | with_reducible exact True.intro | with_reducible refine And.intro ?_ ?_ | intro _))
  all_goals try exact oG
  all_goals try simp only [q1, q2, q3, q4]
  refine ⟨_, fun _ => wi P C, ?_⟩
  iterate 2 (all_goals try cbv; all_goals repeat' (first | with_reducible exact True.intro | with_reducible refine And.intro ?_ ?_ | intro _))
  all_goals try exact oG
  all_goals try simp only [q1, q2, q3, q4]
  clear am wi
  refine callS hA rfl (gi P C) ?_; rintro _ rfl
  iterate 2 (all_goals try cbv; all_goals repeat' (first | with_reducible exact True.intro | with_reducible refine And.intro ?_ ?_ | intro _))
  all_goals try exact oG
  refine callN hA rfl (mt P C) ?_; rintro _ _ ⟨rfl, rfl⟩; refine ⟨rfl, ?_⟩
  clear gi mt
  iterate 2 (all_goals try cbv; all_goals repeat' (first | with_reducible exact True.intro | with_reducible refine And.intro ?_ ?_ | intro _))
  all_goals try exact oG
  refine loopR hA [] [(2, 4)] (ι := Int × List PV) (fun x => [(8, .pv (I x.1)), (7, .pv (B true))]) (fun x => [(2, .tree 41 3 3 x.2)]) (fun x => (k - x.1).toNat) (fun x => 0 ≤ x.1 ∧ x.1 ≤ k ∧ x.2 = cells3 (canL (powD n (dvY ys) x.1.toNat) ys.length)) (0, q0) (by rfl) ?_ ?_ ?_ ?_
  all_goals try exact tG
  · trivial
  · exact ⟨Int.le_refl _, k0, hq0⟩
  rintro ⟨i, q⟩ ⟨hi0, hi1, hq⟩
  simp only at hi0 hi1 hq
  have hout : ∀ _ : Unit, i = k → q = r := by
    intro _ h
    rw [h] at hq
    exact hend q hq
  have hs : ∀ _ : Unit, i < k → _ := fun _ h => hstep i q hi0 h hq
  clear hq hstep hend hq0
  iterate 2 (all_goals try cbv; all_goals repeat' (first | with_reducible exact True.intro | with_reducible refine And.intro ?_ ?_ | intro _))
  all_goals try exact oG
  iterate 2 (all_goals try cbv; all_goals repeat' (first | with_reducible exact True.intro | with_reducible refine And.intro ?_ ?_ | intro _))
  all_goals try exact oG
  · rename_i g
    have gi : i < k := by clear hs hout g2; (subst hA; subst_vars; simp only [AR.std, natCast_eq, sG, reduceCtorEq] at *; try simp (disch := omega) only [AR.std, natCast_eq, sG, reduceCtorEq] at *); omega
    obtain ⟨x, q2, c1, c2, c3, c4⟩ := hs () gi
    have hi2 : i + 1 ≤ k := by omega
    clear hs hout g
    refine ⟨_, c1 P C, ?_⟩
    iterate 2 (all_goals try cbv; all_goals repeat' (first | with_reducible exact True.intro | with_reducible refine And.intro ?_ ?_ | intro _))
    all_goals try exact oG
    refine callS hA rfl (g2 P C) ?_; rintro _ rfl
    iterate 2 (all_goals try cbv; all_goals repeat' (first | with_reducible exact True.intro | with_reducible refine And.intro ?_ ?_ | intro _))
    all_goals try exact oG
    refine callS hA rfl (c2 P C) ?_; rintro _ rfl
    iterate 2 (all_goals try cbv; all_goals repeat' (first | with_reducible exact True.intro | with_reducible refine And.intro ?_ ?_ | intro _))
    all_goals try exact oG
    refine callN hA rfl (c3 P C) ?_; rintro _ _ ⟨rfl, rfl⟩; refine ⟨rfl, ?_⟩
    clear c1 c2 c3 g2
    iterate 2 (all_goals try cbv; all_goals repeat' (first | with_reducible exact True.intro | with_reducible refine And.intro ?_ ?_ | intro _))
    all_goals try exact oG
    obtain ⟨y1, hy1⟩ : ∃ y, y = i + 1 := ⟨_, rfl⟩
    obtain ⟨y2, hy2⟩ : ∃ y, y = q2 := ⟨_, rfl⟩
    refine ⟨⟨(y1, y2), ?_⟩, ?_, ?_⟩
    rotate_left
    · cbv
      exact nG
    · (subst hA; subst_vars; simp only [AR.std, natCast_eq, sG, reduceCtorEq] at *; try simp (disch := omega) only [AR.std, natCast_eq, sG, reduceCtorEq] at *); omega
    · rw [hy1, hy2]
      exact ⟨by simp only; omega, hi2, c4⟩
  · rename_i g
    have e := hout () (by clear hs hout g2; (subst hA; subst_vars; simp only [AR.std, natCast_eq, sG, reduceCtorEq] at *; try simp (disch := omega) only [AR.std, natCast_eq, sG, reduceCtorEq] at *); omega)
    subst e
    clear hs hout g2
    subst hA
    exact ⟨[2], _, _, by decide, Nat.zero_le _, rfl, rfl, rfl, rfl, rfl, rfl⟩

theorem implMatPow_o_fn (C : Cx P gl) {ys : List Cell3} {p r : List PV} {n k : Int} (hp : p = cells3 ys) (ok : powOk n ys k) (fit : ∀ j, j ≤ k.toNat → ∀ a, a < ys.length → fits (powD n (dvY ys) j a)) (hr : r = cells3 (canL (powD n (dvY ys) k.toNat) ys.length))
    (hl : ys.length ≤ 2000000) (hy : ∀ y ∈ ys, y.2.1.length ≤ 2000000) :
    FN P gl 35 [.agg [I n, .lst p], I k] (fun own rr => own = [.tree 41 3 3 r] ∧ rr = .tup [.agg [.pv (I n), .own 0], .pv (B true)]) :=
  FN_of (implMatPow_o_fx C hp ok fit hr hl hy) (by rintro _ _ ⟨rfl, rfl⟩; exact ⟨by simp [closedB], rfl⟩)

set_option maxHeartbeats 2000000 in
set_option maxRecDepth 100000 in
theorem implMatPow_X_fs (C : Cx P gl) {ys : List Cell3} {p : List PV} {n k : Int} (hp : p = cells3 ys) (ok : powOk n ys k) (fit : ¬∀ j, j ≤ k.toNat → ∀ a, a < ys.length → fits (powD n (dvY ys) j a))
    (hl : ys.length ≤ 2000000) (hy : ∀ y ∈ ys, y.2.1.length ≤ 2000000) :
    FS P gl 35 [.agg [I n, .lst p], I k] (· = .tup [.agg [I 0, .lst []], B false]) := by
  obtain ⟨ok1, k0, k30⟩ := ok
  have am := fun (P' : Program) (C' : Cx P' gl) => implMatOk_fs C' (n := n) (b := true) hp ⟨fun _ => ok1, fun _ => rfl⟩ hl hy
  have wi := fun (P' : Program) (C' : Cx P' gl) => within_fs C' (n := k) (l := 0) (h := 30) (b := true) (by rw [decide_eq_true k0, decide_eq_true k30]; rfl)
  obtain ⟨n1, n4, hyl, hya⟩ := ok1
  have hyl2 := matLen n1 n4 hyl
  obtain ⟨ws, w1, w2, w3⟩ := identity_ex (n := n) (by omega) n4
  obtain ⟨pw, hpw⟩ : ∃ pw, pw = cells3 ws := ⟨_, rfl⟩
  obtain ⟨q0, hq0⟩ : ∃ q0, q0 = cells3 (canL (powD n (dvY ys) (0 : Int).toNat) ys.length) := ⟨_, rfl⟩
  have gi := fun (P' : Program) (C' : Cx P' gl) => w3 P' gl pw C' hpw
  have hlw : ws.length = ys.length := by omega
  have mt := fun (P' : Program) (C' : Cx P' gl) => gridMat_fn C' (n := n) (r := q0) hpw w2 (by omega) (by omega) (fun a _ => fits_id _ _) (by rw [hq0, hlw]; rfl) (by omega)
  have g2 := fun (P' : Program) (C' : Cx P' gl) => matGrid_fs C' (n := n) hp hl
  have hstep : ∀ (i : Int) (q : List PV), 0 ≤ i → i < k → q = cells3 (canL (powD n (dvY ys) i.toNat) ys.length) → (∀ j, j ≤ i.toNat → ∀ a, a < ys.length → fits (powD n (dvY ys) j a)) → ∃ (b0 : Bool) (x q2 : List PV), (∀ P', Cx P' gl → FS P' gl 53 [.agg [I n, .lst q]] (· = .agg [I n, .lst q])) ∧
      (∀ P', Cx P' gl → FS P' gl 58 [.agg [I n, .lst q], .agg [I n, .lst p]] (· = .agg [I n, .lst x])) ∧
      (b0 = true → ∀ P', Cx P' gl → FN P' gl 55 [.agg [I n, .lst x]] (fun own rr => own = [.tree 41 3 3 q2] ∧ rr = .tup [.agg [.pv (I n), .own 0], .pv (B true)])) ∧
      (b0 = false → ∀ P', Cx P' gl → FS P' gl 55 [.agg [I n, .lst x]] (· = .tup [.agg [I 0, .lst []], B false])) ∧
      (b0 = true → ∀ j, j ≤ (i + 1).toNat → ∀ a, a < ys.length → fits (powD n (dvY ys) j a)) ∧ q2 = cells3 (canL (powD n (dvY ys) (i + 1).toNat) ys.length) := by
    intro i q h1 h2 hq hf
    obtain ⟨b0, hb0⟩ := bool_of (∀ a, a < ys.length → fits (powD n (dvY ys) (i.toNat + 1) a))
    obtain ⟨xs, x1, x2, x3⟩ := powStep (gl := gl) n1 n4 hyl hya (hf i.toNat (Nat.le_refl _))
    refine ⟨b0, cells3 xs, _, fun P' C' => matGrid_fs C' hq (by rw [canL_len]; omega), fun P' C' => x3 P' _ _ _ C' hq hp rfl, fun hb P' C' => gridMat_fn C' rfl x2 (by omega) (by omega) (fun a ha => hb0.1 hb a (by omega)) (by rw [x1]) (by omega), fun hb P' C' => gridMat_fs C' rfl x2 (by omega) (by omega) (fun h => ?_) (by omega), fun hb j hj => ?_, ?_⟩
    · have := hb0.2 (fun a ha => h a (by omega))
      rw [this] at hb; cases hb
    · by_cases e : j = i.toNat + 1
      · rw [e]; exact hb0.1 hb
      · exact hf j (by omega)
    · rw [show (i + 1).toNat = i.toNat + 1 by omega]; rfl
  have hend : ∀ i : Int, i = k → (∀ j, j ≤ i.toNat → ∀ a, a < ys.length → fits (powD n (dvY ys) j a)) → False := fun i h hf => fit (by rw [← h]; exact hf)
  have hf0 : ∀ j, j ≤ (0 : Int).toNat → ∀ a, a < ys.length → fits (powD n (dvY ys) j a) := by
    intro j hj a _
    obtain rfl : j = 0 := Nat.le_zero.1 hj
    exact fits_id _ _
  clear w1 w2 w3 hya hyl hpw fit hp hy hlw hyl2
  obtain ⟨rfl, hG⟩ := C
  refine FS_ofM (args := fun A => [.agg [I n, .lst p], I k]) (R := fun A rr => rr = .tup [.agg [I 0, .lst []], B false]) Tryz.hT Tryz.mix Tryz.func35 rfl rfl (Nat.le_of_ble_eq_true rfl) ?_
  generalize hP : Tryz.prog = P
  intro A hA
  have C : Tryz.Cx P gl := ⟨hP.symm, hG⟩
  have hI : intsL = A.ints := by subst hA; rfl
  have q1 : A.bnot true = false := by subst hA; rfl
  have q2 : A.bnot false = true := by subst hA; rfl
  have q3 : ∀ x, A.pick false true x = x := fun x => by subst hA; cases x <;> rfl
  have q4 : ∀ x, A.pick true true x = true := fun x => by subst hA; cases x <;> rfl
  iterate 2 (all_goals try cbv; all_goals repeat' (first | with_reducible exact True.intro | with_reducible refine And.intro ?_ ?_ | intro _))
  all_goals try exact oG
  refine callS hA rfl (am P C) ?_; rintro _ rfl
  iterate 2 (all_goals try cbv; all_goals repeat' (first | with_reducible exact True.intro | with_reducible refine And.intro ?_ ?_ | intro _))
  all_goals try exact oG
  all_goals try simp only [q1, q2, q3, q4]
  refine ⟨_, fun _ => wi P C, ?_⟩
  iterate 2 (all_goals try cbv; all_goals repeat' (first | with_reducible exact True.intro | with_reducible refine And.intro ?_ ?_ | intro _))
  all_goals try exact oG
  all_goals try simp only [q1, q2, q3, q4]
  clear am wi
  refine callS hA rfl (gi P C) ?_; rintro _ rfl
  iterate 2 (all_goals try cbv; all_goals repeat' (first | with_reducible exact True.intro | with_reducible refine And.intro ?_ ?_ | intro _))
  all_goals try exact oG
  refine callN hA rfl (mt P C) ?_; rintro _ _ ⟨rfl, rfl⟩; refine ⟨rfl, ?_⟩
  clear gi mt
  iterate 2 (all_goals try cbv; all_goals repeat' (first | with_reducible exact True.intro | with_reducible refine And.intro ?_ ?_ | intro _))
  all_goals try exact oG
  refine loopR hA [] [(2, 4)] (ι := Int × List PV × Bool) (fun x => [(8, .pv (I x.1)), (7, .pv (B (bif x.2.2 then false else true)))]) (fun x => [(2, bif x.2.2 then .gone else .tree 41 3 3 x.2.1), (3, .box (bif x.2.2 then [.pv (I 0), .pv (.lst [])] else [.pv (I n), .own 2]))]) (fun x => (k - x.1).toNat) (fun x => 0 ≤ x.1 ∧ x.1 ≤ k ∧ (x.2.2 = false → x.2.1 = cells3 (canL (powD n (dvY ys) x.1.toNat) ys.length) ∧ ∀ j, j ≤ x.1.toNat → ∀ a, a < ys.length → fits (powD n (dvY ys) j a))) (0, q0, false) (by rfl) ?_ ?_ ?_ ?_
  all_goals try exact tG
  · trivial
  · exact ⟨Int.le_refl _, k0, fun _ => ⟨hq0, hf0⟩⟩
  rintro ⟨i, q, f⟩ ⟨hi0, hi1, hqf⟩
  simp only at hi0 hi1 hqf
  cases f with
  | true =>
    clear hqf hstep hend hf0 hq0 g2
    iterate 2 (all_goals try cbv; all_goals repeat' (first | with_reducible exact True.intro | with_reducible refine And.intro ?_ ?_ | intro _))
    all_goals try exact oG
    iterate 2 (all_goals try cbv; all_goals repeat' (first | with_reducible exact True.intro | with_reducible refine And.intro ?_ ?_ | intro _))
    all_goals try exact oG
    all_goals (exfalso; rename_i g; (subst hA; subst_vars; simp only [AR.std, natCast_eq, sG, reduceCtorEq] at *; try simp (disch := omega) only [AR.std, natCast_eq, sG, reduceCtorEq] at *))
  | false =>
    obtain ⟨hq, hf⟩ := hqf rfl
    have hout : ∀ _ : Unit, i = k → False := fun _ h => hend i h hf
    have hs : ∀ _ : Unit, i < k → _ := fun _ h => hstep i q hi0 h hq hf
    clear hq hf hqf hstep hend hf0 hq0
    iterate 2 (all_goals try cbv; all_goals repeat' (first | with_reducible exact True.intro | with_reducible refine And.intro ?_ ?_ | intro _))
    all_goals try exact oG
    iterate 2 (all_goals try cbv; all_goals repeat' (first | with_reducible exact True.intro | with_reducible refine And.intro ?_ ?_ | intro _))
    all_goals try exact oG
    · rename_i g
      have gi : i < k := by clear hs hout g2; (subst hA; subst_vars; simp only [AR.std, natCast_eq, sG, reduceCtorEq] at *; try simp (disch := omega) only [AR.std, natCast_eq, sG, reduceCtorEq] at *); omega
      obtain ⟨b0, x, q2, c1, c2, c3, c4, c5, c6⟩ := hs () gi
      have hi2 : i + 1 ≤ k := by omega
      clear hs hout g
      refine ⟨_, c1 P C, ?_⟩
      iterate 2 (all_goals try cbv; all_goals repeat' (first | with_reducible exact True.intro | with_reducible refine And.intro ?_ ?_ | intro _))
      all_goals try exact oG
      refine callS hA rfl (g2 P C) ?_; rintro _ rfl
      iterate 2 (all_goals try cbv; all_goals repeat' (first | with_reducible exact True.intro | with_reducible refine And.intro ?_ ?_ | intro _))
      all_goals try exact oG
      refine callS hA rfl (c2 P C) ?_; rintro _ rfl
      iterate 2 (all_goals try cbv; all_goals repeat' (first | with_reducible exact True.intro | with_reducible refine And.intro ?_ ?_ | intro _))
      all_goals try exact oG
      cases b0 with
      | true =>
        have c7 := c3 rfl
        have c8 := c5 rfl
        clear c3 c4 c5
        refine callN hA rfl (c7 P C) ?_; rintro _ _ ⟨rfl, rfl⟩; refine ⟨rfl, ?_⟩
        clear c1 c2 c7 g2
        iterate 2 (all_goals try cbv; all_goals repeat' (first | with_reducible exact True.intro | with_reducible refine And.intro ?_ ?_ | intro _))
        all_goals try exact oG
        obtain ⟨y1, hy1⟩ : ∃ y, y = i + 1 := ⟨_, rfl⟩
        obtain ⟨y2, hy2⟩ : ∃ y, y = q2 := ⟨_, rfl⟩
        obtain ⟨y3, hy3⟩ : ∃ y, y = false := ⟨_, rfl⟩
        refine ⟨⟨(y1, y2, y3), ?_⟩, ?_, ?_⟩
        rotate_left
        · cbv
          exact nG
        · (subst hA; subst_vars; simp only [AR.std, natCast_eq, sG, reduceCtorEq] at *; try simp (disch := omega) only [AR.std, natCast_eq, sG, reduceCtorEq] at *); omega
        · rw [hy1, hy2, hy3]
          exact ⟨by simp only; omega, hi2, fun _ => ⟨c6, c8⟩⟩
      | false =>
        have c7 := c4 rfl
        clear c3 c4 c5
        refine callS hA rfl (c7 P C) ?_; rintro _ rfl
        clear c1 c2 c7 g2
        iterate 2 (all_goals try cbv; all_goals repeat' (first | with_reducible exact True.intro | with_reducible refine And.intro ?_ ?_ | intro _))
        all_goals try exact oG
        obtain ⟨y1, hy1⟩ : ∃ y, y = i + 1 := ⟨_, rfl⟩
        obtain ⟨y2, hy2⟩ : ∃ y, y = q := ⟨_, rfl⟩
        obtain ⟨y3, hy3⟩ : ∃ y, y = true := ⟨_, rfl⟩
        refine ⟨⟨(y1, y2, y3), ?_⟩, ?_, ?_⟩
        rotate_left
        · cbv
          exact nG
        · (subst hA; subst_vars; simp only [AR.std, natCast_eq, sG, reduceCtorEq] at *; try simp (disch := omega) only [AR.std, natCast_eq, sG, reduceCtorEq] at *); omega
        · rw [hy1, hy2, hy3]
          exact ⟨by simp only; omega, hi2, fun h => by cases h⟩
    · rename_i g
      exact (hout () (by clear hs hout g2; (subst hA; subst_vars; simp only [AR.std, natCast_eq, sG, reduceCtorEq] at *; try simp (disch := omega) only [AR.std, natCast_eq, sG, reduceCtorEq] at *); omega)).elim

set_option maxHeartbeats 1000000 in
set_option maxRecDepth 100000 in
theorem implMatPow_N_fs (C : Cx P gl) {ys : List Cell3} {p : List PV} {n k : Int} (hp : p = cells3 ys) (ok : ¬powOk n ys k) (hl : ys.length ≤ 2000000) (hy : ∀ y ∈ ys, y.2.1.length ≤ 2000000) :
    FS P gl 35 [.agg [I n, .lst p], I k] (· = .tup [.agg [I 0, .lst []], B false]) := by
  obtain ⟨b, hb⟩ := bool_of (matOk n ys)
  have am := fun (P' : Program) (C' : Cx P' gl) => implMatOk_fs C' (n := n) (b := b) hp hb hl hy
  obtain ⟨wb, hwb⟩ : ∃ wb, wb = (decide (0 ≤ k) && decide (k ≤ 30)) := ⟨_, rfl⟩
  have wi := fun (P' : Program) (C' : Cx P' gl) => within_fs C' hwb
  have hno : b = true → wb = true → False := by
    intro h1 h2
    rw [hwb, Bool.and_eq_true, decide_eq_true_eq, decide_eq_true_eq] at h2
    exact ok ⟨hb.1 h1, h2⟩
  clear ok hp hy hb hwb
  obtain ⟨rfl, hG⟩ := C
  refine FS_ofC (args := fun A => [.agg [I n, .lst p], I k]) (R := fun A rr => rr = .tup [.agg [I 0, .lst []], B false]) Tryz.hT Tryz.mix Tryz.func35 rfl rfl (Nat.le_of_ble_eq_true rfl) ?_
  generalize hP : Tryz.prog = P
  intro A hA
  have C : Tryz.Cx P gl := ⟨hP.symm, hG⟩
  have hI : intsL = A.ints := by subst hA; rfl
  iterate 2 (all_goals try cbv; all_goals repeat' (first | with_reducible exact True.intro | with_reducible refine And.intro ?_ ?_ | intro _))
  all_goals try exact oG
  refine callS hA rfl (am P C) ?_; rintro _ rfl
  iterate 2 (all_goals try cbv; all_goals repeat' (first | with_reducible exact True.intro | with_reducible refine And.intro ?_ ?_ | intro _))
  all_goals try exact oG
  refine ⟨_, fun _ => wi P C, ?_⟩
  iterate 2 (all_goals try cbv; all_goals repeat' (first | with_reducible exact True.intro | with_reducible refine And.intro ?_ ?_ | intro _))
  all_goals try exact oG
  · rename_i g
    exfalso
    clear am wi hI
    subst hA
    revert g hno
    cases b <;> cases wb <;> intro hno g <;> first | exact hno rfl rfl | exact absurd g (by decide)

end Tryz
end Go.Proofs

namespace Go.Proofs
open Go Go.Pe Go.Dg
namespace Tryz
set_option linter.unusedSimpArgs false
set_option linter.unusedVariables false
variable {P : Program} {gl : List (Nat × Obj)}

/-- bounds of a product, place by place -/
theorem gridTimesL {ys zs : List Cell3} {d1 d2 : Nat → Dyadic} {n : Int} (h1 : XL d1 100 3000 ys) (h2 : XL d2 100 3000 zs) (hn : 0 ≤ n) (hn4 : n ≤ 4) (hyl : (ys.length : Int) = n * n) (hzl : (zs.length : Int) = n * n) :
    ∃ ws : List Cell3, ws.length = ys.length ∧ XL (mulD n d1 d2) 24308 6000 ws ∧ True := by
  have hnn : n * n = ((n.toNat * n.toNat : Nat) : Int) := by rw [Int.natCast_mul, Int.toNat_of_nonneg hn]
  obtain ⟨m, hm⟩ : ∃ m, m = n.toNat := ⟨_, rfl⟩
  have hm4 : m ≤ 4 := by omega
  rw [← hm] at hnn
  obtain ⟨Y, hY⟩ := places (n := m) (Q := fun i j y => X (mulD n d1 d2 (i * m + j)) 24308 6000 y) (by
    intro i j hi hj
    rw [hm] at hj
    have hmd := mulD_at (n := n) (f := d1) (g := d2) (i := i) hj
    rw [← hm] at hmd hj
    have ht : ∀ a, a < m → ∃ y, X (d1 (i * m + a) * d2 (a * m + j)) 200 6000 y := by
      intro a ha
      have p1 := place_lt hi ha
      have p2 := place_lt ha hj
      exact X_times (h1 (i * m + a) (by omega)) (h2 (a * m + j) (by omega))
    obtain ⟨y, hy⟩ := X_psum ht m (Nat.le_refl _)
    have hle : m * (6000 / 8 + 2) ≤ 4 * 752 := Nat.mul_le_mul hm4 (by decide)
    exact ⟨y, by rw [hmd]; exact hy.mono (by omega) (by omega)⟩)
  exact ⟨rowsY Y m m, by rw [rowsY_len]; omega, rowsY_XL hY, trivial⟩

set_option maxHeartbeats 2000000 in
set_option maxRecDepth 100000 in
theorem specMatPow_fs (C : Cx P gl) {ys : List Cell3} {p r : List PV} {n n' k : Int} {w : Bool} (hp : p = cells3 ys) (hw : w = true ↔ (matOk n ys ∧ 0 ≤ k ∧ k ≤ 30) ∧ ∀ j, j ≤ k.toNat → ∀ a, a < ys.length → fits (powD n (dvY ys) j a))
    (h1 : w = true → r = cells3 (canL (powD n (dvY ys) k.toNat) ys.length) ∧ n' = n) (h2 : w = false → r = [] ∧ n' = 0)
    (hl : ys.length ≤ 2000000) (hy : ∀ y ∈ ys, y.2.1.length ≤ 2000000) :
    FS P gl 34 [.agg [I n, .lst p], I k] (· = .tup [.agg [I n', .lst r], B w]) := by
  obtain ⟨b, hb⟩ := bool_of (matOk n ys)
  have am := fun (P' : Program) (C' : Cx P' gl) => specMatOk_fs C' (n := n) (b := b) hp hb hl hy
  obtain ⟨lb, hlb⟩ : ∃ lb, lb = decide (k < 0) := ⟨_, rfl⟩
  obtain ⟨lc, hlc⟩ : ∃ lc, lc = decide (30 < k) := ⟨_, rfl⟩
  have hok : (matOk n ys ∧ 0 ≤ k ∧ k ≤ 30) ↔ (b = true ∧ lb = false ∧ lc = false) := by
    rw [hb, hlb, hlc, decide_eq_false_iff_not, decide_eq_false_iff_not]
    exact ⟨fun ⟨a, c, d⟩ => ⟨a, by omega, by omega⟩, fun ⟨a, c, d⟩ => ⟨a, by omega, by omega⟩⟩
  by_cases ok : matOk n ys ∧ 0 ≤ k ∧ k ≤ 30
  · obtain ⟨rfl, rfl, rfl⟩ := hok.1 ok
    obtain ⟨ok1, k0, k30⟩ := id ok
    obtain ⟨n1, n4, hyl, hya⟩ := ok1
    have hyl2 := matLen n1 n4 hyl
    have hnn : n.toNat * n.toNat = ys.length := by
      have : n * n = ((n.toNat * n.toNat : Nat) : Int) := by rw [Int.natCast_mul, Int.toNat_of_nonneg (by omega)]
      omega
    obtain ⟨q0, hq0⟩ : ∃ q0, q0 = cells3 (canL (powD n (dvY ys) (0 : Int).toNat) ys.length) := ⟨_, rfl⟩
    have hid := fun (P' : Program) (C' : Cx P' gl) => l8id_fs C' (n := n) (r := q0) (by omega) n4 (by rw [hq0, ← hnn]; rfl)
    have hstep : ∀ (i : Int) (q : List PV), 0 ≤ i → i < k → q = cells3 (canL (powD n (dvY ys) i.toNat) ys.length) → (∀ j, j ≤ i.toNat → ∀ a, a < ys.length → fits (powD n (dvY ys) j a)) → ∃ (b0 : Bool) (q2 : List PV),
        (∀ P', Cx P' gl → FS P' gl 57 [.agg [I n, .lst q], .agg [I n, .lst p]] (· = .agg [I n, .lst q2])) ∧ (∀ P', Cx P' gl → FS P' gl 59 [.agg [I n, .lst q2]] (· = B b0)) ∧
        (b0 = true → ∀ j, j ≤ (i + 1).toNat → ∀ a, a < ys.length → fits (powD n (dvY ys) j a)) ∧ (b0 = false → w = false) ∧ q2 = cells3 (canL (powD n (dvY ys) (i + 1).toNat) ys.length) := by
      intro i q g1 g2 hq hf
      obtain ⟨b0, hb0⟩ := bool_of (∀ a, a < ys.length → fits (powD n (dvY ys) (i.toNat + 1) a))
      have hfi := hf i.toNat (Nat.le_refl _)
      obtain ⟨ws, w1, w2, _⟩ := gridTimesL (n := n) (canL_XL hfi) (allY_XL hya) (by omega) n4 (by rw [canL_len]; exact hyl) hyl
      have hcl : ∀ y ∈ canL (powD n (dvY ys) (i.toNat + 1)) ys.length, y.2.1.length ≤ 2000000 := by
        intro y hy
        obtain ⟨a, ha, rfl⟩ := List.mem_map.1 hy
        have ha : a < ys.length := List.mem_range.1 ha
        have hc2 := canL_len (powD n (dvY ys) i.toNat) ys.length
        have := X_can (w2 a (by omega))
        show (dg (cZ (mulD n (powD n (dvY ys) i.toNat) (dvY ys) a)).natAbs).length ≤ _
        omega
      refine ⟨b0, _, fun P' C' => l8mul_fs C' hq hp (canL_XL hfi) (allY_XL hya) (by omega) (by omega) (by omega) n4 (by rw [canL_len]; exact hyl) hyl rfl, fun P' C' => specMatOk_fs C' rfl ?_ (by rw [canL_len, canL_len]; omega) (by rw [canL_len]; exact hcl), ?_, ?_, ?_⟩
      · rw [hb0, canL_len]
        constructor
        · intro h; exact ⟨n1, n4, by rw [canL_len]; exact hyl, canL_ok.2 h⟩
        · intro h; exact canL_ok.1 h.2.2.2
      · intro h j hj
        by_cases e : j = i.toNat + 1
        · rw [e]; exact hb0.1 h
        · exact hf j (by omega)
      · intro h
        cases hwc : w with
        | false => rfl
        | true =>
          have := (hw.1 hwc).2 (i.toNat + 1) (by omega)
          rw [hb0.2 this] at h; cases h
      · rw [show (i + 1).toNat = i.toNat + 1 by omega, canL_len]; rfl
    have hfin : ∀ (q : List PV), q = cells3 (canL (powD n (dvY ys) k.toNat) ys.length) → (∀ j, j ≤ k.toNat → ∀ a, a < ys.length → fits (powD n (dvY ys) j a)) → (q = r ∧ n' = n ∧ w = true) ∧
        ∀ P', Cx P' gl → FS P' gl 77 [.agg [I n, .lst q]] (· = .agg [I n, .lst q]) := by
      intro q hq hf
      have hwt := hw.2 ⟨ok, hf⟩
      obtain ⟨e1, e2⟩ := h1 hwt
      exact ⟨⟨by rw [hq, e1], e2, hwt⟩, fun P' C' => l8own_fs C' hq (canL_W fun a ha => (hf k.toNat (Nat.le_refl _) a ha).1) (by omega) (by rw [canL_len]; omega)⟩
    have hf0 : ∀ j, j ≤ (0 : Int).toNat → ∀ a, a < ys.length → fits (powD n (dvY ys) j a) := by
      intro j hj a _
      obtain rfl : j = 0 := Nat.le_zero.1 hj
      exact fits_id _ _
    clear h1 hw hb hp hy hyl hya hok ok hyl2 hnn
    obtain ⟨rfl, hG⟩ := C
    refine FS_ofC (args := fun A => [.agg [I n, .lst p], I k]) (R := fun A rr => rr = .tup [.agg [I n', .lst r], B w]) Tryz.hT Tryz.mix Tryz.func34 rfl rfl (Nat.le_of_ble_eq_true rfl) ?_
    generalize hP : Tryz.prog = P
    intro A hA
    have C : Tryz.Cx P gl := ⟨hP.symm, hG⟩
    have hI : intsL = A.ints := by subst hA; rfl
    have q5 : A.lt k 0 = false := by rw [hlb]; subst hA; rfl
    have q6 : A.lt 30 k = false := by rw [hlc]; subst hA; rfl
    clear hlb hlc
    iterate 2 (all_goals try cbv; all_goals repeat' (first | with_reducible exact True.intro | with_reducible refine And.intro ?_ ?_ | intro _))
    all_goals try exact oG
    refine callS hA rfl (am P C) ?_; rintro _ rfl
    iterate 2 (all_goals try cbv; all_goals repeat' (first | with_reducible exact True.intro | with_reducible refine And.intro ?_ ?_ | intro _))
    all_goals try exact oG
    all_goals try simp only [q5, q6]
    iterate 2 (all_goals try cbv; all_goals repeat' (first | with_reducible exact True.intro | with_reducible refine And.intro ?_ ?_ | intro _))
    all_goals try exact oG
    all_goals try simp only [q5, q6]
    iterate 2 (all_goals try cbv; all_goals repeat' (first | with_reducible exact True.intro | with_reducible refine And.intro ?_ ?_ | intro _))
    all_goals try exact oG
    clear am q5 q6
    refine callS hA rfl (hid P C) ?_; rintro _ rfl
    clear hid
    iterate 2 (all_goals try cbv; all_goals repeat' (first | with_reducible exact True.intro | with_reducible refine And.intro ?_ ?_ | intro _))
    all_goals try exact oG
    refine loopI hA [] (ι := Int × List PV) (fun x => [(7, .pv (I x.1))]) (fun x => [(2, .box [.pv (I n), .pv (.lst x.2)])]) (fun x => (k - x.1).toNat) (fun x => 0 ≤ x.1 ∧ x.1 ≤ k ∧ x.2 = cells3 (canL (powD n (dvY ys) x.1.toNat) ys.length) ∧ ∀ j, j ≤ x.1.toNat → ∀ a, a < ys.length → fits (powD n (dvY ys) j a)) (0, q0) (by rfl) ?_ ?_ ?_
    all_goals try exact tG
    · exact ⟨Int.le_refl _, k0, hq0, hf0⟩
    rintro ⟨i, q⟩ ⟨hi0, hi1, hq, hf⟩
    simp only at hi0 hi1 hq hf
    have hout : ∀ _ : Unit, i = k → _ := fun _ h => hfin q (by rw [← h]; exact hq) (by rw [← h]; exact hf)
    have hs : ∀ _ : Unit, i < k → _ := fun _ h => hstep i q hi0 h hq hf
    clear hq hf hstep hfin hf0 hq0
    iterate 2 (all_goals try cbv; all_goals repeat' (first | with_reducible exact True.intro | with_reducible refine And.intro ?_ ?_ | intro _))
    all_goals try exact oG
    · rename_i g
      have gi : i < k := by clear hs hout h2; (subst hA; subst_vars; simp only [AR.std, natCast_eq, sG, reduceCtorEq] at *; try simp (disch := omega) only [AR.std, natCast_eq, sG, reduceCtorEq] at *); omega
      obtain ⟨b0, q2, c1, c2, c3, c4, c5⟩ := hs () gi
      have hi2 : i + 1 ≤ k := by omega
      clear hs hout g
      refine callS hA rfl (c1 P C) ?_; rintro _ rfl
      iterate 2 (all_goals try cbv; all_goals repeat' (first | with_reducible exact True.intro | with_reducible refine And.intro ?_ ?_ | intro _))
      all_goals try exact oG
      refine callS hA rfl (c2 P C) ?_; rintro _ rfl
      cases b0 with
      | false =>
        have e := c4 rfl
        obtain ⟨e1, e2⟩ := h2 e
        subst e1; subst e2; subst e
        clear c1 c2 c3 c4 c5 h2
        iterate 2 (all_goals try cbv; all_goals repeat' (first | with_reducible exact True.intro | with_reducible refine And.intro ?_ ?_ | intro _))
        all_goals try exact oG
        iterate 2 (all_goals try cbv; all_goals repeat' (first | with_reducible exact True.intro | with_reducible refine And.intro ?_ ?_ | intro _))
        all_goals try exact oG
      | true =>
        have c6 := c3 rfl
        clear c1 c2 c3 c4 h2
        iterate 2 (all_goals try cbv; all_goals repeat' (first | with_reducible exact True.intro | with_reducible refine And.intro ?_ ?_ | intro _))
        all_goals try exact oG
        iterate 2 (all_goals try cbv; all_goals repeat' (first | with_reducible exact True.intro | with_reducible refine And.intro ?_ ?_ | intro _))
        all_goals try exact oG
        obtain ⟨y1, hy1⟩ : ∃ y, y = i + 1 := ⟨_, rfl⟩
        obtain ⟨y2, hy2⟩ : ∃ y, y = q2 := ⟨_, rfl⟩
        refine ⟨⟨(y1, y2), ?_⟩, ?_, ?_⟩
        rotate_left
        · cbv
          exact nG
        · (subst hA; subst_vars; simp only [AR.std, natCast_eq, sG, reduceCtorEq] at *; try simp (disch := omega) only [AR.std, natCast_eq, sG, reduceCtorEq] at *); omega
        · rw [hy1, hy2]
          exact ⟨by simp only; omega, hi2, c5, c6⟩
    · rename_i g
      obtain ⟨⟨e1, e2, e3⟩, e4⟩ := hout () (by clear hs hout h2; (subst hA; subst_vars; simp only [AR.std, natCast_eq, sG, reduceCtorEq] at *; try simp (disch := omega) only [AR.std, natCast_eq, sG, reduceCtorEq] at *); omega)
      subst e1; subst e2; subst e3
      clear hs hout h2 g
      refine callS hA rfl (e4 P C) ?_; rintro _ rfl
      iterate 2 (all_goals try cbv; all_goals repeat' (first | with_reducible exact True.intro | with_reducible refine And.intro ?_ ?_ | intro _))
      all_goals try exact oG
  · have hwf : w = false := by
      cases hwc : w with
      | false => rfl
      | true => exact absurd (hw.1 hwc).1 ok
    obtain ⟨e1, e2⟩ := h2 hwf
    have hno : b = true → lb = false → lc = false → False := fun h1 h2 h3 => ok (hok.2 ⟨h1, h2, h3⟩)
    clear h1 h2 hw hb hp hy hok ok
    rw [e1, e2, hwf]
    clear e1 e2 hwf
    obtain ⟨rfl, hG⟩ := C
    refine FS_ofC (args := fun A => [.agg [I n, .lst p], I k]) (R := fun A rr => rr = .tup [.agg [I 0, .lst []], B false]) Tryz.hT Tryz.mix Tryz.func34 rfl rfl (Nat.le_of_ble_eq_true rfl) ?_
    generalize hP : Tryz.prog = P
    intro A hA
    have C : Tryz.Cx P gl := ⟨hP.symm, hG⟩
    have hI : intsL = A.ints := by subst hA; rfl
    have q5 : A.lt k 0 = lb := by rw [hlb]; subst hA; rfl
    have q6 : A.lt 30 k = lc := by rw [hlc]; subst hA; rfl
    clear hlb hlc
    iterate 2 (all_goals try cbv; all_goals repeat' (first | with_reducible exact True.intro | with_reducible refine And.intro ?_ ?_ | intro _))
    all_goals try exact oG
    refine callS hA rfl (am P C) ?_; rintro _ rfl
    iterate 2 (all_goals try cbv; all_goals repeat' (first | with_reducible exact True.intro | with_reducible refine And.intro ?_ ?_ | intro _))
    all_goals try exact oG
    all_goals try simp only [q5, q6]
    iterate 2 (all_goals try cbv; all_goals repeat' (first | with_reducible exact True.intro | with_reducible refine And.intro ?_ ?_ | intro _))
    all_goals try exact oG
    all_goals try simp only [q5, q6]
    iterate 2 (all_goals try cbv; all_goals repeat' (first | with_reducible exact True.intro | with_reducible refine And.intro ?_ ?_ | intro _))
    all_goals try exact oG
    all_goals (
      exfalso
      rename_i g
      simp only [q5, q6] at g
      clear am hI q5 q6
      subst hA
      revert g hno
      cases b <;> cases lb <;> cases lc <;> intro hno g <;> first | exact hno rfl rfl rfl | exact absurd g (by decide))

end Tryz
end Go.Proofs

