/- Contracts: Residual in the program and in the reference. -/
import Derived.Test.YthmkdfmapdbenaaGreatDoorCM14
import Derived.Test.YthmkdfmapdbenaaGreatDoorCM16
import Derived.Test.YthmkdfmapdbenaaGreatDoorCM21
import Derived.Test.YthmkdfmapdbenaaGreatDoorCM26
import Derived.Test.YthmkdfmapdbenaaGreatDoorCN29
import Derived.Test.YthmkdfmapdbenaaGreatDoorCM10
namespace Go.Proofs
open Go Go.Pe Go.Dg
namespace Tryz
set_option linter.unusedSimpArgs false
set_option linter.unusedVariables false
variable {P : Program} {gl : List (Nat × Obj)}

/-- the norm of x times x less a -/
noncomputable def resD (n : Int) (f g : Nat → Dyadic) : Dyadic := normD n.toNat (fun k => mulD n g g k - f k)

set_option maxHeartbeats 1000000 in
set_option maxRecDepth 100000 in
theorem gridResidual_fs (C : Cx P gl) {p q t u r : List PV} {n e : Int} {s : Bool} (h1 : ∀ P', Cx P' gl → FS P' gl 58 [.agg [I n, .lst p], .agg [I n, .lst p]] (· = .agg [I n, .lst t]))
    (h2 : ∀ P', Cx P' gl → FS P' gl 56 [.agg [I n, .lst t], .agg [I n, .lst q]] (· = .agg [I n, .lst u]))
    (h3 : ∀ P', Cx P' gl → FS P' gl 63 [.agg [I n, .lst u]] (· = .agg [B s, .lst r, I e])) :
    FS P gl 96 [.agg [I n, .lst p], .agg [I n, .lst q]] (· = .agg [B s, .lst r, I e]) := by
  obtain ⟨rfl, hG⟩ := C
  refine FS_ofT (args := fun A => [.agg [I n, .lst p], .agg [I n, .lst q]]) (R := fun A rr => rr = .agg [B s, .lst r, I e]) Tryz.hT Tryz.mix Tryz.func96 rfl rfl (Nat.le_of_ble_eq_true rfl) ?_
  generalize hP : Tryz.prog = P
  intro A hA
  have C : Tryz.Cx P gl := ⟨hP.symm, hG⟩
  have hI : intsL = A.ints := by subst hA; rfl
  iterate 2 (all_goals try cbv; all_goals repeat' (first | with_reducible exact True.intro | with_reducible refine And.intro ?_ ?_ | intro _))
  all_goals try exact oG
  refine ⟨_, h1 P C, ?_⟩
  iterate 2 (all_goals try cbv; all_goals repeat' (first | with_reducible exact True.intro | with_reducible refine And.intro ?_ ?_ | intro _))
  all_goals try exact oG
  refine callS hA rfl (h2 P C) ?_; rintro _ rfl
  iterate 2 (all_goals try cbv; all_goals repeat' (first | with_reducible exact True.intro | with_reducible refine And.intro ?_ ?_ | intro _))
  all_goals try exact oG
  refine callS hA rfl (h3 P C) ?_; rintro _ rfl
  iterate 2 (all_goals try cbv; all_goals repeat' (first | with_reducible exact True.intro | with_reducible refine And.intro ?_ ?_ | intro _))
  all_goals try exact oG

theorem gridResidual_ex {ys zs : List Cell3} {d1 d2 : Nat → Dyadic} {L E : Nat} {n : Int} (h1 : XL d1 L E ys) (h2 : XL d2 L E zs) (hL : L ≤ 100) (hE : E ≤ 3000) (hn : 0 ≤ n) (hn4 : n ≤ 4) (hyl : (ys.length : Int) = n * n) (hzl : (zs.length : Int) = n * n) :
    ∃ y, X (resD n d1 d2) 100000 6000 y ∧
      ∀ (P : Program) (gl : List (Nat × Obj)) (p q r : List PV), Cx P gl → p = cells3 ys → q = cells3 zs → r = intsL y.2.1 → FS P gl 96 [.agg [I n, .lst q], .agg [I n, .lst p]] (· = .agg [B y.1, .lst r, I y.2.2]) := by
  obtain ⟨ws, w1, w2, w3⟩ := gridTimes_ex h2 h2 (by omega) (by omega) hn hn4 hzl hzl
  obtain ⟨vs, v1, v2, v3⟩ := gridMinus_ex w2 (h1.mono (L' := L + L + 4 * (E + E + 2)) (E' := E + E) (by omega) (by omega)) (by omega) (by omega) hn hn4 w1 hyl
  obtain ⟨y, y1, y2⟩ := gridNorm_ex v2 (by omega) (by omega) hn hn4 v1
  refine ⟨y, y1.mono (by omega) (by omega), ?_⟩
  intro P gl p q r C hp hq hr
  exact gridResidual_fs C (fun P' C' => w3 P' gl q q _ C' hq hq rfl) (fun P' C' => v3 P' gl _ p _ C' rfl hp rfl) (fun P' C' => y2 P' gl _ r C' rfl hr)

set_option maxHeartbeats 1000000 in
set_option maxRecDepth 100000 in
theorem l11residual_fs (C : Cx P gl) {ys zs : List Cell3} {d1 d2 : Nat → Dyadic} {p q r : List PV} {n f : Int} {u0 : Bool} (hp : p = cells3 ys) (hq : q = cells3 zs) (h1 : CL 3000 4600 d1 ys) (h2 : CL 3000 4600 d2 zs) (hn : 0 ≤ n) (hn4 : n ≤ 4)
    (x2 : XL d2 100 3000 zs) (hyl : (ys.length : Int) = n * n) (hzl : (zs.length : Int) = n * n) (hu : u0 = (canY (resD n d1 d2)).1) (hr : r = intsL (canY (resD n d1 d2)).2.1) (hf : f = (canY (resD n d1 d2)).2.2) :
    FS P gl 95 [.agg [I n, .lst p], .agg [I n, .lst q]] (· = .agg [B u0, .lst r, I f]) := by
  have hnn : n * n = ((n.toNat * n.toNat : Nat) : Int) := by rw [Int.natCast_mul, Int.toNat_of_nonneg hn]
  have hlz : zs.length = ys.length := by omega
  have m1 : ∀ k, k < n.toNat * n.toNat → Mg 6000 9204 (mulD n d2 d2 k) := fun k hk => Mg.mulD (by omega) (fun k hk => (h2 k (by omega)).2) (fun k hk => (h2 k (by omega)).2) hk
  have m2 : ∀ k, k < n.toNat * n.toNat → Mg 6000 9205 (mulD n d2 d2 k - d1 k) := by
    intro k hk
    rw [sub_eq]
    exact (m1 k hk).add (((h1 k (by omega)).2.neg).mono (by omega) (by omega))
  have c1 := canL_CL (n := ys.length) (dd := mulD n d2 d2) (fun k hk => m1 k (by omega))
  have c2 := canL_CL (n := ys.length) (dd := fun k => mulD n d2 d2 k - d1 k) (fun k hk => m2 k (by omega))
  obtain ⟨t, ht⟩ : ∃ t, t = cells3 (canL (mulD n d2 d2) ys.length) := ⟨_, rfl⟩
  obtain ⟨v, hv⟩ : ∃ v, v = cells3 (canL (fun k => mulD n d2 d2 k - d1 k) ys.length) := ⟨_, rfl⟩
  have k1 := fun (P' : Program) (C' : Cx P' gl) => l8mul_fs C' (n := n) (m := n) (r := t) hq hq x2 x2 (by omega) (by omega) hn hn4 hzl hzl (by rw [ht, hlz])
  have k2 := fun (P' : Program) (C' : Cx P' gl) => l8addSub_fs C' (n := n) (m := n) (r := v) ht hp c1.x (h1.x.mono (by omega) (by omega)) (by omega) (by omega) hn (by omega) (by rw [canL_len]; exact hyl) hyl (by rw [hv, canL_len])
  have k3 := fun (P' : Program) (C' : Cx P' gl) => l8normC_fs C' (n := n) hv c2 (by omega) (by omega) hn hn4 (by rw [canL_len]; exact hyl) hu hr hf
  clear hp hq h1 h2 x2 hyl hzl hu hr hf hnn hlz m1 m2 c1 c2 ht hv
  obtain ⟨rfl, hG⟩ := C
  refine FS_ofT (args := fun A => [.agg [I n, .lst p], .agg [I n, .lst q]]) (R := fun A rr => rr = .agg [B u0, .lst r, I f]) Tryz.hT Tryz.mix Tryz.func95 rfl rfl (Nat.le_of_ble_eq_true rfl) ?_
  generalize hP : Tryz.prog = P
  intro A hA
  have C : Tryz.Cx P gl := ⟨hP.symm, hG⟩
  have hI : intsL = A.ints := by subst hA; rfl
  iterate 2 (all_goals try cbv; all_goals repeat' (first | with_reducible exact True.intro | with_reducible refine And.intro ?_ ?_ | intro _))
  all_goals try exact oG
  refine ⟨_, k1 P C, ?_⟩
  iterate 2 (all_goals try cbv; all_goals repeat' (first | with_reducible exact True.intro | with_reducible refine And.intro ?_ ?_ | intro _))
  all_goals try exact oG
  refine callS hA rfl (k2 P C) ?_; rintro _ rfl
  iterate 2 (all_goals try cbv; all_goals repeat' (first | with_reducible exact True.intro | with_reducible refine And.intro ?_ ?_ | intro _))
  all_goals try exact oG
  refine callS hA rfl (k3 P C) ?_; rintro _ rfl
  iterate 2 (all_goals try cbv; all_goals repeat' (first | with_reducible exact True.intro | with_reducible refine And.intro ?_ ?_ | intro _))
  all_goals try exact oG

end Tryz
end Go.Proofs

namespace Go.Proofs
open Go Go.Pe Go.Dg
namespace Tryz
set_option linter.unusedSimpArgs false
set_option linter.unusedVariables false
variable {P : Program} {gl : List (Nat × Obj)}

set_option maxHeartbeats 1000000 in
set_option maxRecDepth 100000 in
theorem implResidual_o_fx (C : Cx P gl) {ys zs : List Cell3} {p q : List PV} {n m : Int} {d : Dyadic} {u : Bool} {r : List PV} {g : Int} (hp : p = cells3 ys) (hq : q = cells3 zs) (ok : matOk n ys ∧ matOk m zs ∧ n = m) (hd : d = resD n (dvY ys) (dvY zs)) (fit : fits d) (n0 : d ≠ 0) (hr : r = intsL (dg (cZ d).natAbs)) (hu : u = decide (cZ d < 0)) (hg : g = cE d)
    (hl : ys.length ≤ 2000000) (hy : ∀ y ∈ ys, y.2.1.length ≤ 2000000) (hm : zs.length ≤ 2000000) (hz9 : ∀ y ∈ zs, y.2.1.length ≤ 2000000) :
    FX P gl 48 [] [.pv (.agg [I n, .lst p]), .pv (.agg [I m, .lst q])] (fun own rr => own = [.row 3 1 r] ∧ rr = .tup [.agg [.pv (B u), .own 0, .pv (I g)], .pv (B true)]) := by
  obtain ⟨ok1, ok2, rfl⟩ := ok
  have am := fun (P' : Program) (C' : Cx P' gl) => areMats_fs C' (n := n) (m := n) (b := true) hp hq ⟨fun _ => ⟨ok1, ok2, rfl⟩, fun _ => rfl⟩ hl hy hm hz9
  obtain ⟨n1, n4, hyl, hya⟩ := ok1
  obtain ⟨_, _, hzl, hza⟩ := ok2
  obtain ⟨⟨s1, l1, e1⟩, w1, w2⟩ := gridResidual_ex (allY_XL hya) (allY_XL hza) (by omega) (by omega) (by omega) n4 hyl hzl
  rw [← hd] at w1
  obtain ⟨z, a1, a2, a3, a4, a5⟩ := w1
  simp only at a1 a2 a3 a4 a5 w2
  obtain ⟨pr, hpr⟩ : ∃ pr, pr = intsL l1 := ⟨_, rfl⟩
  have gr := fun (P' : Program) (C' : Cx P' gl) => w2 P' gl p q pr C' hp hq hpr
  have g1 := fun (P' : Program) (C' : Cx P' gl) => matGrid_fs C' (n := n) hp hl
  have g2 := fun (P' : Program) (C' : Cx P' gl) => matGrid_fs C' (n := n) hq hm
  rw [a2] at hpr
  have hz : z = 0 ↔ d = 0 := by
    constructor
    · intro h; rw [a3, h, mk_zero]
    · intro h; rw [h, ← mk_zero e1, mk_inj] at a3; exact a3.symm
  have hdy := fun (P' : Program) (C' : Cx P' gl) => dy_fn C' hpr a1 a3 hr hu hg (by omega) (by omega) (fun h => n0 (hz.1 h)) fit
  clear fit n0 hr hu hg
  clear w2 hya hyl hza hzl hpr hp hq hy hz hz9 a1 a2 a3 a4 a5 hd
  obtain ⟨rfl, hG⟩ := C
  refine FX_ofC (own := fun A => []) (args := fun A => [.pv (.agg [I n, .lst p]), .pv (.agg [I n, .lst q])]) (R := fun A ow rr => ow = [.row 3 1 r] ∧ rr = .tup [.agg [.pv (B u), .own 0, .pv (I g)], .pv (B true)]) Tryz.hT Tryz.mix Tryz.func48 rfl rfl (Nat.le_of_ble_eq_true rfl) ?_
  generalize hP : Tryz.prog = P
  intro A hA
  have C : Tryz.Cx P gl := ⟨hP.symm, hG⟩
  have hI : intsL = A.ints := by subst hA; rfl
  iterate 2 (all_goals try cbv; all_goals repeat' (first | with_reducible exact True.intro | with_reducible refine And.intro ?_ ?_ | intro _))
  all_goals try exact oG
  refine callS hA rfl (am P C) ?_; rintro _ rfl
  iterate 2 (all_goals try cbv; all_goals repeat' (first | with_reducible exact True.intro | with_reducible refine And.intro ?_ ?_ | intro _))
  all_goals try exact oG
  iterate 2 (all_goals try cbv; all_goals repeat' (first | with_reducible exact True.intro | with_reducible refine And.intro ?_ ?_ | intro _))
  all_goals try exact oG
  refine ⟨_, g2 P C, ?_⟩
  iterate 2 (all_goals try cbv; all_goals repeat' (first | with_reducible exact True.intro | with_reducible refine And.intro ?_ ?_ | intro _))
  all_goals try exact oG
  refine callS hA rfl (g1 P C) ?_; rintro _ rfl
  iterate 2 (all_goals try cbv; all_goals repeat' (first | with_reducible exact True.intro | with_reducible refine And.intro ?_ ?_ | intro _))
  all_goals try exact oG
  refine callS hA rfl (gr P C) ?_; rintro _ rfl
  iterate 2 (all_goals try cbv; all_goals repeat' (first | with_reducible exact True.intro | with_reducible refine And.intro ?_ ?_ | intro _))
  all_goals try exact oG
  refine callN hA rfl (hdy P C) ?_; rintro _ _ ⟨rfl, rfl⟩; refine ⟨rfl, ?_⟩
  iterate 2 (all_goals try cbv; all_goals repeat' (first | with_reducible exact True.intro | with_reducible refine And.intro ?_ ?_ | intro _))
  all_goals try exact oG
  subst hA
  exact ⟨[3], _, _, by decide, Nat.zero_le _, rfl, rfl, rfl, rfl, rfl, rfl⟩

set_option maxHeartbeats 1000000 in
set_option maxRecDepth 100000 in
theorem implResidual_n_fs (C : Cx P gl) {ys zs : List Cell3} {p q : List PV} {n m : Int} {d : Dyadic} (hp : p = cells3 ys) (hq : q = cells3 zs) (ok : matOk n ys ∧ matOk m zs ∧ n = m) (hd : d = resD n (dvY ys) (dvY zs)) (n0 : d = 0)
    (hl : ys.length ≤ 2000000) (hy : ∀ y ∈ ys, y.2.1.length ≤ 2000000) (hm : zs.length ≤ 2000000) (hz9 : ∀ y ∈ zs, y.2.1.length ≤ 2000000) :
    FS P gl 48 [.agg [I n, .lst p], .agg [I m, .lst q]] (· = .tup [.agg [B false, .lst [], I 0], B true]) := by
  obtain ⟨ok1, ok2, rfl⟩ := ok
  have am := fun (P' : Program) (C' : Cx P' gl) => areMats_fs C' (n := n) (m := n) (b := true) hp hq ⟨fun _ => ⟨ok1, ok2, rfl⟩, fun _ => rfl⟩ hl hy hm hz9
  obtain ⟨n1, n4, hyl, hya⟩ := ok1
  obtain ⟨_, _, hzl, hza⟩ := ok2
  obtain ⟨⟨s1, l1, e1⟩, w1, w2⟩ := gridResidual_ex (allY_XL hya) (allY_XL hza) (by omega) (by omega) (by omega) n4 hyl hzl
  rw [← hd] at w1
  obtain ⟨z, a1, a2, a3, a4, a5⟩ := w1
  simp only at a1 a2 a3 a4 a5 w2
  obtain ⟨pr, hpr⟩ : ∃ pr, pr = intsL l1 := ⟨_, rfl⟩
  have gr := fun (P' : Program) (C' : Cx P' gl) => w2 P' gl p q pr C' hp hq hpr
  have g1 := fun (P' : Program) (C' : Cx P' gl) => matGrid_fs C' (n := n) hp hl
  have g2 := fun (P' : Program) (C' : Cx P' gl) => matGrid_fs C' (n := n) hq hm
  rw [a2] at hpr
  have hz : z = 0 ↔ d = 0 := by
    constructor
    · intro h; rw [a3, h, mk_zero]
    · intro h; rw [h, ← mk_zero e1, mk_inj] at a3; exact a3.symm
  have hpr0 : pr = [] := by rw [hpr, hz.2 n0, show Int.natAbs 0 = 0 from rfl, dg_zero]; rfl
  rw [hpr0] at gr
  have hdy := fun (P' : Program) (C' : Cx P' gl) => @dy0_fs P' gl C' e1 s1
  clear n0
  clear w2 hya hyl hza hzl hpr hp hq hy hz hz9 a1 a2 a3 a4 a5 hd
  obtain ⟨rfl, hG⟩ := C
  refine FS_ofC (args := fun A => [.agg [I n, .lst p], .agg [I n, .lst q]]) (R := fun A rr => rr = .tup [.agg [B false, .lst [], I 0], B true]) Tryz.hT Tryz.mix Tryz.func48 rfl rfl (Nat.le_of_ble_eq_true rfl) ?_
  generalize hP : Tryz.prog = P
  intro A hA
  have C : Tryz.Cx P gl := ⟨hP.symm, hG⟩
  have hI : intsL = A.ints := by subst hA; rfl
  iterate 2 (all_goals try cbv; all_goals repeat' (first | with_reducible exact True.intro | with_reducible refine And.intro ?_ ?_ | intro _))
  all_goals try exact oG
  refine callS hA rfl (am P C) ?_; rintro _ rfl
  iterate 2 (all_goals try cbv; all_goals repeat' (first | with_reducible exact True.intro | with_reducible refine And.intro ?_ ?_ | intro _))
  all_goals try exact oG
  iterate 2 (all_goals try cbv; all_goals repeat' (first | with_reducible exact True.intro | with_reducible refine And.intro ?_ ?_ | intro _))
  all_goals try exact oG
  refine ⟨_, g2 P C, ?_⟩
  iterate 2 (all_goals try cbv; all_goals repeat' (first | with_reducible exact True.intro | with_reducible refine And.intro ?_ ?_ | intro _))
  all_goals try exact oG
  refine callS hA rfl (g1 P C) ?_; rintro _ rfl
  iterate 2 (all_goals try cbv; all_goals repeat' (first | with_reducible exact True.intro | with_reducible refine And.intro ?_ ?_ | intro _))
  all_goals try exact oG
  refine callS hA rfl (gr P C) ?_; rintro _ rfl
  iterate 2 (all_goals try cbv; all_goals repeat' (first | with_reducible exact True.intro | with_reducible refine And.intro ?_ ?_ | intro _))
  all_goals try exact oG
  refine callS hA rfl (hdy P C) ?_; rintro _ rfl
  iterate 2 (all_goals try cbv; all_goals repeat' (first | with_reducible exact True.intro | with_reducible refine And.intro ?_ ?_ | intro _))
  all_goals try exact oG

set_option maxHeartbeats 1000000 in
set_option maxRecDepth 100000 in
theorem implResidual_X_fs (C : Cx P gl) {ys zs : List Cell3} {p q : List PV} {n m : Int} {d : Dyadic} (hp : p = cells3 ys) (hq : q = cells3 zs) (ok : matOk n ys ∧ matOk m zs ∧ n = m) (hd : d = resD n (dvY ys) (dvY zs)) (hX : ¬fits d)
    (hl : ys.length ≤ 2000000) (hy : ∀ y ∈ ys, y.2.1.length ≤ 2000000) (hm : zs.length ≤ 2000000) (hz9 : ∀ y ∈ zs, y.2.1.length ≤ 2000000) :
    FS P gl 48 [.agg [I n, .lst p], .agg [I m, .lst q]] (· = .tup [.agg [B false, .lst [], I 0], B false]) := by
  obtain ⟨ok1, ok2, rfl⟩ := ok
  have am := fun (P' : Program) (C' : Cx P' gl) => areMats_fs C' (n := n) (m := n) (b := true) hp hq ⟨fun _ => ⟨ok1, ok2, rfl⟩, fun _ => rfl⟩ hl hy hm hz9
  obtain ⟨n1, n4, hyl, hya⟩ := ok1
  obtain ⟨_, _, hzl, hza⟩ := ok2
  obtain ⟨⟨s1, l1, e1⟩, w1, w2⟩ := gridResidual_ex (allY_XL hya) (allY_XL hza) (by omega) (by omega) (by omega) n4 hyl hzl
  rw [← hd] at w1
  obtain ⟨z, a1, a2, a3, a4, a5⟩ := w1
  simp only at a1 a2 a3 a4 a5 w2
  obtain ⟨pr, hpr⟩ : ∃ pr, pr = intsL l1 := ⟨_, rfl⟩
  have gr := fun (P' : Program) (C' : Cx P' gl) => w2 P' gl p q pr C' hp hq hpr
  have g1 := fun (P' : Program) (C' : Cx P' gl) => matGrid_fs C' (n := n) hp hl
  have g2 := fun (P' : Program) (C' : Cx P' gl) => matGrid_fs C' (n := n) hq hm
  rw [a2] at hpr
  have hz : z = 0 ↔ d = 0 := by
    constructor
    · intro h; rw [a3, h, mk_zero]
    · intro h; rw [h, ← mk_zero e1, mk_inj] at a3; exact a3.symm
  have hdy := fun (P' : Program) (C' : Cx P' gl) => dyn_fs C' hpr a1 (e := e1) (by omega) (by omega) (fun h => hX (by rw [hz.1 h]; exact ⟨by rw [cZ_zero, show Int.natAbs 0 = 0 from rfl, dg_zero]; decide, by decide, by decide⟩)) (by rw [← a3]; exact hX)
  clear hX
  clear w2 hya hyl hza hzl hpr hp hq hy hz hz9 a1 a2 a3 a4 a5 hd
  obtain ⟨rfl, hG⟩ := C
  refine FS_ofC (args := fun A => [.agg [I n, .lst p], .agg [I n, .lst q]]) (R := fun A rr => rr = .tup [.agg [B false, .lst [], I 0], B false]) Tryz.hT Tryz.mix Tryz.func48 rfl rfl (Nat.le_of_ble_eq_true rfl) ?_
  generalize hP : Tryz.prog = P
  intro A hA
  have C : Tryz.Cx P gl := ⟨hP.symm, hG⟩
  have hI : intsL = A.ints := by subst hA; rfl
  iterate 2 (all_goals try cbv; all_goals repeat' (first | with_reducible exact True.intro | with_reducible refine And.intro ?_ ?_ | intro _))
  all_goals try exact oG
  refine callS hA rfl (am P C) ?_; rintro _ rfl
  iterate 2 (all_goals try cbv; all_goals repeat' (first | with_reducible exact True.intro | with_reducible refine And.intro ?_ ?_ | intro _))
  all_goals try exact oG
  iterate 2 (all_goals try cbv; all_goals repeat' (first | with_reducible exact True.intro | with_reducible refine And.intro ?_ ?_ | intro _))
  all_goals try exact oG
  refine ⟨_, g2 P C, ?_⟩
  iterate 2 (all_goals try cbv; all_goals repeat' (first | with_reducible exact True.intro | with_reducible refine And.intro ?_ ?_ | intro _))
  all_goals try exact oG
  refine callS hA rfl (g1 P C) ?_; rintro _ rfl
  iterate 2 (all_goals try cbv; all_goals repeat' (first | with_reducible exact True.intro | with_reducible refine And.intro ?_ ?_ | intro _))
  all_goals try exact oG
  refine callS hA rfl (gr P C) ?_; rintro _ rfl
  iterate 2 (all_goals try cbv; all_goals repeat' (first | with_reducible exact True.intro | with_reducible refine And.intro ?_ ?_ | intro _))
  all_goals try exact oG
  refine callS hA rfl (hdy P C) ?_; rintro _ rfl
  iterate 2 (all_goals try cbv; all_goals repeat' (first | with_reducible exact True.intro | with_reducible refine And.intro ?_ ?_ | intro _))
  all_goals try exact oG

set_option maxHeartbeats 1000000 in
set_option maxRecDepth 100000 in
theorem implResidual_N_fs (C : Cx P gl) {ys zs : List Cell3} {p q : List PV} {n m : Int} (hp : p = cells3 ys) (hq : q = cells3 zs) (ok : ¬(matOk n ys ∧ matOk m zs ∧ n = m))
    (hl : ys.length ≤ 2000000) (hy : ∀ y ∈ ys, y.2.1.length ≤ 2000000) (hm : zs.length ≤ 2000000) (hz9 : ∀ y ∈ zs, y.2.1.length ≤ 2000000) :
    FS P gl 48 [.agg [I n, .lst p], .agg [I m, .lst q]] (· = .tup [.agg [B false, .lst [], I 0], B false]) := by
  have am := fun (P' : Program) (C' : Cx P' gl) => areMats_fs C' (n := n) (m := m) (b := false) hp hq ⟨fun h => absurd h (by decide), fun h => absurd h ok⟩ hl hy hm hz9
  clear ok hp hq hy hz9
  obtain ⟨rfl, hG⟩ := C
  refine FS_ofT (args := fun A => [.agg [I n, .lst p], .agg [I m, .lst q]]) (R := fun A rr => rr = .tup [.agg [B false, .lst [], I 0], B false]) Tryz.hT Tryz.mix Tryz.func48 rfl rfl (Nat.le_of_ble_eq_true rfl) ?_
  generalize hP : Tryz.prog = P
  intro A hA
  have C : Tryz.Cx P gl := ⟨hP.symm, hG⟩
  have hI : intsL = A.ints := by subst hA; rfl
  iterate 2 (all_goals try cbv; all_goals repeat' (first | with_reducible exact True.intro | with_reducible refine And.intro ?_ ?_ | intro _))
  all_goals try exact oG
  refine callS hA rfl (am P C) ?_; rintro _ rfl
  iterate 2 (all_goals try cbv; all_goals repeat' (first | with_reducible exact True.intro | with_reducible refine And.intro ?_ ?_ | intro _))
  all_goals try exact oG
  iterate 2 (all_goals try cbv; all_goals repeat' (first | with_reducible exact True.intro | with_reducible refine And.intro ?_ ?_ | intro _))
  all_goals try exact oG

theorem implResidual_o_fn (C : Cx P gl) {ys zs : List Cell3} {p q : List PV} {n m : Int} {d : Dyadic} {u : Bool} {r : List PV} {g : Int} (hp : p = cells3 ys) (hq : q = cells3 zs) (ok : matOk n ys ∧ matOk m zs ∧ n = m) (hd : d = resD n (dvY ys) (dvY zs)) (fit : fits d) (n0 : d ≠ 0) (hr : r = intsL (dg (cZ d).natAbs)) (hu : u = decide (cZ d < 0)) (hg : g = cE d)
    (hl : ys.length ≤ 2000000) (hy : ∀ y ∈ ys, y.2.1.length ≤ 2000000) (hm : zs.length ≤ 2000000) (hz9 : ∀ y ∈ zs, y.2.1.length ≤ 2000000) :
    FN P gl 48 [.agg [I n, .lst p], .agg [I m, .lst q]] (fun own rr => own = [.row 3 1 r] ∧ rr = .tup [.agg [.pv (B u), .own 0, .pv (I g)], .pv (B true)]) :=
  FN_of (implResidual_o_fx C hp hq ok hd fit n0 hr hu hg hl hy hm hz9) (by rintro _ _ ⟨rfl, rfl⟩; exact ⟨by simpa using closed_ints hr _ _, rfl⟩)

set_option maxHeartbeats 1000000 in
set_option maxRecDepth 100000 in
theorem specResidual_fs (C : Cx P gl) {ys zs : List Cell3} {o : List Int} {p q r : List PV} {n m g : Int} {u w : Bool} {d : Dyadic} (hp : p = cells3 ys) (hq : q = cells3 zs) (hr : r = intsL o) (hd : d = resD n (dvY ys) (dvY zs)) (hw : w = true ↔ (matOk n ys ∧ matOk m zs ∧ n = m) ∧ fits d) (ho1 : w = true → cellsD d u o g) (ho2 : w = false → u = false ∧ o = [] ∧ g = 0)
    (hl : ys.length ≤ 2000000) (hy : ∀ y ∈ ys, y.2.1.length ≤ 2000000) (hm : zs.length ≤ 2000000) (hz9 : ∀ y ∈ zs, y.2.1.length ≤ 2000000) :
    FS P gl 47 [.agg [I n, .lst p], .agg [I m, .lst q]] (· = .tup [.agg [B u, .lst r, I g], B w]) := by
  obtain ⟨b, hb⟩ := bool_of (matOk n ys ∧ matOk m zs ∧ n = m)
  have am := fun (P' : Program) (C' : Cx P' gl) => l8both_fs C' (n := n) (m := m) (b := b) hp hq hb hl hy hm hz9
  cases b with
  | false =>
    have hwf : w = false := by
      cases hwc : w with
      | false => rfl
      | true => exact absurd (hb.2 (hw.1 hwc).1) (by decide)
    obtain ⟨k1, k2, k3⟩ := ho2 hwf
    rw [k2] at hr
    have hr0 : r = [] := hr
    rw [hwf, k1, hr0, k3]
    clear ho1 ho2 hw hb hp hq hy hz9 hr hd hr0
    obtain ⟨rfl, hG⟩ := C
    refine FS_ofT (args := fun A => [.agg [I n, .lst p], .agg [I m, .lst q]]) (R := fun A rr => rr = .tup [.agg [B false, .lst [], I 0], B false]) Tryz.hT Tryz.mix Tryz.func47 rfl rfl (Nat.le_of_ble_eq_true rfl) ?_
    generalize hP : Tryz.prog = P
    intro A hA
    have C : Tryz.Cx P gl := ⟨hP.symm, hG⟩
    have hI : intsL = A.ints := by subst hA; rfl
    iterate 2 (all_goals try cbv; all_goals repeat' (first | with_reducible exact True.intro | with_reducible refine And.intro ?_ ?_ | intro _))
    all_goals try exact oG
    refine callS hA rfl (am P C) ?_; rintro _ rfl
    iterate 2 (all_goals try cbv; all_goals repeat' (first | with_reducible exact True.intro | with_reducible refine And.intro ?_ ?_ | intro _))
    all_goals try exact oG
    iterate 2 (all_goals try cbv; all_goals repeat' (first | with_reducible exact True.intro | with_reducible refine And.intro ?_ ?_ | intro _))
    all_goals try exact oG
  | true =>
    have ok := hb.1 rfl
    obtain ⟨ok1, ok2, rfl⟩ := ok
    obtain ⟨n1, n4, hyl, hya⟩ := ok1
    obtain ⟨_, _, hzl, hza⟩ := ok2
    obtain ⟨yx, w1, _⟩ := gridResidual_ex (allY_XL hya) (allY_XL hza) (by omega) (by omega) (by omega) n4 hyl hzl
    rw [← hd] at w1
    have hlen := X_can w1
    obtain ⟨ud, hud⟩ : ∃ b, b = decide (cZ d < 0) := ⟨_, rfl⟩
    obtain ⟨rd, hrd⟩ : ∃ r, r = intsL (dg (cZ d).natAbs) := ⟨_, rfl⟩
    obtain ⟨gd, hgd⟩ : ∃ g, g = cE d := ⟨_, rfl⟩
    have nm := fun (P' : Program) (C' : Cx P' gl) => l11residual_fs C' (n := n) hp hq (allY_CL hya) (allY_CL hza) (by omega) n4 (allY_XL hza) hyl hzl (u0 := ud) (r := rd) (f := gd) (by rw [← hd]; exact hud) (by rw [← hd]; exact hrd) (by rw [← hd]; exact hgd)
    have hcd : cellsD d ud (dg (cZ d).natAbs) gd := ⟨hud, rfl, hgd⟩
    have hwf : w = true ↔ dyOk ud (dg (cZ d).natAbs) gd := by rw [hw, dyOk_cells hcd]; exact ⟨fun h => h.2, fun h => ⟨hb.1 rfl, h⟩⟩
    have ft := fun (P' : Program) (C' : Cx P' gl) => l4fits_fs C' hrd hwf (by omega) (q := r) (t := u) (f := g) (fun h => by
      obtain ⟨k1, k2, k3⟩ := ho1 h
      exact ⟨by rw [hr, k2, hrd], by rw [k1, hud], by rw [k3, hgd]⟩) (fun h => by
      obtain ⟨k1, k2, k3⟩ := ho2 h
      exact ⟨by rw [hr, k2]; rfl, k1, k3⟩)
    clear ho1 ho2 hw hb hp hq hy hz9 hr hd hya hyl hza hzl w1 hlen hud hrd hgd hcd hwf
    obtain ⟨rfl, hG⟩ := C
    refine FS_ofT (args := fun A => [.agg [I n, .lst p], .agg [I n, .lst q]]) (R := fun A rr => rr = .tup [.agg [B u, .lst r, I g], B w]) Tryz.hT Tryz.mix Tryz.func47 rfl rfl (Nat.le_of_ble_eq_true rfl) ?_
    generalize hP : Tryz.prog = P
    intro A hA
    have C : Tryz.Cx P gl := ⟨hP.symm, hG⟩
    have hI : intsL = A.ints := by subst hA; rfl
    iterate 2 (all_goals try cbv; all_goals repeat' (first | with_reducible exact True.intro | with_reducible refine And.intro ?_ ?_ | intro _))
    all_goals try exact oG
    refine callS hA rfl (am P C) ?_; rintro _ rfl
    iterate 2 (all_goals try cbv; all_goals repeat' (first | with_reducible exact True.intro | with_reducible refine And.intro ?_ ?_ | intro _))
    all_goals try exact oG
    iterate 2 (all_goals try cbv; all_goals repeat' (first | with_reducible exact True.intro | with_reducible refine And.intro ?_ ?_ | intro _))
    all_goals try exact oG
    refine callS hA rfl (nm P C) ?_; rintro _ rfl
    iterate 2 (all_goals try cbv; all_goals repeat' (first | with_reducible exact True.intro | with_reducible refine And.intro ?_ ?_ | intro _))
    all_goals try exact oG
    refine callS hA rfl (ft P C) ?_; rintro _ rfl
    iterate 2 (all_goals try cbv; all_goals repeat' (first | with_reducible exact True.intro | with_reducible refine And.intro ?_ ?_ | intro _))
    all_goals try exact oG

end Tryz
end Go.Proofs

