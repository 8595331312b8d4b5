/- Contracts: DyRoot, as the reference and the program have it. -/
import Derived.Test.YtcbagjglchpagaaDoorHM61
import Derived.Test.YtcbagjglchpagaaDoorHM62
import Derived.Test.YtcbagjglchpagaaDoorHN35
import Derived.Test.YtcbagjglchpagaaDoorHN30
import Derived.Test.YtcbagjglchpagaaDoorHN23
namespace Go.Proofs
open Go Go.Pe Go.Dg
namespace Tryd
set_option linter.unusedSimpArgs false
set_option linter.unusedVariables false
variable {P : Program} {gl : List (Nat × Obj)}

set_option maxHeartbeats 2000000 in
set_option maxRecDepth 100000 in
theorem specDyRoot_fs (C : Cx P gl) {l0 : List Int} {p0 : List PV} {s0 : Bool} {e0 n1 n2 : Int} {r : List PV} {o : List Int} {u w : Bool} {g : Int} {d : Dyadic} (hp0 : p0 = intsL l0) (hr : r = intsL o)
    (hd : d = rootD (dval s0 l0 e0) n1 n2) (hw : w = true ↔ (dyOk s0 l0 e0 ∧ s0 = false ∧ (-3000 ≤ n1 ∧ n1 ≤ 3000) ∧ 0 ≤ n2 ∧ n2 ≤ 4) ∧ fits d) (ho1 : w = true → cellsD d u o g) (ho2 : w = false → u = false ∧ o = [] ∧ g = 0)
    (b0 : l0.length ≤ 2000000) :
    FS P gl 14 [.agg [B s0, .lst p0, I e0], I n1, I n2] (· = .tup [.agg [B u, .lst r, I g], B w]) := by
  obtain ⟨c0, hc0⟩ := bool_of (dyOk s0 l0 e0)
  obtain ⟨lb, hlb⟩ : ∃ lb, lb = decide (n1 < -3000) := ⟨_, rfl⟩
  obtain ⟨lc, hlc⟩ : ∃ lc, lc = decide (3000 < n1) := ⟨_, rfl⟩
  obtain ⟨mb, hmb⟩ : ∃ mb, mb = (decide (0 ≤ n2) && decide (n2 ≤ 4)) := ⟨_, rfl⟩
  have hok : (dyOk s0 l0 e0 ∧ s0 = false ∧ (-3000 ≤ n1 ∧ n1 ≤ 3000) ∧ 0 ≤ n2 ∧ n2 ≤ 4) ↔ c0 = true ∧ s0 = false ∧ lb = false ∧ lc = false ∧ mb = true := by
    rw [hc0, hlb, hlc, hmb, Bool.and_eq_true, decide_eq_true_eq, decide_eq_true_eq, decide_eq_false_iff_not, decide_eq_false_iff_not]
    constructor
    · rintro ⟨a, b, c, d⟩; exact ⟨a, b, by omega, by omega, d⟩
    · rintro ⟨a, b, c, d, e⟩; exact ⟨a, b, by omega, e⟩
  have hno : ¬(c0 = true ∧ s0 = false ∧ lb = false ∧ lc = false ∧ mb = true) → w = false ∧ u = false ∧ r = [] ∧ g = 0 := by
    intro hn
    have hw0 : w = false := by
      cases hww : w with
      | false => rfl
      | true => exact absurd (hok.1 (hw.1 hww).1) hn
    obtain ⟨k1, k2, k3⟩ := ho2 hw0
    exact ⟨hw0, k1, by rw [hr, k2]; rfl, k3⟩
  obtain ⟨r', hr'⟩ : ∃ r, r = intsL (dg (cZ d).natAbs) := ⟨_, rfl⟩
  obtain ⟨u', hu'⟩ : ∃ r, r = decide (cZ d < 0) := ⟨_, rfl⟩
  obtain ⟨g', hg'⟩ : ∃ r, r = cE d := ⟨_, rfl⟩
  have hyes : (c0 = true ∧ s0 = false ∧ lb = false ∧ lc = false ∧ mb = true) → ∃ (pq : List PV) (sq ex : Bool) (eq : Int), (∀ P', Cx P' gl → FS P' gl 33 [.agg [B s0, .lst p0, I e0], I n1] (· = .agg [B sq, .lst pq, I eq])) ∧
      (∀ P', Cx P' gl → FS P' gl 51 [.agg [B sq, .lst pq, I eq], I n1, I n2] (· = .tup [.agg [B u', .lst r', I g'], B ex])) ∧
      (∀ P', Cx P' gl → FS P' gl 52 [.agg [B u', .lst r', I g']] (· = .tup [.agg [B u, .lst r, I g], B w])) := by
    intro hy
    have ok := hok.2 hy
    obtain ⟨ok0, ok1, ok2, ok3⟩ := id ok
    obtain ⟨⟨x1, x2, x3⟩, y1, y2, y3⟩ := dyOk_val ok0
    have hp0' : p0 = intsL (dg (cZ (dval s0 l0 e0)).natAbs) := by rw [hp0, ← x2]
    have hnn : 0 ≤ cZ (dval s0 l0 e0) := by
      rw [ok1] at x1
      have := of_decide_eq_false x1.symm
      rw [ok1]; omega
    generalize dval s0 l0 e0 = D at *
    have hb := sqrt_bounds (d := D) (low := n1) (by omega) (by omega) (by omega)
    obtain ⟨ya, exa, xa, ka⟩ := xRoot (d := D) (low := n1) (m := n2) hnn (by omega) (by omega) (by omega) (L := 1000) (E := 3000) (by omega) (by omega)
    have hlen := X_can xa
    rw [← hd] at hlen
    obtain ⟨dq, hdq⟩ : ∃ dq, dq = sqrtD D n1 := ⟨_, rfl⟩
    rw [← hdq] at hb
    have hcd : cellsD d u' (dg (cZ d).natAbs) g' := ⟨hu', rfl, hg'⟩
    have hwf : w = true ↔ dyOk u' (dg (cZ d).natAbs) g' := by rw [hw, dyOk_cells hcd]; exact ⟨fun h => h.2, fun h => ⟨ok, h⟩⟩
    refine ⟨_, _, _, _, fun P' C' => l4sqrt_fs C' hnn x1 hp0' x3 hdq rfl rfl rfl (by omega) (by omega) (by omega), fun P' C' => l4round_fs C' rfl rfl rfl (by rw [hd, hdq, root_law n1 n2 hnn]) hu' hr' hg' rfl ok3.1 ok3.2 (by omega) (by omega) (by omega), fun P' C' => ?_⟩
    refine l4fits_fs C' hr' hwf (by omega) (fun h => ?_) (fun h => ?_)
    · obtain ⟨k1, k2, k3⟩ := ho1 h
      exact ⟨by rw [hr, k2, hr'], by rw [k1, hu'], by rw [k3, hg']⟩
    · obtain ⟨k1, k2, k3⟩ := ho2 h
      exact ⟨by rw [hr, k2]; rfl, k1, k3⟩
  have am0 := fun (P' : Program) (C' : Cx P' gl) => DyOk_fs C' hp0 hc0 b0
  have hmode := fun (P' : Program) (C' : Cx P' gl) => l4mode_fs C' hmb
  clear hw ho1 ho2 hr hd hc0 hmb hok hr' hu' hg' hp0
  obtain ⟨rfl, hG⟩ := C
  refine FS_ofT (args := fun A => [.agg [B s0, .lst p0, I e0], I n1, I n2]) (R := fun A rr => rr = .tup [.agg [B u, .lst r, I g], B w]) Tryd.hT Tryd.mix Tryd.func14 rfl rfl (Nat.le_of_ble_eq_true rfl) ?_
  generalize hP : Tryd.prog = P
  intro A hA
  have C : Tryd.Cx P gl := ⟨hP.symm, hG⟩
  have hI : intsL = A.ints := by subst hA; rfl
  have f2 : A.lt n1 (-3000) = lb := by rw [hlb]; subst hA; rfl
  have f3 : A.lt 3000 n1 = lc := by rw [hlc]; subst hA; rfl
  clear hlb hlc
  iterate 2 (all_goals try cbv; all_goals repeat' (first | with_reducible exact True.intro | with_reducible refine And.intro ?_ ?_ | intro _))
  all_goals try exact oH
  refine callS hA rfl (am0 P C) ?_; rintro _ rfl
  iterate 2 (all_goals try cbv; all_goals repeat' (first | with_reducible exact True.intro | with_reducible refine And.intro ?_ ?_ | intro _))
  all_goals try exact oH
  all_goals try simp only [f2, f3]
  refine ⟨_, fun _ => hmode P C, ?_⟩
  iterate 2 (all_goals try cbv; all_goals repeat' (first | with_reducible exact True.intro | with_reducible refine And.intro ?_ ?_ | intro _))
  all_goals try exact oH
  · rename_i gg
    obtain ⟨rfl, rfl, rfl, rfl⟩ := hno (by
      rintro ⟨k1, k2, k3, k4, k5⟩
      clear hno hyes am0 hmode hI f2 f3
      subst k1 k2 k3 k4 k5 hA
      exact absurd gg (by decide))
    rfl
  · rename_i gg
    obtain ⟨pq, sq, ex, eq, h1, h2, h3⟩ := hyes (by
      clear hno hyes am0 hmode hI f2 f3
      subst hA
      revert gg
      cases c0 <;> cases s0 <;> cases lb <;> cases lc <;> cases mb <;> decide)
    clear hno hyes am0 hmode
    iterate 2 (all_goals try cbv; all_goals repeat' (first | with_reducible exact True.intro | with_reducible refine And.intro ?_ ?_ | intro _))
    all_goals try exact oH
    first | (refine callS hA rfl (h1 P C) ?_; rintro _ rfl) | refine ⟨_, h1 P C, ?_⟩
    iterate 2 (all_goals try cbv; all_goals repeat' (first | with_reducible exact True.intro | with_reducible refine And.intro ?_ ?_ | intro _))
    all_goals try exact oH
    refine callS hA rfl (h2 P C) ?_; rintro _ rfl
    iterate 2 (all_goals try cbv; all_goals repeat' (first | with_reducible exact True.intro | with_reducible refine And.intro ?_ ?_ | intro _))
    all_goals try exact oH
    refine callS hA rfl (h3 P C) ?_; rintro _ rfl
    iterate 2 (all_goals try cbv; all_goals repeat' (first | with_reducible exact True.intro | with_reducible refine And.intro ?_ ?_ | intro _))
    all_goals try exact oH

set_option maxHeartbeats 2000000 in
set_option maxRecDepth 100000 in
theorem implDyRoot_o_fx (C : Cx P gl) {l0 : List Int} {p0 : List PV} {s0 : Bool} {e0 n1 n2 : Int} {d : Dyadic} {u : Bool} {r : List PV} {g : Int} (hp0 : p0 = intsL l0) (ok : dyOk s0 l0 e0 ∧ s0 = false ∧ (-3000 ≤ n1 ∧ n1 ≤ 3000) ∧ 0 ≤ n2 ∧ n2 ≤ 4) (hd : d = rootD (dval s0 l0 e0) n1 n2) (fit : fits d) (n0 : d ≠ 0) (hr : r = intsL (dg (cZ d).natAbs)) (hu : u = decide (cZ d < 0)) (hg : g = cE d)
    (b0 : l0.length ≤ 2000000) :
    FX P gl 16 [] [.pv (.agg [B s0, .lst p0, I e0]), .pv (I n1), .pv (I n2)] (fun own rr => own = [.row 3 1 r] ∧ rr = .tup [.agg [.pv (B u), .own 0, .pv (I g)], .pv (B true)]) := by
  obtain ⟨c0, hc0⟩ := bool_of (dyOk s0 l0 e0)
  obtain ⟨lb, hlb⟩ : ∃ lb, lb = (decide (-3000 ≤ n1) && decide (n1 ≤ 3000)) := ⟨_, rfl⟩
  obtain ⟨mb, hmb⟩ : ∃ mb, mb = (decide (0 ≤ n2) && decide (n2 ≤ 4)) := ⟨_, rfl⟩
  have am := fun (P' : Program) (C' : Cx P' gl) => implDyOk_fs C' hp0 hc0 b0
  have hlow := fun (P' : Program) (C' : Cx P' gl) => isLow_fs C' hlb
  have hmode := fun (P' : Program) (C' : Cx P' gl) => isMode_fs C' hmb
  obtain ⟨ok0, ok1, ok2, ok3⟩ := ok
  obtain rfl : c0 = true := hc0.2 ok0
  obtain rfl : lb = true := by rw [hlb, decide_eq_true ok2.1, decide_eq_true ok2.2]; rfl
  obtain rfl : mb = true := by rw [hmb, decide_eq_true ok3.1, decide_eq_true ok3.2]; rfl
  clear hc0 hlb hmb
  obtain ⟨⟨x1, x2, x3⟩, y1, y2, y3⟩ := dyOk_val ok0
  have hp0' : p0 = intsL (dg (cZ (dval s0 l0 e0)).natAbs) := by rw [hp0, ← x2]
  have hnn : 0 ≤ cZ (dval s0 l0 e0) := by
    rw [ok1] at x1
    have := of_decide_eq_false x1.symm
    rw [ok1]; omega
  generalize dval s0 l0 e0 = D at *
  obtain ⟨y, ex, x, k⟩ := xRoot (d := D) (low := n1) (m := n2) hnn (by omega) (by omega) (by omega) (L := 1000) (E := 3000) (by omega) (by omega)
  rw [← hd] at x
  obtain ⟨w, i1, i2, i3, i4, i5⟩ := x
  obtain ⟨r1, hr1⟩ : ∃ r, r = intsL y.2.1 := ⟨_, rfl⟩
  obtain ⟨v1, hv1⟩ : ∃ b, b = y.1 := ⟨_, rfl⟩
  obtain ⟨g1, hg1⟩ : ∃ b, b = y.2.2 := ⟨_, rfl⟩
  have hroot := fun (P' : Program) (C' : Cx P' gl) => k P' gl p0 r1 C' hp0' hr1
  rw [← hv1, ← hg1, show (canY D).1 = s0 from x1.symm, show (canY D).2.2 = e0 from x3.symm, ok1] at hroot
  rw [i2] at hr1
  rw [i1] at hv1
  rw [← hg1] at i3 i5
  have hw1 : d = 0 ↔ w = 0 := by rw [i3, ← mk_zero g1, mk_inj]
  subst ok1
  have hdy := fun (P' : Program) (C' : Cx P' gl) => dy_fn C' hr1 hv1 i3 hr hu hg (by omega) (by omega) (fun h => n0 (hw1.2 h)) fit
  clear hr hu hg n0 fit hr1 hv1 hg1 i1 i2 i3 i4 i5 k hw1 hd x1 x2 x3 y1 y2 y3 hp0 hp0' hnn ok0
  obtain ⟨rfl, hG⟩ := C
  refine FX_ofC (own := fun A => []) (args := fun A => [.pv (.agg [B false, .lst p0, I e0]), .pv (I n1), .pv (I n2)]) (R := fun A ow rr => ow = [.row 3 1 r] ∧ rr = .tup [.agg [.pv (B u), .own 0, .pv (I g)], .pv (B true)]) Tryd.hT Tryd.mix Tryd.func16 rfl rfl (Nat.le_of_ble_eq_true rfl) ?_
  generalize hP : Tryd.prog = P
  intro A hA
  have C : Tryd.Cx P gl := ⟨hP.symm, hG⟩
  have hI : intsL = A.ints := by subst hA; rfl
  have q1 : A.bnot true = false := by subst hA; rfl
  have q2 : A.bnot false = true := by subst hA; rfl
  have q3 : ∀ x, A.pick false true x = x := fun x => by subst hA; cases x <;> rfl
  have q4 : ∀ x, A.pick true true x = true := fun x => by subst hA; cases x <;> rfl
  iterate 2 (all_goals try cbv; all_goals repeat' (first | with_reducible exact True.intro | with_reducible refine And.intro ?_ ?_ | intro _))
  all_goals try exact oH
  refine callS hA rfl (am P C) ?_; rintro _ rfl
  iterate 2 (all_goals try cbv; all_goals repeat' (first | with_reducible exact True.intro | with_reducible refine And.intro ?_ ?_ | intro _))
  all_goals try exact oH
  all_goals try simp only [q1, q2, q3, q4]
  refine ⟨_, fun _ => hlow P C, ?_⟩
  iterate 2 (all_goals try cbv; all_goals repeat' (first | with_reducible exact True.intro | with_reducible refine And.intro ?_ ?_ | intro _))
  all_goals try exact oH
  all_goals try simp only [q1, q2, q3, q4]
  refine ⟨_, fun _ => hmode P C, ?_⟩
  iterate 2 (all_goals try cbv; all_goals repeat' (first | with_reducible exact True.intro | with_reducible refine And.intro ?_ ?_ | intro _))
  all_goals try exact oH
  all_goals try simp only [q1, q2, q3, q4]
  iterate 2 (all_goals try cbv; all_goals repeat' (first | with_reducible exact True.intro | with_reducible refine And.intro ?_ ?_ | intro _))
  all_goals try exact oH
  first | (refine callS hA rfl (dyExact_fs C) ?_; rintro _ rfl) | refine ⟨_, dyExact_fs C, ?_⟩
  iterate 2 (all_goals try cbv; all_goals repeat' (first | with_reducible exact True.intro | with_reducible refine And.intro ?_ ?_ | intro _))
  all_goals try exact oH
  refine callS hA rfl (hroot P C) ?_; rintro _ rfl
  iterate 2 (all_goals try cbv; all_goals repeat' (first | with_reducible exact True.intro | with_reducible refine And.intro ?_ ?_ | intro _))
  all_goals try exact oH
  refine callN hA rfl (hdy P C) ?_; rintro _ _ ⟨rfl, rfl⟩; refine ⟨rfl, ?_⟩
  iterate 2 (all_goals try cbv; all_goals repeat' (first | with_reducible exact True.intro | with_reducible refine And.intro ?_ ?_ | intro _))
  all_goals try exact oH
  subst hA
  exact ⟨[3], _, _, by decide, Nat.zero_le _, rfl, rfl, rfl, rfl, rfl, rfl⟩

theorem implDyRoot_o_fn (C : Cx P gl) {l0 : List Int} {p0 : List PV} {s0 : Bool} {e0 n1 n2 : Int} {d : Dyadic} {u : Bool} {r : List PV} {g : Int} (hp0 : p0 = intsL l0) (ok : dyOk s0 l0 e0 ∧ s0 = false ∧ (-3000 ≤ n1 ∧ n1 ≤ 3000) ∧ 0 ≤ n2 ∧ n2 ≤ 4) (hd : d = rootD (dval s0 l0 e0) n1 n2) (fit : fits d) (n0 : d ≠ 0) (hr : r = intsL (dg (cZ d).natAbs)) (hu : u = decide (cZ d < 0)) (hg : g = cE d)
    (b0 : l0.length ≤ 2000000) :
    FN P gl 16 [.agg [B s0, .lst p0, I e0], I n1, I n2] (fun own rr => own = [.row 3 1 r] ∧ rr = .tup [.agg [.pv (B u), .own 0, .pv (I g)], .pv (B true)]) :=
  FN_of (implDyRoot_o_fx C hp0 ok hd fit n0 hr hu hg b0) (by rintro _ _ ⟨rfl, rfl⟩; exact ⟨by simpa using closed_ints hr _ _, rfl⟩)

set_option maxHeartbeats 2000000 in
set_option maxRecDepth 100000 in
theorem implDyRoot_n_fs (C : Cx P gl) {l0 : List Int} {p0 : List PV} {s0 : Bool} {e0 n1 n2 : Int} {d : Dyadic} (hp0 : p0 = intsL l0) (ok : dyOk s0 l0 e0 ∧ s0 = false ∧ (-3000 ≤ n1 ∧ n1 ≤ 3000) ∧ 0 ≤ n2 ∧ n2 ≤ 4) (hd : d = rootD (dval s0 l0 e0) n1 n2) (n0 : d = 0)
    (b0 : l0.length ≤ 2000000) :
    FS P gl 16 [.agg [B s0, .lst p0, I e0], I n1, I n2] (· = .tup [.agg [B false, .lst [], I 0], B true]) := by
  obtain ⟨c0, hc0⟩ := bool_of (dyOk s0 l0 e0)
  obtain ⟨lb, hlb⟩ : ∃ lb, lb = (decide (-3000 ≤ n1) && decide (n1 ≤ 3000)) := ⟨_, rfl⟩
  obtain ⟨mb, hmb⟩ : ∃ mb, mb = (decide (0 ≤ n2) && decide (n2 ≤ 4)) := ⟨_, rfl⟩
  have am := fun (P' : Program) (C' : Cx P' gl) => implDyOk_fs C' hp0 hc0 b0
  have hlow := fun (P' : Program) (C' : Cx P' gl) => isLow_fs C' hlb
  have hmode := fun (P' : Program) (C' : Cx P' gl) => isMode_fs C' hmb
  obtain ⟨ok0, ok1, ok2, ok3⟩ := ok
  obtain rfl : c0 = true := hc0.2 ok0
  obtain rfl : lb = true := by rw [hlb, decide_eq_true ok2.1, decide_eq_true ok2.2]; rfl
  obtain rfl : mb = true := by rw [hmb, decide_eq_true ok3.1, decide_eq_true ok3.2]; rfl
  clear hc0 hlb hmb
  obtain ⟨⟨x1, x2, x3⟩, y1, y2, y3⟩ := dyOk_val ok0
  have hp0' : p0 = intsL (dg (cZ (dval s0 l0 e0)).natAbs) := by rw [hp0, ← x2]
  have hnn : 0 ≤ cZ (dval s0 l0 e0) := by
    rw [ok1] at x1
    have := of_decide_eq_false x1.symm
    rw [ok1]; omega
  generalize dval s0 l0 e0 = D at *
  obtain ⟨y, ex, x, k⟩ := xRoot (d := D) (low := n1) (m := n2) hnn (by omega) (by omega) (by omega) (L := 1000) (E := 3000) (by omega) (by omega)
  rw [← hd] at x
  obtain ⟨w, i1, i2, i3, i4, i5⟩ := x
  obtain ⟨r1, hr1⟩ : ∃ r, r = intsL y.2.1 := ⟨_, rfl⟩
  obtain ⟨v1, hv1⟩ : ∃ b, b = y.1 := ⟨_, rfl⟩
  obtain ⟨g1, hg1⟩ : ∃ b, b = y.2.2 := ⟨_, rfl⟩
  have hroot := fun (P' : Program) (C' : Cx P' gl) => k P' gl p0 r1 C' hp0' hr1
  rw [← hv1, ← hg1, show (canY D).1 = s0 from x1.symm, show (canY D).2.2 = e0 from x3.symm, ok1] at hroot
  rw [i2] at hr1
  rw [i1] at hv1
  rw [← hg1] at i3 i5
  have hw1 : d = 0 ↔ w = 0 := by rw [i3, ← mk_zero g1, mk_inj]
  subst ok1
  have hz : r1 = [] := by rw [hr1, hw1.1 n0, show Int.natAbs 0 = 0 from rfl, dg_zero]; rfl
  rw [hz] at hroot
  have hdy := fun (P' : Program) (C' : Cx P' gl) => @dy0_fs P' gl C' g1 v1
  clear n0 hz hr1 hv1 hg1 i1 i2 i3 i4 i5 k hw1 hd x1 x2 x3 y1 y2 y3 hp0 hp0' hnn ok0
  obtain ⟨rfl, hG⟩ := C
  refine FS_ofC (args := fun A => [.agg [B false, .lst p0, I e0], I n1, I n2]) (R := fun A rr => rr = .tup [.agg [B false, .lst [], I 0], B true]) Tryd.hT Tryd.mix Tryd.func16 rfl rfl (Nat.le_of_ble_eq_true rfl) ?_
  generalize hP : Tryd.prog = P
  intro A hA
  have C : Tryd.Cx P gl := ⟨hP.symm, hG⟩
  have hI : intsL = A.ints := by subst hA; rfl
  have q1 : A.bnot true = false := by subst hA; rfl
  have q2 : A.bnot false = true := by subst hA; rfl
  have q3 : ∀ x, A.pick false true x = x := fun x => by subst hA; cases x <;> rfl
  have q4 : ∀ x, A.pick true true x = true := fun x => by subst hA; cases x <;> rfl
  iterate 2 (all_goals try cbv; all_goals repeat' (first | with_reducible exact True.intro | with_reducible refine And.intro ?_ ?_ | intro _))
  all_goals try exact oH
  refine callS hA rfl (am P C) ?_; rintro _ rfl
  iterate 2 (all_goals try cbv; all_goals repeat' (first | with_reducible exact True.intro | with_reducible refine And.intro ?_ ?_ | intro _))
  all_goals try exact oH
  all_goals try simp only [q1, q2, q3, q4]
  refine ⟨_, fun _ => hlow P C, ?_⟩
  iterate 2 (all_goals try cbv; all_goals repeat' (first | with_reducible exact True.intro | with_reducible refine And.intro ?_ ?_ | intro _))
  all_goals try exact oH
  all_goals try simp only [q1, q2, q3, q4]
  refine ⟨_, fun _ => hmode P C, ?_⟩
  iterate 2 (all_goals try cbv; all_goals repeat' (first | with_reducible exact True.intro | with_reducible refine And.intro ?_ ?_ | intro _))
  all_goals try exact oH
  all_goals try simp only [q1, q2, q3, q4]
  iterate 2 (all_goals try cbv; all_goals repeat' (first | with_reducible exact True.intro | with_reducible refine And.intro ?_ ?_ | intro _))
  all_goals try exact oH
  first | (refine callS hA rfl (dyExact_fs C) ?_; rintro _ rfl) | refine ⟨_, dyExact_fs C, ?_⟩
  iterate 2 (all_goals try cbv; all_goals repeat' (first | with_reducible exact True.intro | with_reducible refine And.intro ?_ ?_ | intro _))
  all_goals try exact oH
  refine callS hA rfl (hroot P C) ?_; rintro _ rfl
  iterate 2 (all_goals try cbv; all_goals repeat' (first | with_reducible exact True.intro | with_reducible refine And.intro ?_ ?_ | intro _))
  all_goals try exact oH
  refine callS hA rfl (hdy P C) ?_; rintro _ rfl
  iterate 2 (all_goals try cbv; all_goals repeat' (first | with_reducible exact True.intro | with_reducible refine And.intro ?_ ?_ | intro _))
  all_goals try exact oH

set_option maxHeartbeats 2000000 in
set_option maxRecDepth 100000 in
theorem implDyRoot_X_fs (C : Cx P gl) {l0 : List Int} {p0 : List PV} {s0 : Bool} {e0 n1 n2 : Int} {d : Dyadic} (hp0 : p0 = intsL l0) (ok : dyOk s0 l0 e0 ∧ s0 = false ∧ (-3000 ≤ n1 ∧ n1 ≤ 3000) ∧ 0 ≤ n2 ∧ n2 ≤ 4) (hd : d = rootD (dval s0 l0 e0) n1 n2) (hX : ¬fits d)
    (b0 : l0.length ≤ 2000000) :
    FS P gl 16 [.agg [B s0, .lst p0, I e0], I n1, I n2] (· = .tup [.agg [B false, .lst [], I 0], B false]) := by
  obtain ⟨c0, hc0⟩ := bool_of (dyOk s0 l0 e0)
  obtain ⟨lb, hlb⟩ : ∃ lb, lb = (decide (-3000 ≤ n1) && decide (n1 ≤ 3000)) := ⟨_, rfl⟩
  obtain ⟨mb, hmb⟩ : ∃ mb, mb = (decide (0 ≤ n2) && decide (n2 ≤ 4)) := ⟨_, rfl⟩
  have am := fun (P' : Program) (C' : Cx P' gl) => implDyOk_fs C' hp0 hc0 b0
  have hlow := fun (P' : Program) (C' : Cx P' gl) => isLow_fs C' hlb
  have hmode := fun (P' : Program) (C' : Cx P' gl) => isMode_fs C' hmb
  obtain ⟨ok0, ok1, ok2, ok3⟩ := ok
  obtain rfl : c0 = true := hc0.2 ok0
  obtain rfl : lb = true := by rw [hlb, decide_eq_true ok2.1, decide_eq_true ok2.2]; rfl
  obtain rfl : mb = true := by rw [hmb, decide_eq_true ok3.1, decide_eq_true ok3.2]; rfl
  clear hc0 hlb hmb
  obtain ⟨⟨x1, x2, x3⟩, y1, y2, y3⟩ := dyOk_val ok0
  have hp0' : p0 = intsL (dg (cZ (dval s0 l0 e0)).natAbs) := by rw [hp0, ← x2]
  have hnn : 0 ≤ cZ (dval s0 l0 e0) := by
    rw [ok1] at x1
    have := of_decide_eq_false x1.symm
    rw [ok1]; omega
  generalize dval s0 l0 e0 = D at *
  obtain ⟨y, ex, x, k⟩ := xRoot (d := D) (low := n1) (m := n2) hnn (by omega) (by omega) (by omega) (L := 1000) (E := 3000) (by omega) (by omega)
  rw [← hd] at x
  obtain ⟨w, i1, i2, i3, i4, i5⟩ := x
  obtain ⟨r1, hr1⟩ : ∃ r, r = intsL y.2.1 := ⟨_, rfl⟩
  obtain ⟨v1, hv1⟩ : ∃ b, b = y.1 := ⟨_, rfl⟩
  obtain ⟨g1, hg1⟩ : ∃ b, b = y.2.2 := ⟨_, rfl⟩
  have hroot := fun (P' : Program) (C' : Cx P' gl) => k P' gl p0 r1 C' hp0' hr1
  rw [← hv1, ← hg1, show (canY D).1 = s0 from x1.symm, show (canY D).2.2 = e0 from x3.symm, ok1] at hroot
  rw [i2] at hr1
  rw [i1] at hv1
  rw [← hg1] at i3 i5
  have hw1 : d = 0 ↔ w = 0 := by rw [i3, ← mk_zero g1, mk_inj]
  subst ok1
  have hdy := fun (P' : Program) (C' : Cx P' gl) => dyn_fs C' (e := g1) hr1 hv1 (by omega) (by omega) (fun h => hX (by rw [hw1.2 h]; exact fits_zero)) (by rw [← i3]; exact hX)
  clear hX hr1 hv1 hg1 i1 i2 i3 i4 i5 k hw1 hd x1 x2 x3 y1 y2 y3 hp0 hp0' hnn ok0
  obtain ⟨rfl, hG⟩ := C
  refine FS_ofC (args := fun A => [.agg [B false, .lst p0, I e0], I n1, I n2]) (R := fun A rr => rr = .tup [.agg [B false, .lst [], I 0], B false]) Tryd.hT Tryd.mix Tryd.func16 rfl rfl (Nat.le_of_ble_eq_true rfl) ?_
  generalize hP : Tryd.prog = P
  intro A hA
  have C : Tryd.Cx P gl := ⟨hP.symm, hG⟩
  have hI : intsL = A.ints := by subst hA; rfl
  have q1 : A.bnot true = false := by subst hA; rfl
  have q2 : A.bnot false = true := by subst hA; rfl
  have q3 : ∀ x, A.pick false true x = x := fun x => by subst hA; cases x <;> rfl
  have q4 : ∀ x, A.pick true true x = true := fun x => by subst hA; cases x <;> rfl
  iterate 2 (all_goals try cbv; all_goals repeat' (first | with_reducible exact True.intro | with_reducible refine And.intro ?_ ?_ | intro _))
  all_goals try exact oH
  refine callS hA rfl (am P C) ?_; rintro _ rfl
  iterate 2 (all_goals try cbv; all_goals repeat' (first | with_reducible exact True.intro | with_reducible refine And.intro ?_ ?_ | intro _))
  all_goals try exact oH
  all_goals try simp only [q1, q2, q3, q4]
  refine ⟨_, fun _ => hlow P C, ?_⟩
  iterate 2 (all_goals try cbv; all_goals repeat' (first | with_reducible exact True.intro | with_reducible refine And.intro ?_ ?_ | intro _))
  all_goals try exact oH
  all_goals try simp only [q1, q2, q3, q4]
  refine ⟨_, fun _ => hmode P C, ?_⟩
  iterate 2 (all_goals try cbv; all_goals repeat' (first | with_reducible exact True.intro | with_reducible refine And.intro ?_ ?_ | intro _))
  all_goals try exact oH
  all_goals try simp only [q1, q2, q3, q4]
  iterate 2 (all_goals try cbv; all_goals repeat' (first | with_reducible exact True.intro | with_reducible refine And.intro ?_ ?_ | intro _))
  all_goals try exact oH
  first | (refine callS hA rfl (dyExact_fs C) ?_; rintro _ rfl) | refine ⟨_, dyExact_fs C, ?_⟩
  iterate 2 (all_goals try cbv; all_goals repeat' (first | with_reducible exact True.intro | with_reducible refine And.intro ?_ ?_ | intro _))
  all_goals try exact oH
  refine callS hA rfl (hroot P C) ?_; rintro _ rfl
  iterate 2 (all_goals try cbv; all_goals repeat' (first | with_reducible exact True.intro | with_reducible refine And.intro ?_ ?_ | intro _))
  all_goals try exact oH
  refine callS hA rfl (hdy P C) ?_; rintro _ rfl
  iterate 2 (all_goals try cbv; all_goals repeat' (first | with_reducible exact True.intro | with_reducible refine And.intro ?_ ?_ | intro _))
  all_goals try exact oH

set_option maxHeartbeats 2000000 in
set_option maxRecDepth 100000 in
theorem implDyRoot_N_fs (C : Cx P gl) {l0 : List Int} {p0 : List PV} {s0 : Bool} {e0 n1 n2 : Int} (hp0 : p0 = intsL l0) (ok : ¬(dyOk s0 l0 e0 ∧ s0 = false ∧ (-3000 ≤ n1 ∧ n1 ≤ 3000) ∧ 0 ≤ n2 ∧ n2 ≤ 4))
    (b0 : l0.length ≤ 2000000) :
    FS P gl 16 [.agg [B s0, .lst p0, I e0], I n1, I n2] (· = .tup [.agg [B false, .lst [], I 0], B false]) := by
  obtain ⟨c0, hc0⟩ := bool_of (dyOk s0 l0 e0)
  obtain ⟨lb, hlb⟩ : ∃ lb, lb = (decide (-3000 ≤ n1) && decide (n1 ≤ 3000)) := ⟨_, rfl⟩
  obtain ⟨mb, hmb⟩ : ∃ mb, mb = (decide (0 ≤ n2) && decide (n2 ≤ 4)) := ⟨_, rfl⟩
  have am := fun (P' : Program) (C' : Cx P' gl) => implDyOk_fs C' hp0 hc0 b0
  have hlow := fun (P' : Program) (C' : Cx P' gl) => isLow_fs C' hlb
  have hmode := fun (P' : Program) (C' : Cx P' gl) => isMode_fs C' hmb
  have hno : c0 = true → s0 = false → lb = true → mb = true → False := by
    intro h1 h2 h3 h4
    rw [hlb, Bool.and_eq_true, decide_eq_true_eq, decide_eq_true_eq] at h3
    rw [hmb, Bool.and_eq_true, decide_eq_true_eq, decide_eq_true_eq] at h4
    exact ok ⟨hc0.1 h1, h2, h3, h4⟩
  clear ok hc0 hlb hmb hp0
  obtain ⟨rfl, hG⟩ := C
  refine FS_ofC (args := fun A => [.agg [B s0, .lst p0, I e0], I n1, I n2]) (R := fun A rr => rr = .tup [.agg [B false, .lst [], I 0], B false]) Tryd.hT Tryd.mix Tryd.func16 rfl rfl (Nat.le_of_ble_eq_true rfl) ?_
  generalize hP : Tryd.prog = P
  intro A hA
  have C : Tryd.Cx P gl := ⟨hP.symm, hG⟩
  have hI : intsL = A.ints := by subst hA; rfl
  have q1 : A.bnot true = false := by subst hA; rfl
  have q2 : A.bnot false = true := by subst hA; rfl
  have q3 : ∀ x, A.pick false true x = x := fun x => by subst hA; cases x <;> rfl
  have q4 : ∀ x, A.pick true true x = true := fun x => by subst hA; cases x <;> rfl
  iterate 2 (all_goals try cbv; all_goals repeat' (first | with_reducible exact True.intro | with_reducible refine And.intro ?_ ?_ | intro _))
  all_goals try exact oH
  refine callS hA rfl (am P C) ?_; rintro _ rfl
  iterate 2 (all_goals try cbv; all_goals repeat' (first | with_reducible exact True.intro | with_reducible refine And.intro ?_ ?_ | intro _))
  all_goals try exact oH
  refine ⟨_, fun _ => hlow P C, ?_⟩
  iterate 2 (all_goals try cbv; all_goals repeat' (first | with_reducible exact True.intro | with_reducible refine And.intro ?_ ?_ | intro _))
  all_goals try exact oH
  refine ⟨_, fun _ => hmode P C, ?_⟩
  iterate 2 (all_goals try cbv; all_goals repeat' (first | with_reducible exact True.intro | with_reducible refine And.intro ?_ ?_ | intro _))
  all_goals try exact oH
  · rename_i gg
    exfalso
    clear am hlow hmode hI q1 q2 q3 q4
    subst hA
    revert gg hno
    cases c0 <;> cases s0 <;> cases lb <;> cases mb <;> intro hno gg <;> first | exact hno rfl rfl rfl rfl | exact absurd gg (by decide)

end Tryd
end Go.Proofs
