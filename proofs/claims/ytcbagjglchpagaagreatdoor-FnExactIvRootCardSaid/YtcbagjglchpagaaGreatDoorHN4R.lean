/- Contracts: IvRoot, as the reference and the program have it. -/
import Derived.Test.YtcbagjglchpagaaGreatDoorHN40
import Derived.Test.YtcbagjglchpagaaGreatDoorHM61
import Derived.Test.YtcbagjglchpagaaGreatDoorHM62
namespace Go.Proofs
open Go Go.Pe Go.Dg
namespace Tryz
set_option linter.unusedSimpArgs false
set_option linter.unusedVariables false
variable {P : Program} {gl : List (Nat × Obj)}

/-- the lower end is not negative: nor is the upper one -/
theorem iv_nonneg {l m : List Int} {e f : Int} {s t : Bool} (hok : ivOk s l e t m f) (hs : s = false) : 0 ≤ cZ (dval s l e) ∧ 0 ≤ cZ (dval t m f) := by
  obtain ⟨⟨x1, x2, x3⟩, _⟩ := dyOk_val hok.1
  have h1 : 0 ≤ cZ (dval s l e) := by
    rw [hs] at x1
    have := of_decide_eq_false x1.symm
    rw [hs]; omega
  refine ⟨h1, ?_⟩
  exact nonneg_mono hok.2.2 h1

set_option maxHeartbeats 2000000 in
set_option maxRecDepth 100000 in
theorem specIvRoot_fs (C : Cx P gl) {l0 m0 : List Int} {p0 q0 : List PV} {s0 t0 : Bool} {e0 f0 n1 : Int} {r x : List PV} {o o2 : List Int} {u v w : Bool} {g h : Int} {d1 d2 : Dyadic} (hp0 : p0 = intsL l0) (hq0 : q0 = intsL m0) (hr : r = intsL o) (hx : x = intsL o2)
    (hd1 : d1 = rootD (dval s0 l0 e0) n1 3) (hd2 : d2 = rootD (dval t0 m0 f0) n1 2) (hw : w = true ↔ (ivOk s0 l0 e0 t0 m0 f0 ∧ (-200 ≤ n1 ∧ n1 ≤ 200) ∧ s0 = false) ∧ fits d1 ∧ fits d2) (ho1 : w = true → cellsD d1 u o g ∧ cellsD d2 v o2 h) (ho2 : w = false → (u = false ∧ o = [] ∧ g = 0) ∧ v = false ∧ o2 = [] ∧ h = 0)
    (b0 : l0.length ≤ 2000000) (b1 : m0.length ≤ 2000000) :
    FS P gl 18 [.agg [B s0, .lst p0, I e0, B t0, .lst q0, I f0], I n1] (· = .tup [.agg [B u, .lst r, I g, B v, .lst x, I h], B w]) := by
  obtain ⟨c0, hc0⟩ := bool_of (ivOk s0 l0 e0 t0 m0 f0)
  have am := fun (P' : Program) (C' : Cx P' gl) => IvOk_fs C' hp0 hq0 hc0 b0 b1
  obtain ⟨lb, hlb⟩ : ∃ lb, lb = (decide (-200 ≤ n1) && decide (n1 ≤ 200)) := ⟨_, rfl⟩
  have lo := fun (P' : Program) (C' : Cx P' gl) => l7low_fs C' hlb
  by_cases ok : ivOk s0 l0 e0 t0 m0 f0 ∧ (-200 ≤ n1 ∧ n1 ≤ 200) ∧ s0 = false
  · obtain ⟨ok0, ok1, ok2⟩ := id ok
    obtain rfl : c0 = true := hc0.2 ok0
    obtain rfl : lb = true := by rw [hlb, decide_eq_true ok1.1, decide_eq_true ok1.2]; rfl
    obtain ⟨c1, c2, g1, g2, z1, z2, z3, z4, z5, z6, f1, f2⟩ := ivOk_can hp0 hq0 ok0
    obtain ⟨nn1, nn2⟩ := iv_nonneg ok0 ok2
    rw [g1] at nn1
    rw [g2] at nn2
    rw [g1] at hd1
    rw [g2] at hd2
    obtain ⟨a1, a2, a3⟩ := id f1
    obtain ⟨a4, a5, a6⟩ := id f2
    obtain ⟨y1, ex1, x1, k1⟩ := xRoot (d := c1) (low := n1) (m := 3) (L := 2000) (E := 3000) nn1 (by omega) (by omega) (by omega) (by omega) (by omega)
    obtain ⟨y2, ex2, x2, k2⟩ := xRoot (d := c2) (low := n1) (m := 2) (L := 2000) (E := 3000) nn2 (by omega) (by omega) (by omega) (by omega) (by omega)
    rw [← hd1] at x1
    rw [← hd2] at x2
    have hw2 : w = true ↔ fits d1 ∧ fits d2 := by rw [hw]; exact ⟨fun h => h.2, fun h => ⟨ok, h⟩⟩
    have l1 := X_can x1
    have l2 := X_can x2
    obtain ⟨r', hr'⟩ : ∃ r, r = intsL (dg (cZ d1).natAbs) := ⟨_, rfl⟩
    obtain ⟨u', hu'⟩ : ∃ r, r = decide (cZ d1 < 0) := ⟨_, rfl⟩
    obtain ⟨g', hg'⟩ : ∃ r, r = cE d1 := ⟨_, rfl⟩
    obtain ⟨x', hx'⟩ : ∃ r, r = intsL (dg (cZ d2).natAbs) := ⟨_, rfl⟩
    obtain ⟨v', hv'⟩ : ∃ r, r = decide (cZ d2 < 0) := ⟨_, rfl⟩
    obtain ⟨h', hh'⟩ : ∃ r, r = cE d2 := ⟨_, rfl⟩
    have hOut : outI w r' x' r x u' v' u v g' h' g h := by
      refine ⟨fun hwt => ?_, fun hwf => ?_⟩
      · obtain ⟨⟨k1, k2, k3⟩, k4, k5, k6⟩ := ho1 hwt
        exact ⟨by rw [hr, k2, hr'], by rw [k1, hu'], by rw [k3, hg'], by rw [hx, k5, hx'], by rw [k4, hv'], by rw [k6, hh']⟩
      · obtain ⟨⟨k1, k2, k3⟩, k4, k5, k6⟩ := ho2 hwf
        exact ⟨by rw [hr, k2]; rfl, k1, k3, by rw [hx, k5]; rfl, k4, k6⟩
    have ft := fun (P' : Program) (C' : Cx P' gl) => l7fits_fs C' hr' hu' hg' hx' hv' hh' (by omega) (by omega) hw2 hOut
    have ou1 := fun (P' : Program) (C' : Cx P' gl) => l7root_fs C' (low := n1) (m := 3) nn1 z1 z2 z3 hd1 hu' hr' hg' (by decide) (by decide) (by omega) (by omega) (by omega)
    have ou2 := fun (P' : Program) (C' : Cx P' gl) => l7root_fs C' (low := n1) (m := 2) nn2 z4 z5 z6 hd2 hv' hx' hh' (by decide) (by decide) (by omega) (by omega) (by omega)
    clear hw ho1 ho2 hr hx hd1 hd2 hc0 hlb ok ok0 k1 k2 x1 x2 hr' hu' hg' hx' hv' hh' hOut hw2 z1 z2 z3 z4 z5 z6 g1 g2 hp0 hq0 nn1 nn2
    subst ok2
    obtain ⟨rfl, hG⟩ := C
    refine FS_ofT (args := fun A => [.agg [B false, .lst p0, I e0, B t0, .lst q0, I f0], I n1]) (R := fun A rr => rr = .tup [.agg [B u, .lst r, I g, B v, .lst x, I h], B w]) Tryz.hT Tryz.mix Tryz.func18 rfl rfl (Nat.le_of_ble_eq_true rfl) ?_
    generalize hP : Tryz.prog = P
    intro A hA
    have C : Tryz.Cx P gl := ⟨hP.symm, hG⟩
    have hI : intsL = A.ints := by subst hA; rfl
    iterate 2 (all_goals try cbv; all_goals repeat' (first | with_reducible exact True.intro | with_reducible refine And.intro ?_ ?_ | intro _))
    all_goals try exact oH
    refine callS hA rfl (am P C) ?_; rintro _ rfl
    iterate 2 (all_goals try cbv; all_goals repeat' (first | with_reducible exact True.intro | with_reducible refine And.intro ?_ ?_ | intro _))
    all_goals try exact oH
    refine ⟨_, fun _ => lo P C, ?_⟩
    iterate 2 (all_goals try cbv; all_goals repeat' (first | with_reducible exact True.intro | with_reducible refine And.intro ?_ ?_ | intro _))
    all_goals try exact oH
    iterate 2 (all_goals try cbv; all_goals repeat' (first | with_reducible exact True.intro | with_reducible refine And.intro ?_ ?_ | intro _))
    all_goals try exact oH
    first | (refine callS hA rfl (ou1 P C) ?_; rintro _ rfl) | refine ⟨_, ou1 P C, ?_⟩
    iterate 2 (all_goals try cbv; all_goals repeat' (first | with_reducible exact True.intro | with_reducible refine And.intro ?_ ?_ | intro _))
    all_goals try exact oH
    first | (refine callS hA rfl (ou2 P C) ?_; rintro _ rfl) | refine ⟨_, ou2 P C, ?_⟩
    iterate 2 (all_goals try cbv; all_goals repeat' (first | with_reducible exact True.intro | with_reducible refine And.intro ?_ ?_ | intro _))
    all_goals try exact oH
    first | (refine callS hA rfl (ft P C) ?_; rintro _ rfl) | refine ⟨_, ft P C, ?_⟩
    iterate 2 (all_goals try cbv; all_goals repeat' (first | with_reducible exact True.intro | with_reducible refine And.intro ?_ ?_ | intro _))
    all_goals try exact oH
  · have hwf : w = false := by
      cases hww : w with
      | false => rfl
      | true => exact absurd (hw.1 hww).1 ok
    obtain ⟨⟨k1, k2, k3⟩, k4, k5, k6⟩ := ho2 hwf
    have hr0 : r = [] := by rw [hr, k2]; rfl
    have hx0 : x = [] := by rw [hx, k5]; rfl
    rw [hwf, k1, hr0, k3, k4, hx0, k6]
    have hno : c0 = true → lb = true → s0 = false → False := by
      intro h1 h2 h3
      rw [hlb, Bool.and_eq_true, decide_eq_true_eq, decide_eq_true_eq] at h2
      exact ok ⟨hc0.1 h1, h2, h3⟩
    clear hw ho1 ho2 hr hx hd1 hd2 hc0 hlb ok hr0 hx0 k1 k2 k3 k4 k5 k6 hwf hp0 hq0
    obtain ⟨rfl, hG⟩ := C
    refine FS_ofT (args := fun A => [.agg [B s0, .lst p0, I e0, B t0, .lst q0, I f0], I n1]) (R := fun A rr => rr = .tup [.agg [B false, .lst [], I 0, B false, .lst [], I 0], B false]) Tryz.hT Tryz.mix Tryz.func18 rfl rfl (Nat.le_of_ble_eq_true rfl) ?_
    generalize hP : Tryz.prog = P
    intro A hA
    have C : Tryz.Cx P gl := ⟨hP.symm, hG⟩
    have hI : intsL = A.ints := by subst hA; rfl
    iterate 2 (all_goals try cbv; all_goals repeat' (first | with_reducible exact True.intro | with_reducible refine And.intro ?_ ?_ | intro _))
    all_goals try exact oH
    refine callS hA rfl (am P C) ?_; rintro _ rfl
    iterate 2 (all_goals try cbv; all_goals repeat' (first | with_reducible exact True.intro | with_reducible refine And.intro ?_ ?_ | intro _))
    all_goals try exact oH
    refine ⟨_, fun _ => lo P C, ?_⟩
    iterate 2 (all_goals try cbv; all_goals repeat' (first | with_reducible exact True.intro | with_reducible refine And.intro ?_ ?_ | intro _))
    all_goals try exact oH
    iterate 2 (all_goals try cbv; all_goals repeat' (first | with_reducible exact True.intro | with_reducible refine And.intro ?_ ?_ | intro _))
    all_goals try exact oH
    all_goals (
      exfalso
      rename_i gg
      clear am lo hI
      subst hA
      revert gg hno
      cases c0 <;> cases lb <;> cases s0 <;> intro hno gg <;> first | exact hno rfl rfl rfl | exact absurd gg (by decide))

set_option maxHeartbeats 2000000 in
set_option maxRecDepth 100000 in
theorem implIvRoot_oo_fx (C : Cx P gl) {l0 m0 : List Int} {p0 q0 : List PV} {s0 t0 : Bool} {e0 f0 n1 : Int} {d1 d2 : Dyadic} {u : Bool} {r : List PV} {g : Int} {v : Bool} {x : List PV} {h : Int} (hp0 : p0 = intsL l0) (hq0 : q0 = intsL m0) (ok : ivOk s0 l0 e0 t0 m0 f0 ∧ (-200 ≤ n1 ∧ n1 ≤ 200) ∧ s0 = false) (hd1 : d1 = rootD (dval s0 l0 e0) n1 3) (hd2 : d2 = rootD (dval t0 m0 f0) n1 2) (fit1 : fits d1) (nz1 : d1 ≠ 0) (hr1 : r = intsL (dg (cZ d1).natAbs)) (hu1 : u = decide (cZ d1 < 0)) (hg1 : g = cE d1) (fit2 : fits d2) (nz2 : d2 ≠ 0) (hr2 : x = intsL (dg (cZ d2).natAbs)) (hu2 : v = decide (cZ d2 < 0)) (hg2 : h = cE d2)
    (b0 : l0.length ≤ 2000000) (b1 : m0.length ≤ 2000000) :
    FX P gl 19 [] [.pv (.agg [B s0, .lst p0, I e0, B t0, .lst q0, I f0]), .pv (I n1)] (fun own rr => own = [.row 3 1 r, .row 3 1 x] ∧ rr = .tup [.agg [.pv (B u), .own 0, .pv (I g), .pv (B v), .own 1, .pv (I h)], .pv (B true)]) := by
  obtain ⟨ok0, ok1, ok2⟩ := ok
  have am := fun (P' : Program) (C' : Cx P' gl) => implIvOk_fs C' (b := true) hp0 hq0 ⟨fun _ => ok0, fun _ => rfl⟩ b0 b1
  have lo := fun (P' : Program) (C' : Cx P' gl) => isFine_fs C' (n := n1) (b := true) (by rw [decide_eq_true ok1.1, decide_eq_true ok1.2]; rfl)
  obtain ⟨c1, c2, g1, g2, z1, z2, z3, z4, z5, z6, f1, f2⟩ := ivOk_can hp0 hq0 ok0
  obtain ⟨nn1, nn2⟩ := iv_nonneg ok0 ok2
  rw [g1] at nn1
  rw [g2] at nn2
  rw [g1] at hd1
  rw [g2] at hd2
  obtain ⟨a1, a2, a3⟩ := id f1
  obtain ⟨a4, a5, a6⟩ := id f2
  obtain ⟨y1, ex1, x1, k1⟩ := xRoot (d := c1) (low := n1) (m := 3) (L := 2000) (E := 3000) nn1 (by omega) (by omega) (by omega) (by omega) (by omega)
  obtain ⟨y2, ex2, x2, k2⟩ := xRoot (d := c2) (low := n1) (m := 2) (L := 2000) (E := 3000) nn2 (by omega) (by omega) (by omega) (by omega) (by omega)
  rw [← hd1] at x1
  rw [← hd2] at x2
  obtain ⟨w1, i1, i2, i3, i4, i5⟩ := x1
  obtain ⟨w2, j1, j2, j3, j4, j5⟩ := x2
  obtain ⟨r1, hr1'⟩ : ∃ r, r = intsL y1.2.1 := ⟨_, rfl⟩
  obtain ⟨r2, hr2'⟩ : ∃ r, r = intsL y2.2.1 := ⟨_, rfl⟩
  obtain ⟨v1, hv1'⟩ : ∃ b, b = y1.1 := ⟨_, rfl⟩
  obtain ⟨v2, hv2'⟩ : ∃ b, b = y2.1 := ⟨_, rfl⟩
  obtain ⟨g3, hg3'⟩ : ∃ b, b = y1.2.2 := ⟨_, rfl⟩
  obtain ⟨g4, hg4'⟩ : ∃ b, b = y2.2.2 := ⟨_, rfl⟩
  have e1 := fun (P' : Program) (C' : Cx P' gl) => k1 P' gl p0 r1 C' z2 hr1'
  have e2 := fun (P' : Program) (C' : Cx P' gl) => k2 P' gl q0 r2 C' z5 hr2'
  rw [← hv1', ← hg3', show (canY c1).1 = s0 from z1.symm, show (canY c1).2.2 = e0 from z3.symm] at e1
  rw [← hv2', ← hg4', show (canY c2).1 = t0 from z4.symm, show (canY c2).2.2 = f0 from z6.symm] at e2
  rw [i2] at hr1'
  rw [j2] at hr2'
  rw [i1] at hv1'
  rw [j1] at hv2'
  rw [← hg3'] at i3 i5
  rw [← hg4'] at j3 j5
  have hw1 : d1 = 0 ↔ w1 = 0 := by rw [i3, ← mk_zero g3, mk_inj]
  have hw2 : d2 = 0 ↔ w2 = 0 := by rw [j3, ← mk_zero g4, mk_inj]
  have hiv := fun (P' : Program) (C' : Cx P' gl) => spanIv_oo_fn C' hr1' hv1' hr2' hv2' i3 j3 (by omega) (by omega) (by omega) (by omega) fit1 (fun h => nz1 (hw1.2 h)) hr1 hu1 hg1 fit2 (fun h => nz2 (hw2.2 h)) hr2 hu2 hg2
  clear hr1' hr2' hv1' hv2' hw1 hw2 hd1 hd2 ok0 i1 i2 i3 i4 i5 j1 j2 j3 j4 j5 k1 k2 hr1 hu1 hg1 nz1 hr2 hu2 hg2 nz2 g1 g2 z1 z2 z3 z4 z5 z6 hp0 hq0 hg3' hg4'
  subst ok2
  obtain ⟨rfl, hG⟩ := C
  refine FX_ofC (own := fun A => []) (args := fun A => [.pv (.agg [B false, .lst p0, I e0, B t0, .lst q0, I f0]), .pv (I n1)]) (R := fun A ow rr => ow = [.row 3 1 r, .row 3 1 x] ∧ rr = .tup [.agg [.pv (B u), .own 0, .pv (I g), .pv (B v), .own 1, .pv (I h)], .pv (B true)]) Tryz.hT Tryz.mix Tryz.func19 rfl rfl (Nat.le_of_ble_eq_true rfl) ?_
  generalize hP : Tryz.prog = P
  intro A hA
  have C : Tryz.Cx P gl := ⟨hP.symm, hG⟩
  have hI : intsL = A.ints := by subst hA; rfl
  have q1 : A.bnot true = false := by subst hA; rfl
  have q2 : A.bnot false = true := by subst hA; rfl
  have q3 : ∀ x, A.pick false true x = x := fun x => by subst hA; cases x <;> rfl
  have q4 : ∀ x, A.pick true true x = true := fun x => by subst hA; cases x <;> rfl
  iterate 2 (all_goals try cbv; all_goals repeat' (first | with_reducible exact True.intro | with_reducible refine And.intro ?_ ?_ | intro _))
  all_goals try exact oH
  refine callS hA rfl (am P C) ?_; rintro _ rfl
  iterate 2 (all_goals try cbv; all_goals repeat' (first | with_reducible exact True.intro | with_reducible refine And.intro ?_ ?_ | intro _))
  all_goals try exact oH
  all_goals try simp only [q1, q2, q3, q4]
  refine ⟨_, fun _ => lo P C, ?_⟩
  iterate 2 (all_goals try cbv; all_goals repeat' (first | with_reducible exact True.intro | with_reducible refine And.intro ?_ ?_ | intro _))
  all_goals try exact oH
  all_goals try simp only [q1, q2, q3, q4]
  refine callS hA rfl (dyExact_fs C) ?_; rintro _ rfl
  iterate 2 (all_goals try cbv; all_goals repeat' (first | with_reducible exact True.intro | with_reducible refine And.intro ?_ ?_ | intro _))
  all_goals try exact oH
  refine callS hA rfl (e1 P C) ?_; rintro _ rfl
  iterate 2 (all_goals try cbv; all_goals repeat' (first | with_reducible exact True.intro | with_reducible refine And.intro ?_ ?_ | intro _))
  all_goals try exact oH
  refine callS hA rfl (dyExact_fs C) ?_; rintro _ rfl
  iterate 2 (all_goals try cbv; all_goals repeat' (first | with_reducible exact True.intro | with_reducible refine And.intro ?_ ?_ | intro _))
  all_goals try exact oH
  refine callS hA rfl (e2 P C) ?_; rintro _ rfl
  iterate 2 (all_goals try cbv; all_goals repeat' (first | with_reducible exact True.intro | with_reducible refine And.intro ?_ ?_ | intro _))
  all_goals try exact oH
  refine callN hA rfl (hiv P C) ?_; rintro _ _ ⟨rfl, rfl⟩; refine ⟨rfl, ?_⟩
  iterate 2 (all_goals try cbv; all_goals repeat' (first | with_reducible exact True.intro | with_reducible refine And.intro ?_ ?_ | intro _))
  all_goals try exact oH
  subst hA
  exact ⟨[4, 5], _, _, by decide, Nat.zero_le _, rfl, rfl, rfl, rfl, rfl, rfl⟩

theorem implIvRoot_oo_fn (C : Cx P gl) {l0 m0 : List Int} {p0 q0 : List PV} {s0 t0 : Bool} {e0 f0 n1 : Int} {d1 d2 : Dyadic} {u : Bool} {r : List PV} {g : Int} {v : Bool} {x : List PV} {h : Int} (hp0 : p0 = intsL l0) (hq0 : q0 = intsL m0) (ok : ivOk s0 l0 e0 t0 m0 f0 ∧ (-200 ≤ n1 ∧ n1 ≤ 200) ∧ s0 = false) (hd1 : d1 = rootD (dval s0 l0 e0) n1 3) (hd2 : d2 = rootD (dval t0 m0 f0) n1 2) (fit1 : fits d1) (nz1 : d1 ≠ 0) (hr1 : r = intsL (dg (cZ d1).natAbs)) (hu1 : u = decide (cZ d1 < 0)) (hg1 : g = cE d1) (fit2 : fits d2) (nz2 : d2 ≠ 0) (hr2 : x = intsL (dg (cZ d2).natAbs)) (hu2 : v = decide (cZ d2 < 0)) (hg2 : h = cE d2)
    (b0 : l0.length ≤ 2000000) (b1 : m0.length ≤ 2000000) :
    FN P gl 19 [.agg [B s0, .lst p0, I e0, B t0, .lst q0, I f0], I n1] (fun own rr => own = [.row 3 1 r, .row 3 1 x] ∧ rr = .tup [.agg [.pv (B u), .own 0, .pv (I g), .pv (B v), .own 1, .pv (I h)], .pv (B true)]) :=
  FN_of (implIvRoot_oo_fx C hp0 hq0 ok hd1 hd2 fit1 nz1 hr1 hu1 hg1 fit2 nz2 hr2 hu2 hg2 b0 b1) (by rintro _ _ ⟨rfl, rfl⟩; exact ⟨by simpa using ⟨closed_ints hr1 _ _, closed_ints hr2 _ _⟩, rfl⟩)

set_option maxHeartbeats 2000000 in
set_option maxRecDepth 100000 in
theorem implIvRoot_on_fx (C : Cx P gl) {l0 m0 : List Int} {p0 q0 : List PV} {s0 t0 : Bool} {e0 f0 n1 : Int} {d1 d2 : Dyadic} {u : Bool} {r : List PV} {g : Int} (hp0 : p0 = intsL l0) (hq0 : q0 = intsL m0) (ok : ivOk s0 l0 e0 t0 m0 f0 ∧ (-200 ≤ n1 ∧ n1 ≤ 200) ∧ s0 = false) (hd1 : d1 = rootD (dval s0 l0 e0) n1 3) (hd2 : d2 = rootD (dval t0 m0 f0) n1 2) (fit1 : fits d1) (nz1 : d1 ≠ 0) (hr1 : r = intsL (dg (cZ d1).natAbs)) (hu1 : u = decide (cZ d1 < 0)) (hg1 : g = cE d1) (nz2 : d2 = 0)
    (b0 : l0.length ≤ 2000000) (b1 : m0.length ≤ 2000000) :
    FX P gl 19 [] [.pv (.agg [B s0, .lst p0, I e0, B t0, .lst q0, I f0]), .pv (I n1)] (fun own rr => own = [.row 3 1 r] ∧ rr = .tup [.agg [.pv (B u), .own 0, .pv (I g), .pv (B false), .pv (.lst []), .pv (I 0)], .pv (B true)]) := by
  obtain ⟨ok0, ok1, ok2⟩ := ok
  have am := fun (P' : Program) (C' : Cx P' gl) => implIvOk_fs C' (b := true) hp0 hq0 ⟨fun _ => ok0, fun _ => rfl⟩ b0 b1
  have lo := fun (P' : Program) (C' : Cx P' gl) => isFine_fs C' (n := n1) (b := true) (by rw [decide_eq_true ok1.1, decide_eq_true ok1.2]; rfl)
  obtain ⟨c1, c2, g1, g2, z1, z2, z3, z4, z5, z6, f1, f2⟩ := ivOk_can hp0 hq0 ok0
  obtain ⟨nn1, nn2⟩ := iv_nonneg ok0 ok2
  rw [g1] at nn1
  rw [g2] at nn2
  rw [g1] at hd1
  rw [g2] at hd2
  obtain ⟨a1, a2, a3⟩ := id f1
  obtain ⟨a4, a5, a6⟩ := id f2
  obtain ⟨y1, ex1, x1, k1⟩ := xRoot (d := c1) (low := n1) (m := 3) (L := 2000) (E := 3000) nn1 (by omega) (by omega) (by omega) (by omega) (by omega)
  obtain ⟨y2, ex2, x2, k2⟩ := xRoot (d := c2) (low := n1) (m := 2) (L := 2000) (E := 3000) nn2 (by omega) (by omega) (by omega) (by omega) (by omega)
  rw [← hd1] at x1
  rw [← hd2] at x2
  obtain ⟨w1, i1, i2, i3, i4, i5⟩ := x1
  obtain ⟨w2, j1, j2, j3, j4, j5⟩ := x2
  obtain ⟨r1, hr1'⟩ : ∃ r, r = intsL y1.2.1 := ⟨_, rfl⟩
  obtain ⟨r2, hr2'⟩ : ∃ r, r = intsL y2.2.1 := ⟨_, rfl⟩
  obtain ⟨v1, hv1'⟩ : ∃ b, b = y1.1 := ⟨_, rfl⟩
  obtain ⟨v2, hv2'⟩ : ∃ b, b = y2.1 := ⟨_, rfl⟩
  obtain ⟨g3, hg3'⟩ : ∃ b, b = y1.2.2 := ⟨_, rfl⟩
  obtain ⟨g4, hg4'⟩ : ∃ b, b = y2.2.2 := ⟨_, rfl⟩
  have e1 := fun (P' : Program) (C' : Cx P' gl) => k1 P' gl p0 r1 C' z2 hr1'
  have e2 := fun (P' : Program) (C' : Cx P' gl) => k2 P' gl q0 r2 C' z5 hr2'
  rw [← hv1', ← hg3', show (canY c1).1 = s0 from z1.symm, show (canY c1).2.2 = e0 from z3.symm] at e1
  rw [← hv2', ← hg4', show (canY c2).1 = t0 from z4.symm, show (canY c2).2.2 = f0 from z6.symm] at e2
  rw [i2] at hr1'
  rw [j2] at hr2'
  rw [i1] at hv1'
  rw [j1] at hv2'
  rw [← hg3'] at i3 i5
  rw [← hg4'] at j3 j5
  have hw1 : d1 = 0 ↔ w1 = 0 := by rw [i3, ← mk_zero g3, mk_inj]
  have hw2 : d2 = 0 ↔ w2 = 0 := by rw [j3, ← mk_zero g4, mk_inj]
  have hiv := fun (P' : Program) (C' : Cx P' gl) => spanIv_on_fn C' hr1' hv1' hr2' hv2' i3 j3 (by omega) (by omega) (by omega) (by omega) fit1 (fun h => nz1 (hw1.2 h)) hr1 hu1 hg1 (hw2.1 nz2)
  clear hr1' hr2' hv1' hv2' hw1 hw2 hd1 hd2 ok0 i1 i2 i3 i4 i5 j1 j2 j3 j4 j5 k1 k2 hr1 hu1 hg1 nz1 nz2 g1 g2 z1 z2 z3 z4 z5 z6 hp0 hq0 hg3' hg4'
  subst ok2
  obtain ⟨rfl, hG⟩ := C
  refine FX_ofC (own := fun A => []) (args := fun A => [.pv (.agg [B false, .lst p0, I e0, B t0, .lst q0, I f0]), .pv (I n1)]) (R := fun A ow rr => ow = [.row 3 1 r] ∧ rr = .tup [.agg [.pv (B u), .own 0, .pv (I g), .pv (B false), .pv (.lst []), .pv (I 0)], .pv (B true)]) Tryz.hT Tryz.mix Tryz.func19 rfl rfl (Nat.le_of_ble_eq_true rfl) ?_
  generalize hP : Tryz.prog = P
  intro A hA
  have C : Tryz.Cx P gl := ⟨hP.symm, hG⟩
  have hI : intsL = A.ints := by subst hA; rfl
  have q1 : A.bnot true = false := by subst hA; rfl
  have q2 : A.bnot false = true := by subst hA; rfl
  have q3 : ∀ x, A.pick false true x = x := fun x => by subst hA; cases x <;> rfl
  have q4 : ∀ x, A.pick true true x = true := fun x => by subst hA; cases x <;> rfl
  iterate 2 (all_goals try cbv; all_goals repeat' (first | with_reducible exact True.intro | with_reducible refine And.intro ?_ ?_ | intro _))
  all_goals try exact oH
  refine callS hA rfl (am P C) ?_; rintro _ rfl
  iterate 2 (all_goals try cbv; all_goals repeat' (first | with_reducible exact True.intro | with_reducible refine And.intro ?_ ?_ | intro _))
  all_goals try exact oH
  all_goals try simp only [q1, q2, q3, q4]
  refine ⟨_, fun _ => lo P C, ?_⟩
  iterate 2 (all_goals try cbv; all_goals repeat' (first | with_reducible exact True.intro | with_reducible refine And.intro ?_ ?_ | intro _))
  all_goals try exact oH
  all_goals try simp only [q1, q2, q3, q4]
  refine callS hA rfl (dyExact_fs C) ?_; rintro _ rfl
  iterate 2 (all_goals try cbv; all_goals repeat' (first | with_reducible exact True.intro | with_reducible refine And.intro ?_ ?_ | intro _))
  all_goals try exact oH
  refine callS hA rfl (e1 P C) ?_; rintro _ rfl
  iterate 2 (all_goals try cbv; all_goals repeat' (first | with_reducible exact True.intro | with_reducible refine And.intro ?_ ?_ | intro _))
  all_goals try exact oH
  refine callS hA rfl (dyExact_fs C) ?_; rintro _ rfl
  iterate 2 (all_goals try cbv; all_goals repeat' (first | with_reducible exact True.intro | with_reducible refine And.intro ?_ ?_ | intro _))
  all_goals try exact oH
  refine callS hA rfl (e2 P C) ?_; rintro _ rfl
  iterate 2 (all_goals try cbv; all_goals repeat' (first | with_reducible exact True.intro | with_reducible refine And.intro ?_ ?_ | intro _))
  all_goals try exact oH
  refine callN hA rfl (hiv P C) ?_; rintro _ _ ⟨rfl, rfl⟩; refine ⟨rfl, ?_⟩
  iterate 2 (all_goals try cbv; all_goals repeat' (first | with_reducible exact True.intro | with_reducible refine And.intro ?_ ?_ | intro _))
  all_goals try exact oH
  subst hA
  exact ⟨[4], _, _, by decide, Nat.zero_le _, rfl, rfl, rfl, rfl, rfl, rfl⟩

theorem implIvRoot_on_fn (C : Cx P gl) {l0 m0 : List Int} {p0 q0 : List PV} {s0 t0 : Bool} {e0 f0 n1 : Int} {d1 d2 : Dyadic} {u : Bool} {r : List PV} {g : Int} (hp0 : p0 = intsL l0) (hq0 : q0 = intsL m0) (ok : ivOk s0 l0 e0 t0 m0 f0 ∧ (-200 ≤ n1 ∧ n1 ≤ 200) ∧ s0 = false) (hd1 : d1 = rootD (dval s0 l0 e0) n1 3) (hd2 : d2 = rootD (dval t0 m0 f0) n1 2) (fit1 : fits d1) (nz1 : d1 ≠ 0) (hr1 : r = intsL (dg (cZ d1).natAbs)) (hu1 : u = decide (cZ d1 < 0)) (hg1 : g = cE d1) (nz2 : d2 = 0)
    (b0 : l0.length ≤ 2000000) (b1 : m0.length ≤ 2000000) :
    FN P gl 19 [.agg [B s0, .lst p0, I e0, B t0, .lst q0, I f0], I n1] (fun own rr => own = [.row 3 1 r] ∧ rr = .tup [.agg [.pv (B u), .own 0, .pv (I g), .pv (B false), .pv (.lst []), .pv (I 0)], .pv (B true)]) :=
  FN_of (implIvRoot_on_fx C hp0 hq0 ok hd1 hd2 fit1 nz1 hr1 hu1 hg1 nz2 b0 b1) (by rintro _ _ ⟨rfl, rfl⟩; exact ⟨by simpa using closed_ints hr1 _ _, rfl⟩)

set_option maxHeartbeats 2000000 in
set_option maxRecDepth 100000 in
theorem implIvRoot_no_fx (C : Cx P gl) {l0 m0 : List Int} {p0 q0 : List PV} {s0 t0 : Bool} {e0 f0 n1 : Int} {d1 d2 : Dyadic} {v : Bool} {x : List PV} {h : Int} (hp0 : p0 = intsL l0) (hq0 : q0 = intsL m0) (ok : ivOk s0 l0 e0 t0 m0 f0 ∧ (-200 ≤ n1 ∧ n1 ≤ 200) ∧ s0 = false) (hd1 : d1 = rootD (dval s0 l0 e0) n1 3) (hd2 : d2 = rootD (dval t0 m0 f0) n1 2) (nz1 : d1 = 0) (fit2 : fits d2) (nz2 : d2 ≠ 0) (hr2 : x = intsL (dg (cZ d2).natAbs)) (hu2 : v = decide (cZ d2 < 0)) (hg2 : h = cE d2)
    (b0 : l0.length ≤ 2000000) (b1 : m0.length ≤ 2000000) :
    FX P gl 19 [] [.pv (.agg [B s0, .lst p0, I e0, B t0, .lst q0, I f0]), .pv (I n1)] (fun own rr => own = [.row 3 1 x] ∧ rr = .tup [.agg [.pv (B false), .pv (.lst []), .pv (I 0), .pv (B v), .own 0, .pv (I h)], .pv (B true)]) := by
  obtain ⟨ok0, ok1, ok2⟩ := ok
  have am := fun (P' : Program) (C' : Cx P' gl) => implIvOk_fs C' (b := true) hp0 hq0 ⟨fun _ => ok0, fun _ => rfl⟩ b0 b1
  have lo := fun (P' : Program) (C' : Cx P' gl) => isFine_fs C' (n := n1) (b := true) (by rw [decide_eq_true ok1.1, decide_eq_true ok1.2]; rfl)
  obtain ⟨c1, c2, g1, g2, z1, z2, z3, z4, z5, z6, f1, f2⟩ := ivOk_can hp0 hq0 ok0
  obtain ⟨nn1, nn2⟩ := iv_nonneg ok0 ok2
  rw [g1] at nn1
  rw [g2] at nn2
  rw [g1] at hd1
  rw [g2] at hd2
  obtain ⟨a1, a2, a3⟩ := id f1
  obtain ⟨a4, a5, a6⟩ := id f2
  obtain ⟨y1, ex1, x1, k1⟩ := xRoot (d := c1) (low := n1) (m := 3) (L := 2000) (E := 3000) nn1 (by omega) (by omega) (by omega) (by omega) (by omega)
  obtain ⟨y2, ex2, x2, k2⟩ := xRoot (d := c2) (low := n1) (m := 2) (L := 2000) (E := 3000) nn2 (by omega) (by omega) (by omega) (by omega) (by omega)
  rw [← hd1] at x1
  rw [← hd2] at x2
  obtain ⟨w1, i1, i2, i3, i4, i5⟩ := x1
  obtain ⟨w2, j1, j2, j3, j4, j5⟩ := x2
  obtain ⟨r1, hr1'⟩ : ∃ r, r = intsL y1.2.1 := ⟨_, rfl⟩
  obtain ⟨r2, hr2'⟩ : ∃ r, r = intsL y2.2.1 := ⟨_, rfl⟩
  obtain ⟨v1, hv1'⟩ : ∃ b, b = y1.1 := ⟨_, rfl⟩
  obtain ⟨v2, hv2'⟩ : ∃ b, b = y2.1 := ⟨_, rfl⟩
  obtain ⟨g3, hg3'⟩ : ∃ b, b = y1.2.2 := ⟨_, rfl⟩
  obtain ⟨g4, hg4'⟩ : ∃ b, b = y2.2.2 := ⟨_, rfl⟩
  have e1 := fun (P' : Program) (C' : Cx P' gl) => k1 P' gl p0 r1 C' z2 hr1'
  have e2 := fun (P' : Program) (C' : Cx P' gl) => k2 P' gl q0 r2 C' z5 hr2'
  rw [← hv1', ← hg3', show (canY c1).1 = s0 from z1.symm, show (canY c1).2.2 = e0 from z3.symm] at e1
  rw [← hv2', ← hg4', show (canY c2).1 = t0 from z4.symm, show (canY c2).2.2 = f0 from z6.symm] at e2
  rw [i2] at hr1'
  rw [j2] at hr2'
  rw [i1] at hv1'
  rw [j1] at hv2'
  rw [← hg3'] at i3 i5
  rw [← hg4'] at j3 j5
  have hw1 : d1 = 0 ↔ w1 = 0 := by rw [i3, ← mk_zero g3, mk_inj]
  have hw2 : d2 = 0 ↔ w2 = 0 := by rw [j3, ← mk_zero g4, mk_inj]
  have hiv := fun (P' : Program) (C' : Cx P' gl) => spanIv_no_fn C' hr1' hv1' hr2' hv2' i3 j3 (by omega) (by omega) (by omega) (by omega) (hw1.1 nz1) fit2 (fun h => nz2 (hw2.2 h)) hr2 hu2 hg2
  clear hr1' hr2' hv1' hv2' hw1 hw2 hd1 hd2 ok0 i1 i2 i3 i4 i5 j1 j2 j3 j4 j5 k1 k2 nz1 hr2 hu2 hg2 nz2 g1 g2 z1 z2 z3 z4 z5 z6 hp0 hq0 hg3' hg4'
  subst ok2
  obtain ⟨rfl, hG⟩ := C
  refine FX_ofC (own := fun A => []) (args := fun A => [.pv (.agg [B false, .lst p0, I e0, B t0, .lst q0, I f0]), .pv (I n1)]) (R := fun A ow rr => ow = [.row 3 1 x] ∧ rr = .tup [.agg [.pv (B false), .pv (.lst []), .pv (I 0), .pv (B v), .own 0, .pv (I h)], .pv (B true)]) Tryz.hT Tryz.mix Tryz.func19 rfl rfl (Nat.le_of_ble_eq_true rfl) ?_
  generalize hP : Tryz.prog = P
  intro A hA
  have C : Tryz.Cx P gl := ⟨hP.symm, hG⟩
  have hI : intsL = A.ints := by subst hA; rfl
  have q1 : A.bnot true = false := by subst hA; rfl
  have q2 : A.bnot false = true := by subst hA; rfl
  have q3 : ∀ x, A.pick false true x = x := fun x => by subst hA; cases x <;> rfl
  have q4 : ∀ x, A.pick true true x = true := fun x => by subst hA; cases x <;> rfl
  iterate 2 (all_goals try cbv; all_goals repeat' (first | with_reducible exact True.intro | with_reducible refine And.intro ?_ ?_ | intro _))
  all_goals try exact oH
  refine callS hA rfl (am P C) ?_; rintro _ rfl
  iterate 2 (all_goals try cbv; all_goals repeat' (first | with_reducible exact True.intro | with_reducible refine And.intro ?_ ?_ | intro _))
  all_goals try exact oH
  all_goals try simp only [q1, q2, q3, q4]
  refine ⟨_, fun _ => lo P C, ?_⟩
  iterate 2 (all_goals try cbv; all_goals repeat' (first | with_reducible exact True.intro | with_reducible refine And.intro ?_ ?_ | intro _))
  all_goals try exact oH
  all_goals try simp only [q1, q2, q3, q4]
  refine callS hA rfl (dyExact_fs C) ?_; rintro _ rfl
  iterate 2 (all_goals try cbv; all_goals repeat' (first | with_reducible exact True.intro | with_reducible refine And.intro ?_ ?_ | intro _))
  all_goals try exact oH
  refine callS hA rfl (e1 P C) ?_; rintro _ rfl
  iterate 2 (all_goals try cbv; all_goals repeat' (first | with_reducible exact True.intro | with_reducible refine And.intro ?_ ?_ | intro _))
  all_goals try exact oH
  refine callS hA rfl (dyExact_fs C) ?_; rintro _ rfl
  iterate 2 (all_goals try cbv; all_goals repeat' (first | with_reducible exact True.intro | with_reducible refine And.intro ?_ ?_ | intro _))
  all_goals try exact oH
  refine callS hA rfl (e2 P C) ?_; rintro _ rfl
  iterate 2 (all_goals try cbv; all_goals repeat' (first | with_reducible exact True.intro | with_reducible refine And.intro ?_ ?_ | intro _))
  all_goals try exact oH
  refine callN hA rfl (hiv P C) ?_; rintro _ _ ⟨rfl, rfl⟩; refine ⟨rfl, ?_⟩
  iterate 2 (all_goals try cbv; all_goals repeat' (first | with_reducible exact True.intro | with_reducible refine And.intro ?_ ?_ | intro _))
  all_goals try exact oH
  subst hA
  exact ⟨[4], _, _, by decide, Nat.zero_le _, rfl, rfl, rfl, rfl, rfl, rfl⟩

theorem implIvRoot_no_fn (C : Cx P gl) {l0 m0 : List Int} {p0 q0 : List PV} {s0 t0 : Bool} {e0 f0 n1 : Int} {d1 d2 : Dyadic} {v : Bool} {x : List PV} {h : Int} (hp0 : p0 = intsL l0) (hq0 : q0 = intsL m0) (ok : ivOk s0 l0 e0 t0 m0 f0 ∧ (-200 ≤ n1 ∧ n1 ≤ 200) ∧ s0 = false) (hd1 : d1 = rootD (dval s0 l0 e0) n1 3) (hd2 : d2 = rootD (dval t0 m0 f0) n1 2) (nz1 : d1 = 0) (fit2 : fits d2) (nz2 : d2 ≠ 0) (hr2 : x = intsL (dg (cZ d2).natAbs)) (hu2 : v = decide (cZ d2 < 0)) (hg2 : h = cE d2)
    (b0 : l0.length ≤ 2000000) (b1 : m0.length ≤ 2000000) :
    FN P gl 19 [.agg [B s0, .lst p0, I e0, B t0, .lst q0, I f0], I n1] (fun own rr => own = [.row 3 1 x] ∧ rr = .tup [.agg [.pv (B false), .pv (.lst []), .pv (I 0), .pv (B v), .own 0, .pv (I h)], .pv (B true)]) :=
  FN_of (implIvRoot_no_fx C hp0 hq0 ok hd1 hd2 nz1 fit2 nz2 hr2 hu2 hg2 b0 b1) (by rintro _ _ ⟨rfl, rfl⟩; exact ⟨by simpa using closed_ints hr2 _ _, rfl⟩)

set_option maxHeartbeats 2000000 in
set_option maxRecDepth 100000 in
theorem implIvRoot_nn_fs (C : Cx P gl) {l0 m0 : List Int} {p0 q0 : List PV} {s0 t0 : Bool} {e0 f0 n1 : Int} {d1 d2 : Dyadic} (hp0 : p0 = intsL l0) (hq0 : q0 = intsL m0) (ok : ivOk s0 l0 e0 t0 m0 f0 ∧ (-200 ≤ n1 ∧ n1 ≤ 200) ∧ s0 = false) (hd1 : d1 = rootD (dval s0 l0 e0) n1 3) (hd2 : d2 = rootD (dval t0 m0 f0) n1 2) (nz1 : d1 = 0) (nz2 : d2 = 0)
    (b0 : l0.length ≤ 2000000) (b1 : m0.length ≤ 2000000) :
    FS P gl 19 [.agg [B s0, .lst p0, I e0, B t0, .lst q0, I f0], I n1] (· = .tup [.agg [B false, .lst [], I 0, B false, .lst [], I 0], B true]) := by
  obtain ⟨ok0, ok1, ok2⟩ := ok
  have am := fun (P' : Program) (C' : Cx P' gl) => implIvOk_fs C' (b := true) hp0 hq0 ⟨fun _ => ok0, fun _ => rfl⟩ b0 b1
  have lo := fun (P' : Program) (C' : Cx P' gl) => isFine_fs C' (n := n1) (b := true) (by rw [decide_eq_true ok1.1, decide_eq_true ok1.2]; rfl)
  obtain ⟨c1, c2, g1, g2, z1, z2, z3, z4, z5, z6, f1, f2⟩ := ivOk_can hp0 hq0 ok0
  obtain ⟨nn1, nn2⟩ := iv_nonneg ok0 ok2
  rw [g1] at nn1
  rw [g2] at nn2
  rw [g1] at hd1
  rw [g2] at hd2
  obtain ⟨a1, a2, a3⟩ := id f1
  obtain ⟨a4, a5, a6⟩ := id f2
  obtain ⟨y1, ex1, x1, k1⟩ := xRoot (d := c1) (low := n1) (m := 3) (L := 2000) (E := 3000) nn1 (by omega) (by omega) (by omega) (by omega) (by omega)
  obtain ⟨y2, ex2, x2, k2⟩ := xRoot (d := c2) (low := n1) (m := 2) (L := 2000) (E := 3000) nn2 (by omega) (by omega) (by omega) (by omega) (by omega)
  rw [← hd1] at x1
  rw [← hd2] at x2
  obtain ⟨w1, i1, i2, i3, i4, i5⟩ := x1
  obtain ⟨w2, j1, j2, j3, j4, j5⟩ := x2
  obtain ⟨r1, hr1'⟩ : ∃ r, r = intsL y1.2.1 := ⟨_, rfl⟩
  obtain ⟨r2, hr2'⟩ : ∃ r, r = intsL y2.2.1 := ⟨_, rfl⟩
  obtain ⟨v1, hv1'⟩ : ∃ b, b = y1.1 := ⟨_, rfl⟩
  obtain ⟨v2, hv2'⟩ : ∃ b, b = y2.1 := ⟨_, rfl⟩
  obtain ⟨g3, hg3'⟩ : ∃ b, b = y1.2.2 := ⟨_, rfl⟩
  obtain ⟨g4, hg4'⟩ : ∃ b, b = y2.2.2 := ⟨_, rfl⟩
  have e1 := fun (P' : Program) (C' : Cx P' gl) => k1 P' gl p0 r1 C' z2 hr1'
  have e2 := fun (P' : Program) (C' : Cx P' gl) => k2 P' gl q0 r2 C' z5 hr2'
  rw [← hv1', ← hg3', show (canY c1).1 = s0 from z1.symm, show (canY c1).2.2 = e0 from z3.symm] at e1
  rw [← hv2', ← hg4', show (canY c2).1 = t0 from z4.symm, show (canY c2).2.2 = f0 from z6.symm] at e2
  rw [i2] at hr1'
  rw [j2] at hr2'
  rw [i1] at hv1'
  rw [j1] at hv2'
  rw [← hg3'] at i3 i5
  rw [← hg4'] at j3 j5
  have hw1 : d1 = 0 ↔ w1 = 0 := by rw [i3, ← mk_zero g3, mk_inj]
  have hw2 : d2 = 0 ↔ w2 = 0 := by rw [j3, ← mk_zero g4, mk_inj]
  have y1' : r1 = [] := by rw [hr1', hw1.1 nz1, show Int.natAbs 0 = 0 from rfl, dg_zero]; rfl
  have y2' : r2 = [] := by rw [hr2', hw2.1 nz2, show Int.natAbs 0 = 0 from rfl, dg_zero]; rfl
  rw [y1'] at e1
  rw [y2'] at e2
  have hiv := fun (P' : Program) (C' : Cx P' gl) => @spanIv_nn_fs P' gl C' g3 g4 v1 v2
  clear hr1' hr2' hv1' hv2' hw1 hw2 hd1 hd2 ok0 i1 i2 i3 i4 i5 j1 j2 j3 j4 j5 k1 k2 nz1 nz2 g1 g2 z1 z2 z3 z4 z5 z6 hp0 hq0 hg3' hg4'
  subst ok2
  obtain ⟨rfl, hG⟩ := C
  refine FS_ofC (args := fun A => [.agg [B false, .lst p0, I e0, B t0, .lst q0, I f0], I n1]) (R := fun A rr => rr = .tup [.agg [B false, .lst [], I 0, B false, .lst [], I 0], B true]) Tryz.hT Tryz.mix Tryz.func19 rfl rfl (Nat.le_of_ble_eq_true rfl) ?_
  generalize hP : Tryz.prog = P
  intro A hA
  have C : Tryz.Cx P gl := ⟨hP.symm, hG⟩
  have hI : intsL = A.ints := by subst hA; rfl
  have q1 : A.bnot true = false := by subst hA; rfl
  have q2 : A.bnot false = true := by subst hA; rfl
  have q3 : ∀ x, A.pick false true x = x := fun x => by subst hA; cases x <;> rfl
  have q4 : ∀ x, A.pick true true x = true := fun x => by subst hA; cases x <;> rfl
  iterate 2 (all_goals try cbv; all_goals repeat' (first | with_reducible exact True.intro | with_reducible refine And.intro ?_ ?_ | intro _))
  all_goals try exact oH
  refine callS hA rfl (am P C) ?_; rintro _ rfl
  iterate 2 (all_goals try cbv; all_goals repeat' (first | with_reducible exact True.intro | with_reducible refine And.intro ?_ ?_ | intro _))
  all_goals try exact oH
  all_goals try simp only [q1, q2, q3, q4]
  refine ⟨_, fun _ => lo P C, ?_⟩
  iterate 2 (all_goals try cbv; all_goals repeat' (first | with_reducible exact True.intro | with_reducible refine And.intro ?_ ?_ | intro _))
  all_goals try exact oH
  all_goals try simp only [q1, q2, q3, q4]
  refine callS hA rfl (dyExact_fs C) ?_; rintro _ rfl
  iterate 2 (all_goals try cbv; all_goals repeat' (first | with_reducible exact True.intro | with_reducible refine And.intro ?_ ?_ | intro _))
  all_goals try exact oH
  refine callS hA rfl (e1 P C) ?_; rintro _ rfl
  iterate 2 (all_goals try cbv; all_goals repeat' (first | with_reducible exact True.intro | with_reducible refine And.intro ?_ ?_ | intro _))
  all_goals try exact oH
  refine callS hA rfl (dyExact_fs C) ?_; rintro _ rfl
  iterate 2 (all_goals try cbv; all_goals repeat' (first | with_reducible exact True.intro | with_reducible refine And.intro ?_ ?_ | intro _))
  all_goals try exact oH
  refine callS hA rfl (e2 P C) ?_; rintro _ rfl
  iterate 2 (all_goals try cbv; all_goals repeat' (first | with_reducible exact True.intro | with_reducible refine And.intro ?_ ?_ | intro _))
  all_goals try exact oH
  refine callS hA rfl (hiv P C) ?_; rintro _ rfl
  iterate 2 (all_goals try cbv; all_goals repeat' (first | with_reducible exact True.intro | with_reducible refine And.intro ?_ ?_ | intro _))
  all_goals try exact oH

set_option maxHeartbeats 2000000 in
set_option maxRecDepth 100000 in
theorem implIvRoot_X_fs (C : Cx P gl) {l0 m0 : List Int} {p0 q0 : List PV} {s0 t0 : Bool} {e0 f0 n1 : Int} {d1 d2 : Dyadic} (hp0 : p0 = intsL l0) (hq0 : q0 = intsL m0) (ok : ivOk s0 l0 e0 t0 m0 f0 ∧ (-200 ≤ n1 ∧ n1 ≤ 200) ∧ s0 = false) (hd1 : d1 = rootD (dval s0 l0 e0) n1 3) (hd2 : d2 = rootD (dval t0 m0 f0) n1 2) (hX : ¬(fits d1 ∧ fits d2))
    (b0 : l0.length ≤ 2000000) (b1 : m0.length ≤ 2000000) :
    FS P gl 19 [.agg [B s0, .lst p0, I e0, B t0, .lst q0, I f0], I n1] (· = .tup [.agg [B false, .lst [], I 0, B false, .lst [], I 0], B false]) := by
  obtain ⟨ok0, ok1, ok2⟩ := ok
  have am := fun (P' : Program) (C' : Cx P' gl) => implIvOk_fs C' (b := true) hp0 hq0 ⟨fun _ => ok0, fun _ => rfl⟩ b0 b1
  have lo := fun (P' : Program) (C' : Cx P' gl) => isFine_fs C' (n := n1) (b := true) (by rw [decide_eq_true ok1.1, decide_eq_true ok1.2]; rfl)
  obtain ⟨c1, c2, g1, g2, z1, z2, z3, z4, z5, z6, f1, f2⟩ := ivOk_can hp0 hq0 ok0
  obtain ⟨nn1, nn2⟩ := iv_nonneg ok0 ok2
  rw [g1] at nn1
  rw [g2] at nn2
  rw [g1] at hd1
  rw [g2] at hd2
  obtain ⟨a1, a2, a3⟩ := id f1
  obtain ⟨a4, a5, a6⟩ := id f2
  obtain ⟨y1, ex1, x1, k1⟩ := xRoot (d := c1) (low := n1) (m := 3) (L := 2000) (E := 3000) nn1 (by omega) (by omega) (by omega) (by omega) (by omega)
  obtain ⟨y2, ex2, x2, k2⟩ := xRoot (d := c2) (low := n1) (m := 2) (L := 2000) (E := 3000) nn2 (by omega) (by omega) (by omega) (by omega) (by omega)
  rw [← hd1] at x1
  rw [← hd2] at x2
  obtain ⟨w1, i1, i2, i3, i4, i5⟩ := x1
  obtain ⟨w2, j1, j2, j3, j4, j5⟩ := x2
  obtain ⟨r1, hr1'⟩ : ∃ r, r = intsL y1.2.1 := ⟨_, rfl⟩
  obtain ⟨r2, hr2'⟩ : ∃ r, r = intsL y2.2.1 := ⟨_, rfl⟩
  obtain ⟨v1, hv1'⟩ : ∃ b, b = y1.1 := ⟨_, rfl⟩
  obtain ⟨v2, hv2'⟩ : ∃ b, b = y2.1 := ⟨_, rfl⟩
  obtain ⟨g3, hg3'⟩ : ∃ b, b = y1.2.2 := ⟨_, rfl⟩
  obtain ⟨g4, hg4'⟩ : ∃ b, b = y2.2.2 := ⟨_, rfl⟩
  have e1 := fun (P' : Program) (C' : Cx P' gl) => k1 P' gl p0 r1 C' z2 hr1'
  have e2 := fun (P' : Program) (C' : Cx P' gl) => k2 P' gl q0 r2 C' z5 hr2'
  rw [← hv1', ← hg3', show (canY c1).1 = s0 from z1.symm, show (canY c1).2.2 = e0 from z3.symm] at e1
  rw [← hv2', ← hg4', show (canY c2).1 = t0 from z4.symm, show (canY c2).2.2 = f0 from z6.symm] at e2
  rw [i2] at hr1'
  rw [j2] at hr2'
  rw [i1] at hv1'
  rw [j1] at hv2'
  rw [← hg3'] at i3 i5
  rw [← hg4'] at j3 j5
  have hw1 : d1 = 0 ↔ w1 = 0 := by rw [i3, ← mk_zero g3, mk_inj]
  have hw2 : d2 = 0 ↔ w2 = 0 := by rw [j3, ← mk_zero g4, mk_inj]
  have hiv := fun (P' : Program) (C' : Cx P' gl) => spanIv_X_fs C' hr1' hv1' hr2' hv2' i3 j3 (by omega) (by omega) (by omega) (by omega) hX
  clear hr1' hr2' hv1' hv2' hw1 hw2 hd1 hd2 ok0 i1 i2 i3 i4 i5 j1 j2 j3 j4 j5 k1 k2 hX g1 g2 z1 z2 z3 z4 z5 z6 hp0 hq0 hg3' hg4'
  subst ok2
  obtain ⟨rfl, hG⟩ := C
  refine FS_ofC (args := fun A => [.agg [B false, .lst p0, I e0, B t0, .lst q0, I f0], I n1]) (R := fun A rr => rr = .tup [.agg [B false, .lst [], I 0, B false, .lst [], I 0], B false]) Tryz.hT Tryz.mix Tryz.func19 rfl rfl (Nat.le_of_ble_eq_true rfl) ?_
  generalize hP : Tryz.prog = P
  intro A hA
  have C : Tryz.Cx P gl := ⟨hP.symm, hG⟩
  have hI : intsL = A.ints := by subst hA; rfl
  have q1 : A.bnot true = false := by subst hA; rfl
  have q2 : A.bnot false = true := by subst hA; rfl
  have q3 : ∀ x, A.pick false true x = x := fun x => by subst hA; cases x <;> rfl
  have q4 : ∀ x, A.pick true true x = true := fun x => by subst hA; cases x <;> rfl
  iterate 2 (all_goals try cbv; all_goals repeat' (first | with_reducible exact True.intro | with_reducible refine And.intro ?_ ?_ | intro _))
  all_goals try exact oH
  refine callS hA rfl (am P C) ?_; rintro _ rfl
  iterate 2 (all_goals try cbv; all_goals repeat' (first | with_reducible exact True.intro | with_reducible refine And.intro ?_ ?_ | intro _))
  all_goals try exact oH
  all_goals try simp only [q1, q2, q3, q4]
  refine ⟨_, fun _ => lo P C, ?_⟩
  iterate 2 (all_goals try cbv; all_goals repeat' (first | with_reducible exact True.intro | with_reducible refine And.intro ?_ ?_ | intro _))
  all_goals try exact oH
  all_goals try simp only [q1, q2, q3, q4]
  refine callS hA rfl (dyExact_fs C) ?_; rintro _ rfl
  iterate 2 (all_goals try cbv; all_goals repeat' (first | with_reducible exact True.intro | with_reducible refine And.intro ?_ ?_ | intro _))
  all_goals try exact oH
  refine callS hA rfl (e1 P C) ?_; rintro _ rfl
  iterate 2 (all_goals try cbv; all_goals repeat' (first | with_reducible exact True.intro | with_reducible refine And.intro ?_ ?_ | intro _))
  all_goals try exact oH
  refine callS hA rfl (dyExact_fs C) ?_; rintro _ rfl
  iterate 2 (all_goals try cbv; all_goals repeat' (first | with_reducible exact True.intro | with_reducible refine And.intro ?_ ?_ | intro _))
  all_goals try exact oH
  refine callS hA rfl (e2 P C) ?_; rintro _ rfl
  iterate 2 (all_goals try cbv; all_goals repeat' (first | with_reducible exact True.intro | with_reducible refine And.intro ?_ ?_ | intro _))
  all_goals try exact oH
  refine callS hA rfl (hiv P C) ?_; rintro _ rfl
  iterate 2 (all_goals try cbv; all_goals repeat' (first | with_reducible exact True.intro | with_reducible refine And.intro ?_ ?_ | intro _))
  all_goals try exact oH

set_option maxHeartbeats 2000000 in
set_option maxRecDepth 100000 in
theorem implIvRoot_N_fs (C : Cx P gl) {l0 m0 : List Int} {p0 q0 : List PV} {s0 t0 : Bool} {e0 f0 n1 : Int} (hp0 : p0 = intsL l0) (hq0 : q0 = intsL m0) (ok : ¬(ivOk s0 l0 e0 t0 m0 f0 ∧ (-200 ≤ n1 ∧ n1 ≤ 200) ∧ s0 = false))
    (b0 : l0.length ≤ 2000000) (b1 : m0.length ≤ 2000000) :
    FS P gl 19 [.agg [B s0, .lst p0, I e0, B t0, .lst q0, I f0], I n1] (· = .tup [.agg [B false, .lst [], I 0, B false, .lst [], I 0], B false]) := by
  obtain ⟨c0, hc0⟩ := bool_of (ivOk s0 l0 e0 t0 m0 f0)
  have am := fun (P' : Program) (C' : Cx P' gl) => implIvOk_fs C' hp0 hq0 hc0 b0 b1
  obtain ⟨lb, hlb⟩ : ∃ lb, lb = (decide (-200 ≤ n1) && decide (n1 ≤ 200)) := ⟨_, rfl⟩
  have lo := fun (P' : Program) (C' : Cx P' gl) => isFine_fs C' hlb
  have hno : c0 = true → lb = true → s0 = false → False := by
    intro h1 h2 h3
    rw [hlb, Bool.and_eq_true, decide_eq_true_eq, decide_eq_true_eq] at h2
    exact ok ⟨hc0.1 h1, h2, h3⟩
  clear ok hc0 hlb hp0 hq0
  obtain ⟨rfl, hG⟩ := C
  refine FS_ofC (args := fun A => [.agg [B s0, .lst p0, I e0, B t0, .lst q0, I f0], I n1]) (R := fun A rr => rr = .tup [.agg [B false, .lst [], I 0, B false, .lst [], I 0], B false]) Tryz.hT Tryz.mix Tryz.func19 rfl rfl (Nat.le_of_ble_eq_true rfl) ?_
  generalize hP : Tryz.prog = P
  intro A hA
  have C : Tryz.Cx P gl := ⟨hP.symm, hG⟩
  have hI : intsL = A.ints := by subst hA; rfl
  have q1 : A.bnot true = false := by subst hA; rfl
  have q2 : A.bnot false = true := by subst hA; rfl
  have q3 : ∀ x, A.pick false true x = x := fun x => by subst hA; cases x <;> rfl
  have q4 : ∀ x, A.pick true true x = true := fun x => by subst hA; cases x <;> rfl
  iterate 2 (all_goals try cbv; all_goals repeat' (first | with_reducible exact True.intro | with_reducible refine And.intro ?_ ?_ | intro _))
  all_goals try exact oH
  refine callS hA rfl (am P C) ?_; rintro _ rfl
  iterate 2 (all_goals try cbv; all_goals repeat' (first | with_reducible exact True.intro | with_reducible refine And.intro ?_ ?_ | intro _))
  all_goals try exact oH
  refine ⟨_, fun _ => lo P C, ?_⟩
  iterate 2 (all_goals try cbv; all_goals repeat' (first | with_reducible exact True.intro | with_reducible refine And.intro ?_ ?_ | intro _))
  all_goals try exact oH
  · rename_i gg
    exfalso
    clear am lo hI q1 q2 q3 q4
    subst hA
    revert gg hno
    cases c0 <;> cases lb <;> cases s0 <;> intro hno gg <;> first | exact hno rfl rfl rfl | exact absurd gg (by decide)

end Tryz
end Go.Proofs
