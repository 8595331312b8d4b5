/- Contracts: spans: sums, and as intervals. -/
import Derived.Test.YtlkiofkkjbodjaaGreatDoorAN25
import Derived.Test.YtlkiofkkjbodjaaGreatDoorAN29
set_option maxHeartbeats 1000000
set_option maxRecDepth 100000
namespace Go.Proofs
open Go Go.Pe Go.Dg
namespace Tryz
set_option linter.unusedSimpArgs false
set_option linter.unusedVariables false
variable {P : Program} {gl : List (Nat × Obj)}

theorem spanPlus_fs (C : Cx P gl) {y1 y2 y3 y4 e1 e2 e3 e4 w1 w2 g h : Int} {p1 p2 p3 p4 r x : List PV} {s1 s2 s3 s4 u v : Bool}
  (a1 : p1 = intsL (dg y1.natAbs)) (b1 : s1 = decide (y1 < 0)) (a2 : p2 = intsL (dg y2.natAbs)) (b2 : s2 = decide (y2 < 0)) (a3 : p3 = intsL (dg y3.natAbs)) (b3 : s3 = decide (y3 < 0)) (a4 : p4 = intsL (dg y4.natAbs)) (b4 : s4 = decide (y4 < 0))
  (hd1 : sumD y1 e1 y3 e3 w1 g) (hd2 : sumD y2 e2 y4 e4 w2 h) (hr : r = intsL (dg w1.natAbs)) (hu : u = decide (w1 < 0)) (hx : x = intsL (dg w2.natAbs)) (hv : v = decide (w2 < 0))
  (c1 : e1.natAbs ≤ 100000) (c2 : e2.natAbs ≤ 100000) (c3 : e3.natAbs ≤ 100000) (c4 : e4.natAbs ≤ 100000) (l1 : (dg y1.natAbs).length ≤ 1000000) (l2 : (dg y2.natAbs).length ≤ 1000000) (l3 : (dg y3.natAbs).length ≤ 1000000) (l4 : (dg y4.natAbs).length ≤ 1000000) :
  FS P gl 135 [.agg [B s1, .lst p1, I e1, B s2, .lst p2, I e2], .agg [B s3, .lst p3, I e3, B s4, .lst p4, I e4]] (· = .agg [B u, .lst r, I g, B v, .lst x, I h]) := by
 have hcall1 := fun (P' : Program) (C' : Cx P' gl) => exactPlus_fs C' a1 b1 a3 b3 hd1 hr hu c1 c3 l1 l3
 have hcall2 := fun (P' : Program) (C' : Cx P' gl) => exactPlus_fs C' a2 b2 a4 b4 hd2 hx hv c2 c4 l2 l4
 clear hd1 hd2 hr hu hx hv
 obtain ⟨rfl, hG⟩ := C
 refine FS_ofT (args := fun A => [.agg [B s1, .lst p1, I e1, B s2, .lst p2, I e2], .agg [B s3, .lst p3, I e3, B s4, .lst p4, I e4]]) (R := fun A rr => rr = .agg [B u, .lst r, I g, B v, .lst x, I h]) Tryz.hT Tryz.mix Tryz.func135 rfl rfl (Nat.le_of_ble_eq_true rfl) ?_
 generalize hP : Tryz.prog = P
 intro A hA
 have C : Tryz.Cx P gl := ⟨hP.symm, hG⟩
 have hI : intsL = A.ints := by subst hA; rfl
 iterate 2 (all_goals try cbv; all_goals with_reducible repeat' first | exact True.intro | refine And.intro ?_ ?_ | intro _)
 all_goals try exact oH
 refine ⟨_, hcall1 P C, ?_⟩
 iterate 2 (all_goals try cbv; all_goals with_reducible repeat' first | exact True.intro | refine And.intro ?_ ?_ | intro _)
 all_goals try exact oH
 refine callS hA rfl (hcall2 P C) ?_; rintro _ rfl
 iterate 2 (all_goals try cbv; all_goals with_reducible repeat' first | exact True.intro | refine And.intro ?_ ?_ | intro _)
 all_goals try exact oH

theorem dyV_fs (C : Cx P gl) {z e f : Int} {p r : List PV} {s u w : Bool} {d : Dyadic} {o : List Int} (hp : p = intsL (dg z.natAbs)) (hs : s = decide (z < 0)) (hd : d = mk z e)
  (hr : r = intsL o) (hw : w = true ↔ fits d) (ho : outD w d u o f) (h0 : e.natAbs ≤ 1000000000) (hl : (dg z.natAbs).length ≤ 10000000) :
  FS P gl 111 [.agg [B s, .lst p, I e]] (· = .tup [.agg [B u, .lst r, I f], B w]) := by
 by_cases hz : z = 0
 ·have hd0 : d = 0 := by rw [hd, hz, mk_zero]
  have hwt : w = true := hw.2 (by rw [hd0]; exact fits_zero)
  obtain ⟨x1, x2, x3⟩ := ho.1 hwt
  have hc : cZ d = 0 := by rw [hd0]; exact cZ_eq_zero.2 rfl
  have hp0 : p = [] := by rw [hp, hz, show Int.natAbs 0 = 0 from rfl, dg_zero]; rfl
  have hr0 : r = [] := by rw [hr, x2, hc, show Int.natAbs 0 = 0 from rfl, dg_zero]; rfl
  have hu0 : u = false := by rw [x1, hc]; rfl
  have hf0 : f = 0 := by rw [x3, hd0]; rfl
  rw [hp0, hr0, hu0, hf0, hwt]
  exact dy0_fs C
 ·by_cases hfit : fits d
  ·have hwt : w = true := hw.2 hfit
   obtain ⟨x1, x2, x3⟩ := ho.1 hwt
   rw [hwt]
   exact FS_ofFN (dy_fn C (r := r) hp hs hd (by rw [hr, x2]) x1 x3 h0 hl hz hfit) (by rintro _ _ ⟨rfl, rfl⟩; rfl)
  ·have hwf : w = false := by
    cases w
    ·rfl
    ·exact absurd (hw.1 rfl) hfit
   obtain ⟨x1, x2, x3⟩ := ho.2 hwf
   rw [hwf, hr, x1, x2, x3]
   rw [hd] at hfit
   exact dyn_fs C hp hs h0 hl hz hfit

theorem spanIv_oo_fx (C : Cx P gl) {z1 z2 e f : Int} {p q : List PV} {s t : Bool} {d1 d2 : Dyadic} (hp : p = intsL (dg z1.natAbs)) (hs : s = decide (z1 < 0)) (hq : q = intsL (dg z2.natAbs)) (ht : t = decide (z2 < 0))
  (hd1 : d1 = mk z1 e) (hd2 : d2 = mk z2 f) (c1 : e.natAbs ≤ 100000) (c2 : f.natAbs ≤ 100000) (l1 : (dg z1.natAbs).length ≤ 1000000) (l2 : (dg z2.natAbs).length ≤ 1000000) {u : Bool} {r : List PV} {g : Int} {v : Bool} {x : List PV} {h : Int} (fit1 : fits d1) (n1 : z1 ≠ 0) (hr1 : r = intsL (dg (cZ d1).natAbs)) (hu1 : u = decide (cZ d1 < 0)) (hg1 : g = cE d1) (fit2 : fits d2) (n2 : z2 ≠ 0) (hr2 : x = intsL (dg (cZ d2).natAbs)) (hu2 : v = decide (cZ d2 < 0)) (hg2 : h = cE d2) :
  FX P gl 86 [] [.pv (.agg [B s, .lst p, I e, B t, .lst q, I f])] (fun own rr => own = [.row 3 1 r, .row 3 1 x] ∧ rr = .tup [.agg [.pv (B u), .own 0, .pv (I g), .pv (B v), .own 1, .pv (I h)], .pv (B true)]) := by
 have hc1 := fun (P' : Program) (C' : Cx P' gl) => dy_fn C' hp hs hd1 hr1 hu1 hg1 (by omega) (by omega) n1 fit1
 have hc2 := fun (P' : Program) (C' : Cx P' gl) => dy_fn C' hq ht hd2 hr2 hu2 hg2 (by omega) (by omega) n2 fit2
 clear hd1 hd2 hr1 hu1 hg1 hr2 hu2 hg2
 obtain ⟨rfl, hG⟩ := C
 refine FX_ofT (own := fun A => []) (args := fun A => [.pv (.agg [B s, .lst p, I e, B t, .lst q, I f])]) (R := fun A ow rr => ow = [.row 3 1 r, .row 3 1 x] ∧ rr = .tup [.agg [.pv (B u), .own 0, .pv (I g), .pv (B v), .own 1, .pv (I h)], .pv (B true)]) Tryz.hT Tryz.mix Tryz.func86 rfl rfl (Nat.le_of_ble_eq_true rfl) ?_
 generalize hP : Tryz.prog = P
 intro A hA
 have C : Tryz.Cx P gl := ⟨hP.symm, hG⟩
 have hI : intsL = A.ints := by subst hA; rfl
 iterate 2 (all_goals try cbv; all_goals with_reducible repeat' first | exact True.intro | refine And.intro ?_ ?_ | intro _)
 all_goals try exact oH
 refine callN hA rfl (hc1 P C) ?_; rintro _ _ ⟨rfl, rfl⟩; refine ⟨rfl, ?_⟩
 iterate 2 (all_goals try cbv; all_goals with_reducible repeat' first | exact True.intro | refine And.intro ?_ ?_ | intro _)
 all_goals try exact oH
 refine callN hA rfl (hc2 P C) ?_; rintro _ _ ⟨rfl, rfl⟩; refine ⟨rfl, ?_⟩
 iterate 2 (all_goals try cbv; all_goals with_reducible repeat' first | exact True.intro | refine And.intro ?_ ?_ | intro _)
 all_goals try exact oH
 iterate 2 (all_goals try cbv; all_goals with_reducible repeat' first | exact True.intro | refine And.intro ?_ ?_ | intro _)
 all_goals try exact oH
 subst hA
 exact ⟨[2, 4], _, _, by decide, Nat.zero_le _, rfl, rfl, rfl, rfl, rfl, rfl⟩

theorem spanIv_oo_fn (C : Cx P gl) {z1 z2 e f : Int} {p q : List PV} {s t : Bool} {d1 d2 : Dyadic} (hp : p = intsL (dg z1.natAbs)) (hs : s = decide (z1 < 0)) (hq : q = intsL (dg z2.natAbs)) (ht : t = decide (z2 < 0))
  (hd1 : d1 = mk z1 e) (hd2 : d2 = mk z2 f) (c1 : e.natAbs ≤ 100000) (c2 : f.natAbs ≤ 100000) (l1 : (dg z1.natAbs).length ≤ 1000000) (l2 : (dg z2.natAbs).length ≤ 1000000) {u : Bool} {r : List PV} {g : Int} {v : Bool} {x : List PV} {h : Int} (fit1 : fits d1) (n1 : z1 ≠ 0) (hr1 : r = intsL (dg (cZ d1).natAbs)) (hu1 : u = decide (cZ d1 < 0)) (hg1 : g = cE d1) (fit2 : fits d2) (n2 : z2 ≠ 0) (hr2 : x = intsL (dg (cZ d2).natAbs)) (hu2 : v = decide (cZ d2 < 0)) (hg2 : h = cE d2) :
  FN P gl 86 [.agg [B s, .lst p, I e, B t, .lst q, I f]] (fun own rr => own = [.row 3 1 r, .row 3 1 x] ∧ rr = .tup [.agg [.pv (B u), .own 0, .pv (I g), .pv (B v), .own 1, .pv (I h)], .pv (B true)]) :=
 FN_of (spanIv_oo_fx C hp hs hq ht hd1 hd2 c1 c2 l1 l2 fit1 n1 hr1 hu1 hg1 fit2 n2 hr2 hu2 hg2) (by rintro _ _ ⟨rfl, rfl⟩; exact ⟨by simpa using ⟨closed_ints hr1 _ _, closed_ints hr2 _ _⟩, rfl⟩)

theorem spanIv_on_fx (C : Cx P gl) {z1 z2 e f : Int} {p q : List PV} {s t : Bool} {d1 d2 : Dyadic} (hp : p = intsL (dg z1.natAbs)) (hs : s = decide (z1 < 0)) (hq : q = intsL (dg z2.natAbs)) (ht : t = decide (z2 < 0))
  (hd1 : d1 = mk z1 e) (hd2 : d2 = mk z2 f) (c1 : e.natAbs ≤ 100000) (c2 : f.natAbs ≤ 100000) (l1 : (dg z1.natAbs).length ≤ 1000000) (l2 : (dg z2.natAbs).length ≤ 1000000) {u : Bool} {r : List PV} {g : Int} (fit1 : fits d1) (n1 : z1 ≠ 0) (hr1 : r = intsL (dg (cZ d1).natAbs)) (hu1 : u = decide (cZ d1 < 0)) (hg1 : g = cE d1) (n2 : z2 = 0) :
  FX P gl 86 [] [.pv (.agg [B s, .lst p, I e, B t, .lst q, I f])] (fun own rr => own = [.row 3 1 r] ∧ rr = .tup [.agg [.pv (B u), .own 0, .pv (I g), .pv (B false), .pv (.lst []), .pv (I 0)], .pv (B true)]) := by
 have hc1 := fun (P' : Program) (C' : Cx P' gl) => dy_fn C' hp hs hd1 hr1 hu1 hg1 (by omega) (by omega) n1 fit1
 have hn2 : q = [] := by rw [hq, n2, show Int.natAbs 0 = 0 from rfl, dg_zero]; rfl
 rw [hn2]
 clear hd1 hd2 hr1 hu1 hg1
 obtain ⟨rfl, hG⟩ := C
 refine FX_ofT (own := fun A => []) (args := fun A => [.pv (.agg [B s, .lst p, I e, B t, .lst [], I f])]) (R := fun A ow rr => ow = [.row 3 1 r] ∧ rr = .tup [.agg [.pv (B u), .own 0, .pv (I g), .pv (B false), .pv (.lst []), .pv (I 0)], .pv (B true)]) Tryz.hT Tryz.mix Tryz.func86 rfl rfl (Nat.le_of_ble_eq_true rfl) ?_
 generalize hP : Tryz.prog = P
 intro A hA
 have C : Tryz.Cx P gl := ⟨hP.symm, hG⟩
 have hI : intsL = A.ints := by subst hA; rfl
 iterate 2 (all_goals try cbv; all_goals with_reducible repeat' first | exact True.intro | refine And.intro ?_ ?_ | intro _)
 all_goals try exact oH
 refine callN hA rfl (hc1 P C) ?_; rintro _ _ ⟨rfl, rfl⟩; refine ⟨rfl, ?_⟩
 iterate 2 (all_goals try cbv; all_goals with_reducible repeat' first | exact True.intro | refine And.intro ?_ ?_ | intro _)
 all_goals try exact oH
 refine callS hA rfl (dy0_fs C) ?_; rintro _ rfl
 iterate 2 (all_goals try cbv; all_goals with_reducible repeat' first | exact True.intro | refine And.intro ?_ ?_ | intro _)
 all_goals try exact oH
 iterate 2 (all_goals try cbv; all_goals with_reducible repeat' first | exact True.intro | refine And.intro ?_ ?_ | intro _)
 all_goals try exact oH
 subst hA
 exact ⟨[2], _, _, by decide, Nat.zero_le _, rfl, rfl, rfl, rfl, rfl, rfl⟩

theorem spanIv_on_fn (C : Cx P gl) {z1 z2 e f : Int} {p q : List PV} {s t : Bool} {d1 d2 : Dyadic} (hp : p = intsL (dg z1.natAbs)) (hs : s = decide (z1 < 0)) (hq : q = intsL (dg z2.natAbs)) (ht : t = decide (z2 < 0))
  (hd1 : d1 = mk z1 e) (hd2 : d2 = mk z2 f) (c1 : e.natAbs ≤ 100000) (c2 : f.natAbs ≤ 100000) (l1 : (dg z1.natAbs).length ≤ 1000000) (l2 : (dg z2.natAbs).length ≤ 1000000) {u : Bool} {r : List PV} {g : Int} (fit1 : fits d1) (n1 : z1 ≠ 0) (hr1 : r = intsL (dg (cZ d1).natAbs)) (hu1 : u = decide (cZ d1 < 0)) (hg1 : g = cE d1) (n2 : z2 = 0) :
  FN P gl 86 [.agg [B s, .lst p, I e, B t, .lst q, I f]] (fun own rr => own = [.row 3 1 r] ∧ rr = .tup [.agg [.pv (B u), .own 0, .pv (I g), .pv (B false), .pv (.lst []), .pv (I 0)], .pv (B true)]) :=
 FN_of (spanIv_on_fx C hp hs hq ht hd1 hd2 c1 c2 l1 l2 fit1 n1 hr1 hu1 hg1 n2) (by rintro _ _ ⟨rfl, rfl⟩; exact ⟨by simpa using closed_ints hr1 _ _, rfl⟩)

theorem spanIv_no_fx (C : Cx P gl) {z1 z2 e f : Int} {p q : List PV} {s t : Bool} {d1 d2 : Dyadic} (hp : p = intsL (dg z1.natAbs)) (hs : s = decide (z1 < 0)) (hq : q = intsL (dg z2.natAbs)) (ht : t = decide (z2 < 0))
  (hd1 : d1 = mk z1 e) (hd2 : d2 = mk z2 f) (c1 : e.natAbs ≤ 100000) (c2 : f.natAbs ≤ 100000) (l1 : (dg z1.natAbs).length ≤ 1000000) (l2 : (dg z2.natAbs).length ≤ 1000000) {v : Bool} {x : List PV} {h : Int} (n1 : z1 = 0) (fit2 : fits d2) (n2 : z2 ≠ 0) (hr2 : x = intsL (dg (cZ d2).natAbs)) (hu2 : v = decide (cZ d2 < 0)) (hg2 : h = cE d2) :
  FX P gl 86 [] [.pv (.agg [B s, .lst p, I e, B t, .lst q, I f])] (fun own rr => own = [.row 3 1 x] ∧ rr = .tup [.agg [.pv (B false), .pv (.lst []), .pv (I 0), .pv (B v), .own 0, .pv (I h)], .pv (B true)]) := by
 have hn1 : p = [] := by rw [hp, n1, show Int.natAbs 0 = 0 from rfl, dg_zero]; rfl
 have hc2 := fun (P' : Program) (C' : Cx P' gl) => dy_fn C' hq ht hd2 hr2 hu2 hg2 (by omega) (by omega) n2 fit2
 rw [hn1]
 clear hd1 hd2 hr2 hu2 hg2
 obtain ⟨rfl, hG⟩ := C
 refine FX_ofT (own := fun A => []) (args := fun A => [.pv (.agg [B s, .lst [], I e, B t, .lst q, I f])]) (R := fun A ow rr => ow = [.row 3 1 x] ∧ rr = .tup [.agg [.pv (B false), .pv (.lst []), .pv (I 0), .pv (B v), .own 0, .pv (I h)], .pv (B true)]) Tryz.hT Tryz.mix Tryz.func86 rfl rfl (Nat.le_of_ble_eq_true rfl) ?_
 generalize hP : Tryz.prog = P
 intro A hA
 have C : Tryz.Cx P gl := ⟨hP.symm, hG⟩
 have hI : intsL = A.ints := by subst hA; rfl
 iterate 2 (all_goals try cbv; all_goals with_reducible repeat' first | exact True.intro | refine And.intro ?_ ?_ | intro _)
 all_goals try exact oH
 refine callS hA rfl (dy0_fs C) ?_; rintro _ rfl
 iterate 2 (all_goals try cbv; all_goals with_reducible repeat' first | exact True.intro | refine And.intro ?_ ?_ | intro _)
 all_goals try exact oH
 refine callN hA rfl (hc2 P C) ?_; rintro _ _ ⟨rfl, rfl⟩; refine ⟨rfl, ?_⟩
 iterate 2 (all_goals try cbv; all_goals with_reducible repeat' first | exact True.intro | refine And.intro ?_ ?_ | intro _)
 all_goals try exact oH
 iterate 2 (all_goals try cbv; all_goals with_reducible repeat' first | exact True.intro | refine And.intro ?_ ?_ | intro _)
 all_goals try exact oH
 subst hA
 exact ⟨[3], _, _, by decide, Nat.zero_le _, rfl, rfl, rfl, rfl, rfl, rfl⟩

theorem spanIv_no_fn (C : Cx P gl) {z1 z2 e f : Int} {p q : List PV} {s t : Bool} {d1 d2 : Dyadic} (hp : p = intsL (dg z1.natAbs)) (hs : s = decide (z1 < 0)) (hq : q = intsL (dg z2.natAbs)) (ht : t = decide (z2 < 0))
  (hd1 : d1 = mk z1 e) (hd2 : d2 = mk z2 f) (c1 : e.natAbs ≤ 100000) (c2 : f.natAbs ≤ 100000) (l1 : (dg z1.natAbs).length ≤ 1000000) (l2 : (dg z2.natAbs).length ≤ 1000000) {v : Bool} {x : List PV} {h : Int} (n1 : z1 = 0) (fit2 : fits d2) (n2 : z2 ≠ 0) (hr2 : x = intsL (dg (cZ d2).natAbs)) (hu2 : v = decide (cZ d2 < 0)) (hg2 : h = cE d2) :
  FN P gl 86 [.agg [B s, .lst p, I e, B t, .lst q, I f]] (fun own rr => own = [.row 3 1 x] ∧ rr = .tup [.agg [.pv (B false), .pv (.lst []), .pv (I 0), .pv (B v), .own 0, .pv (I h)], .pv (B true)]) :=
 FN_of (spanIv_no_fx C hp hs hq ht hd1 hd2 c1 c2 l1 l2 n1 fit2 n2 hr2 hu2 hg2) (by rintro _ _ ⟨rfl, rfl⟩; exact ⟨by simpa using closed_ints hr2 _ _, rfl⟩)

theorem spanIv_nn_fs (C : Cx P gl) {e f : Int} {s t : Bool} : FS P gl 86 [.agg [B s, .lst [], I e, B t, .lst [], I f]] (· = .tup [.agg [B false, .lst [], I 0, B false, .lst [], I 0], B true]) := by
 obtain ⟨rfl, hG⟩ := C
 refine FS_ofT (args := fun A => [.agg [B s, .lst [], I e, B t, .lst [], I f]]) (R := fun A rr => rr = .tup [.agg [B false, .lst [], I 0, B false, .lst [], I 0], B true]) Tryz.hT Tryz.mix Tryz.func86 rfl rfl (Nat.le_of_ble_eq_true rfl) ?_
 generalize hP : Tryz.prog = P
 intro A hA
 have C : Tryz.Cx P gl := ⟨hP.symm, hG⟩
 have hI : intsL = A.ints := by subst hA; rfl
 iterate 2 (all_goals try cbv; all_goals with_reducible repeat' first | exact True.intro | refine And.intro ?_ ?_ | intro _)
 all_goals try exact oH
 refine callS hA rfl (dy0_fs C) ?_; rintro _ rfl
 iterate 2 (all_goals try cbv; all_goals with_reducible repeat' first | exact True.intro | refine And.intro ?_ ?_ | intro _)
 all_goals try exact oH
 refine callS hA rfl (dy0_fs C) ?_; rintro _ rfl
 iterate 2 (all_goals try cbv; all_goals with_reducible repeat' first | exact True.intro | refine And.intro ?_ ?_ | intro _)
 all_goals try exact oH
 iterate 2 (all_goals try cbv; all_goals with_reducible repeat' first | exact True.intro | refine And.intro ?_ ?_ | intro _)
 all_goals try exact oH

theorem spanIv_X_fs (C : Cx P gl) {z1 z2 e f : Int} {p q : List PV} {s t : Bool} {d1 d2 : Dyadic} (hp : p = intsL (dg z1.natAbs)) (hs : s = decide (z1 < 0)) (hq : q = intsL (dg z2.natAbs)) (ht : t = decide (z2 < 0))
  (hd1 : d1 = mk z1 e) (hd2 : d2 = mk z2 f) (c1 : e.natAbs ≤ 100000) (c2 : f.natAbs ≤ 100000) (l1 : (dg z1.natAbs).length ≤ 1000000) (l2 : (dg z2.natAbs).length ≤ 1000000) (hx : ¬(fits d1 ∧ fits d2)) :
  FS P gl 86 [.agg [B s, .lst p, I e, B t, .lst q, I f]] (· = .tup [.agg [B false, .lst [], I 0, B false, .lst [], I 0], B false]) := by
 obtain ⟨b1, hb1⟩ := bool_of (fits d1)
 obtain ⟨b2, hb2⟩ := bool_of (fits d2)
 obtain ⟨u1, o1, g1, ho1⟩ := outD_ex b1 d1
 obtain ⟨u2, o2, g2, ho2⟩ := outD_ex b2 d2
 obtain ⟨r1, hr1⟩ : ∃ r, r = intsL o1 := ⟨_, rfl⟩
 obtain ⟨r2, hr2⟩ : ∃ r, r = intsL o2 := ⟨_, rfl⟩
 have hc1 := fun (P' : Program) (C' : Cx P' gl) => dyV_fs C' hp hs hd1 hr1 hb1 ho1 (by omega) (by omega)
 have hc2 := fun (P' : Program) (C' : Cx P' gl) => dyV_fs C' hq ht hd2 hr2 hb2 ho2 (by omega) (by omega)
 have hbb : b1 = true → b2 = true → False := fun h1 h2 => hx ⟨hb1.1 h1, hb2.1 h2⟩
 clear hd1 hd2 hb1 hb2 ho1 ho2 hr1 hr2 hx
 obtain ⟨rfl, hG⟩ := C
 refine FS_ofT (args := fun A => [.agg [B s, .lst p, I e, B t, .lst q, I f]]) (R := fun A rr => rr = .tup [.agg [B false, .lst [], I 0, B false, .lst [], I 0], B false]) Tryz.hT Tryz.mix Tryz.func86 rfl rfl (Nat.le_of_ble_eq_true rfl) ?_
 generalize hP : Tryz.prog = P
 intro A hA
 have C : Tryz.Cx P gl := ⟨hP.symm, hG⟩
 have hI : intsL = A.ints := by subst hA; rfl
 iterate 2 (all_goals try cbv; all_goals with_reducible repeat' first | exact True.intro | refine And.intro ?_ ?_ | intro _)
 all_goals try exact oH
 refine callS hA rfl (hc1 P C) ?_; rintro _ rfl
 iterate 2 (all_goals try cbv; all_goals with_reducible repeat' first | exact True.intro | refine And.intro ?_ ?_ | intro _)
 all_goals try exact oH
 refine callS hA rfl (hc2 P C) ?_; rintro _ rfl
 iterate 2 (all_goals try cbv; all_goals with_reducible repeat' first | exact True.intro | refine And.intro ?_ ?_ | intro _)
 all_goals try exact oH
 iterate 2 (all_goals try cbv; all_goals with_reducible repeat' first | exact True.intro | refine And.intro ?_ ?_ | intro _)
 all_goals try exact oH
 all_goals (exfalso; rename_i g; subst hA; cases b1 <;> cases b2 <;> first | exact absurd g (by decide) | exact hbb rfl rfl)

end Tryz
end Go.Proofs
