/- Contracts: DyDiv in the reference. -/
import Derived.Test.YtlkiofkkjbodjaaGreatDoorDN24
import Derived.Test.YtlkiofkkjbodjaaGreatDoorDM15
import Derived.Test.YtlkiofkkjbodjaaGreatDoorDD6
import Derived.Test.YtlkiofkkjbodjaaGreatDoorDN21
import Derived.Test.YtlkiofkkjbodjaaGreatDoorDN11
import Derived.Test.YtlkiofkkjbodjaaGreatDoorDN34
set_option maxHeartbeats 1000000
set_option maxRecDepth 100000
namespace Go.Proofs
open Go Go.Pe Go.Dg
namespace Tryz
set_option linter.unusedSimpArgs false
set_option linter.unusedVariables false
variable {P : Program} {gl : List (Nat × Obj)}

theorem dyV_fs (C : Cx P gl) {z e f : Int} {p r : List PV} {s u w : Bool} {d : Dyadic} {o : List Int} (hp : p = intsL (dg z.natAbs)) (hs : s = decide (z < 0)) (hd : d = mk z e)
  (hr : r = intsL o) (hw : w = true ↔ fits d) (ho : outD w d u o f) (h0 : e.natAbs ≤ 1000000000) (hl : (dg z.natAbs).length ≤ 10000000) :
  FS P gl 111 [.agg [B s, .lst p, I e]] (· = .tup [.agg [B u, .lst r, I f], B w]) := by
 by_cases hz : z = 0
 ·have hd0 : d = 0 := by rw [hd, hz, mk_zero]
  have hwt : w = true := hw.2 (by rw [hd0]; exact fits_zero)
  obtain ⟨x1, x2, x3⟩ := ho.1 hwt
  have hc : cZ d = 0 := by rw [hd0]; exact cZ_eq_zero.2 rfl
  have hp0 : p = [] := by rw [hp, hz, show Int.natAbs 0 = 0 from rfl, dg_zero]; rfl
  have hr0 : r = [] := by rw [hr, x2, hc, show Int.natAbs 0 = 0 from rfl, dg_zero]; rfl
  have hu0 : u = false := by rw [x1, hc]; rfl
  have hf0 : f = 0 := by rw [x3, hd0]; rfl
  rw [hp0, hr0, hu0, hf0, hwt]
  exact dy0_fs C
 ·by_cases hfit : fits d
  ·have hwt : w = true := hw.2 hfit
   obtain ⟨x1, x2, x3⟩ := ho.1 hwt
   rw [hwt]
   exact FS_ofFN (dy_fn C (r := r) hp hs hd (by rw [hr, x2]) x1 x3 h0 hl hz hfit) (by rintro _ _ ⟨rfl, rfl⟩; rfl)
  ·have hwf : w = false := by
    cases w
    ·rfl
    ·exact absurd (hw.1 rfl) hfit
   obtain ⟨x1, x2, x3⟩ := ho.2 hwf
   rw [hwf, hr, x1, x2, x3]
   rw [hd] at hfit
   exact dyn_fs C hp hs h0 hl hz hfit

theorem spanIv_oo_fx (C : Cx P gl) {z1 z2 e f : Int} {p q : List PV} {s t : Bool} {d1 d2 : Dyadic} (hp : p = intsL (dg z1.natAbs)) (hs : s = decide (z1 < 0)) (hq : q = intsL (dg z2.natAbs)) (ht : t = decide (z2 < 0))
  (hd1 : d1 = mk z1 e) (hd2 : d2 = mk z2 f) (c1 : e.natAbs ≤ 100000) (c2 : f.natAbs ≤ 100000) (l1 : (dg z1.natAbs).length ≤ 1000000) (l2 : (dg z2.natAbs).length ≤ 1000000) {u : Bool} {r : List PV} {g : Int} {v : Bool} {x : List PV} {h : Int} (fit1 : fits d1) (n1 : z1 ≠ 0) (hr1 : r = intsL (dg (cZ d1).natAbs)) (hu1 : u = decide (cZ d1 < 0)) (hg1 : g = cE d1) (fit2 : fits d2) (n2 : z2 ≠ 0) (hr2 : x = intsL (dg (cZ d2).natAbs)) (hu2 : v = decide (cZ d2 < 0)) (hg2 : h = cE d2) :
  FX P gl 86 [] [.pv (.agg [B s, .lst p, I e, B t, .lst q, I f])] (fun own rr => own = [.row 3 1 r, .row 3 1 x] ∧ rr = .tup [.agg [.pv (B u), .own 0, .pv (I g), .pv (B v), .own 1, .pv (I h)], .pv (B true)]) := by
 have hc1 := fun (P' : Program) (C' : Cx P' gl) => dy_fn C' hp hs hd1 hr1 hu1 hg1 (by omega) (by omega) n1 fit1
 have hc2 := fun (P' : Program) (C' : Cx P' gl) => dy_fn C' hq ht hd2 hr2 hu2 hg2 (by omega) (by omega) n2 fit2
 clear hd1 hd2 hr1 hu1 hg1 hr2 hu2 hg2
 refine gX C func86 rfl rfl rfl fun A hA hI => ?_
 iterate 2 all_goals try cbv; with_reducible repeat' first | exact ⟨⟩ | apply And.intro | intro _
 all_goals try exact oH
 refine callN hA rfl (hc1 P C) ?_; rintro _ _ ⟨rfl, rfl⟩; refine ⟨rfl, ?_⟩
 iterate 2 all_goals try cbv; with_reducible repeat' first | exact ⟨⟩ | apply And.intro | intro _
 all_goals try exact oH
 refine callN hA rfl (hc2 P C) ?_; rintro _ _ ⟨rfl, rfl⟩; refine ⟨rfl, ?_⟩
 iterate 2 all_goals try cbv; with_reducible repeat' first | exact ⟨⟩ | apply And.intro | intro _
 all_goals try exact oH
 iterate 2 all_goals try cbv; with_reducible repeat' first | exact ⟨⟩ | apply And.intro | intro _
 all_goals try exact oH
 subst hA
 exact ⟨[2, 4], _, _, by decide, Nat.zero_le _, rfl, rfl, rfl, rfl, rfl, rfl⟩

theorem spanIv_oo_fn (C : Cx P gl) {z1 z2 e f : Int} {p q : List PV} {s t : Bool} {d1 d2 : Dyadic} (hp : p = intsL (dg z1.natAbs)) (hs : s = decide (z1 < 0)) (hq : q = intsL (dg z2.natAbs)) (ht : t = decide (z2 < 0))
  (hd1 : d1 = mk z1 e) (hd2 : d2 = mk z2 f) (c1 : e.natAbs ≤ 100000) (c2 : f.natAbs ≤ 100000) (l1 : (dg z1.natAbs).length ≤ 1000000) (l2 : (dg z2.natAbs).length ≤ 1000000) {u : Bool} {r : List PV} {g : Int} {v : Bool} {x : List PV} {h : Int} (fit1 : fits d1) (n1 : z1 ≠ 0) (hr1 : r = intsL (dg (cZ d1).natAbs)) (hu1 : u = decide (cZ d1 < 0)) (hg1 : g = cE d1) (fit2 : fits d2) (n2 : z2 ≠ 0) (hr2 : x = intsL (dg (cZ d2).natAbs)) (hu2 : v = decide (cZ d2 < 0)) (hg2 : h = cE d2) :
  FN P gl 86 [.agg [B s, .lst p, I e, B t, .lst q, I f]] (fun own rr => own = [.row 3 1 r, .row 3 1 x] ∧ rr = .tup [.agg [.pv (B u), .own 0, .pv (I g), .pv (B v), .own 1, .pv (I h)], .pv (B true)]) :=
 FN_of (spanIv_oo_fx C hp hs hq ht hd1 hd2 c1 c2 l1 l2 fit1 n1 hr1 hu1 hg1 fit2 n2 hr2 hu2 hg2) (by rintro _ _ ⟨rfl, rfl⟩; exact ⟨by simpa using ⟨closed_ints hr1 _ _, closed_ints hr2 _ _⟩, rfl⟩)

theorem spanIv_on_fx (C : Cx P gl) {z1 z2 e f : Int} {p q : List PV} {s t : Bool} {d1 d2 : Dyadic} (hp : p = intsL (dg z1.natAbs)) (hs : s = decide (z1 < 0)) (hq : q = intsL (dg z2.natAbs)) (ht : t = decide (z2 < 0))
  (hd1 : d1 = mk z1 e) (hd2 : d2 = mk z2 f) (c1 : e.natAbs ≤ 100000) (c2 : f.natAbs ≤ 100000) (l1 : (dg z1.natAbs).length ≤ 1000000) (l2 : (dg z2.natAbs).length ≤ 1000000) {u : Bool} {r : List PV} {g : Int} (fit1 : fits d1) (n1 : z1 ≠ 0) (hr1 : r = intsL (dg (cZ d1).natAbs)) (hu1 : u = decide (cZ d1 < 0)) (hg1 : g = cE d1) (n2 : z2 = 0) :
  FX P gl 86 [] [.pv (.agg [B s, .lst p, I e, B t, .lst q, I f])] (fun own rr => own = [.row 3 1 r] ∧ rr = .tup [.agg [.pv (B u), .own 0, .pv (I g), .pv (B false), .pv (.lst []), .pv (I 0)], .pv (B true)]) := by
 have hc1 := fun (P' : Program) (C' : Cx P' gl) => dy_fn C' hp hs hd1 hr1 hu1 hg1 (by omega) (by omega) n1 fit1
 have hn2 : q = [] := by rw [hq, n2, show Int.natAbs 0 = 0 from rfl, dg_zero]; rfl
 rw [hn2]
 clear hd1 hd2 hr1 hu1 hg1
 refine gX C func86 rfl rfl rfl fun A hA hI => ?_
 iterate 2 all_goals try cbv; with_reducible repeat' first | exact ⟨⟩ | apply And.intro | intro _
 all_goals try exact oH
 refine callN hA rfl (hc1 P C) ?_; rintro _ _ ⟨rfl, rfl⟩; refine ⟨rfl, ?_⟩
 iterate 2 all_goals try cbv; with_reducible repeat' first | exact ⟨⟩ | apply And.intro | intro _
 all_goals try exact oH
 refine callS hA rfl (dy0_fs C) ?_; rintro _ rfl
 iterate 2 all_goals try cbv; with_reducible repeat' first | exact ⟨⟩ | apply And.intro | intro _
 all_goals try exact oH
 iterate 2 all_goals try cbv; with_reducible repeat' first | exact ⟨⟩ | apply And.intro | intro _
 all_goals try exact oH
 subst hA
 exact ⟨[2], _, _, by decide, Nat.zero_le _, rfl, rfl, rfl, rfl, rfl, rfl⟩

theorem spanIv_on_fn (C : Cx P gl) {z1 z2 e f : Int} {p q : List PV} {s t : Bool} {d1 d2 : Dyadic} (hp : p = intsL (dg z1.natAbs)) (hs : s = decide (z1 < 0)) (hq : q = intsL (dg z2.natAbs)) (ht : t = decide (z2 < 0))
  (hd1 : d1 = mk z1 e) (hd2 : d2 = mk z2 f) (c1 : e.natAbs ≤ 100000) (c2 : f.natAbs ≤ 100000) (l1 : (dg z1.natAbs).length ≤ 1000000) (l2 : (dg z2.natAbs).length ≤ 1000000) {u : Bool} {r : List PV} {g : Int} (fit1 : fits d1) (n1 : z1 ≠ 0) (hr1 : r = intsL (dg (cZ d1).natAbs)) (hu1 : u = decide (cZ d1 < 0)) (hg1 : g = cE d1) (n2 : z2 = 0) :
  FN P gl 86 [.agg [B s, .lst p, I e, B t, .lst q, I f]] (fun own rr => own = [.row 3 1 r] ∧ rr = .tup [.agg [.pv (B u), .own 0, .pv (I g), .pv (B false), .pv (.lst []), .pv (I 0)], .pv (B true)]) :=
 FN_of (spanIv_on_fx C hp hs hq ht hd1 hd2 c1 c2 l1 l2 fit1 n1 hr1 hu1 hg1 n2) (by rintro _ _ ⟨rfl, rfl⟩; exact ⟨by simpa using closed_ints hr1 _ _, rfl⟩)

theorem spanIv_no_fx (C : Cx P gl) {z1 z2 e f : Int} {p q : List PV} {s t : Bool} {d1 d2 : Dyadic} (hp : p = intsL (dg z1.natAbs)) (hs : s = decide (z1 < 0)) (hq : q = intsL (dg z2.natAbs)) (ht : t = decide (z2 < 0))
  (hd1 : d1 = mk z1 e) (hd2 : d2 = mk z2 f) (c1 : e.natAbs ≤ 100000) (c2 : f.natAbs ≤ 100000) (l1 : (dg z1.natAbs).length ≤ 1000000) (l2 : (dg z2.natAbs).length ≤ 1000000) {v : Bool} {x : List PV} {h : Int} (n1 : z1 = 0) (fit2 : fits d2) (n2 : z2 ≠ 0) (hr2 : x = intsL (dg (cZ d2).natAbs)) (hu2 : v = decide (cZ d2 < 0)) (hg2 : h = cE d2) :
  FX P gl 86 [] [.pv (.agg [B s, .lst p, I e, B t, .lst q, I f])] (fun own rr => own = [.row 3 1 x] ∧ rr = .tup [.agg [.pv (B false), .pv (.lst []), .pv (I 0), .pv (B v), .own 0, .pv (I h)], .pv (B true)]) := by
 have hn1 : p = [] := by rw [hp, n1, show Int.natAbs 0 = 0 from rfl, dg_zero]; rfl
 have hc2 := fun (P' : Program) (C' : Cx P' gl) => dy_fn C' hq ht hd2 hr2 hu2 hg2 (by omega) (by omega) n2 fit2
 rw [hn1]
 clear hd1 hd2 hr2 hu2 hg2
 refine gX C func86 rfl rfl rfl fun A hA hI => ?_
 iterate 2 all_goals try cbv; with_reducible repeat' first | exact ⟨⟩ | apply And.intro | intro _
 all_goals try exact oH
 refine callS hA rfl (dy0_fs C) ?_; rintro _ rfl
 iterate 2 all_goals try cbv; with_reducible repeat' first | exact ⟨⟩ | apply And.intro | intro _
 all_goals try exact oH
 refine callN hA rfl (hc2 P C) ?_; rintro _ _ ⟨rfl, rfl⟩; refine ⟨rfl, ?_⟩
 iterate 2 all_goals try cbv; with_reducible repeat' first | exact ⟨⟩ | apply And.intro | intro _
 all_goals try exact oH
 iterate 2 all_goals try cbv; with_reducible repeat' first | exact ⟨⟩ | apply And.intro | intro _
 all_goals try exact oH
 subst hA
 exact ⟨[3], _, _, by decide, Nat.zero_le _, rfl, rfl, rfl, rfl, rfl, rfl⟩

theorem spanIv_no_fn (C : Cx P gl) {z1 z2 e f : Int} {p q : List PV} {s t : Bool} {d1 d2 : Dyadic} (hp : p = intsL (dg z1.natAbs)) (hs : s = decide (z1 < 0)) (hq : q = intsL (dg z2.natAbs)) (ht : t = decide (z2 < 0))
  (hd1 : d1 = mk z1 e) (hd2 : d2 = mk z2 f) (c1 : e.natAbs ≤ 100000) (c2 : f.natAbs ≤ 100000) (l1 : (dg z1.natAbs).length ≤ 1000000) (l2 : (dg z2.natAbs).length ≤ 1000000) {v : Bool} {x : List PV} {h : Int} (n1 : z1 = 0) (fit2 : fits d2) (n2 : z2 ≠ 0) (hr2 : x = intsL (dg (cZ d2).natAbs)) (hu2 : v = decide (cZ d2 < 0)) (hg2 : h = cE d2) :
  FN P gl 86 [.agg [B s, .lst p, I e, B t, .lst q, I f]] (fun own rr => own = [.row 3 1 x] ∧ rr = .tup [.agg [.pv (B false), .pv (.lst []), .pv (I 0), .pv (B v), .own 0, .pv (I h)], .pv (B true)]) :=
 FN_of (spanIv_no_fx C hp hs hq ht hd1 hd2 c1 c2 l1 l2 n1 fit2 n2 hr2 hu2 hg2) (by rintro _ _ ⟨rfl, rfl⟩; exact ⟨by simpa using closed_ints hr2 _ _, rfl⟩)

theorem spanIv_nn_fs (C : Cx P gl) {e f : Int} {s t : Bool} : FS P gl 86 [.agg [B s, .lst [], I e, B t, .lst [], I f]] (· = .tup [.agg [B false, .lst [], I 0, B false, .lst [], I 0], B true]) := by
 refine gS C func86 rfl rfl rfl fun A hA hI => ?_
 iterate 2 all_goals try cbv; with_reducible repeat' first | exact ⟨⟩ | apply And.intro | intro _
 all_goals try exact oH
 refine callS hA rfl (dy0_fs C) ?_; rintro _ rfl
 iterate 2 all_goals try cbv; with_reducible repeat' first | exact ⟨⟩ | apply And.intro | intro _
 all_goals try exact oH
 refine callS hA rfl (dy0_fs C) ?_; rintro _ rfl
 iterate 2 all_goals try cbv; with_reducible repeat' first | exact ⟨⟩ | apply And.intro | intro _
 all_goals try exact oH
 iterate 2 all_goals try cbv; with_reducible repeat' first | exact ⟨⟩ | apply And.intro | intro _
 all_goals try exact oH

theorem spanIv_X_fs (C : Cx P gl) {z1 z2 e f : Int} {p q : List PV} {s t : Bool} {d1 d2 : Dyadic} (hp : p = intsL (dg z1.natAbs)) (hs : s = decide (z1 < 0)) (hq : q = intsL (dg z2.natAbs)) (ht : t = decide (z2 < 0))
  (hd1 : d1 = mk z1 e) (hd2 : d2 = mk z2 f) (c1 : e.natAbs ≤ 100000) (c2 : f.natAbs ≤ 100000) (l1 : (dg z1.natAbs).length ≤ 1000000) (l2 : (dg z2.natAbs).length ≤ 1000000) (hx : ¬(fits d1 ∧ fits d2)) :
  FS P gl 86 [.agg [B s, .lst p, I e, B t, .lst q, I f]] (· = .tup [.agg [B false, .lst [], I 0, B false, .lst [], I 0], B false]) := by
 obtain ⟨b1, hb1⟩ := bool_of (fits d1)
 obtain ⟨b2, hb2⟩ := bool_of (fits d2)
 obtain ⟨u1, o1, g1, ho1⟩ := outD_ex b1 d1
 obtain ⟨u2, o2, g2, ho2⟩ := outD_ex b2 d2
 obtain ⟨r1, hr1⟩ : ∃ r, r = intsL o1 := ⟨_, rfl⟩
 obtain ⟨r2, hr2⟩ : ∃ r, r = intsL o2 := ⟨_, rfl⟩
 have hc1 := fun (P' : Program) (C' : Cx P' gl) => dyV_fs C' hp hs hd1 hr1 hb1 ho1 (by omega) (by omega)
 have hc2 := fun (P' : Program) (C' : Cx P' gl) => dyV_fs C' hq ht hd2 hr2 hb2 ho2 (by omega) (by omega)
 have hbb : b1 = true → b2 = true → False := fun h1 h2 => hx ⟨hb1.1 h1, hb2.1 h2⟩
 clear hd1 hd2 hb1 hb2 ho1 ho2 hr1 hr2 hx
 refine gS C func86 rfl rfl rfl fun A hA hI => ?_
 iterate 2 all_goals try cbv; with_reducible repeat' first | exact ⟨⟩ | apply And.intro | intro _
 all_goals try exact oH
 refine callS hA rfl (hc1 P C) ?_; rintro _ rfl
 iterate 2 all_goals try cbv; with_reducible repeat' first | exact ⟨⟩ | apply And.intro | intro _
 all_goals try exact oH
 refine callS hA rfl (hc2 P C) ?_; rintro _ rfl
 iterate 2 all_goals try cbv; with_reducible repeat' first | exact ⟨⟩ | apply And.intro | intro _
 all_goals try exact oH
 iterate 2 all_goals try cbv; with_reducible repeat' first | exact ⟨⟩ | apply And.intro | intro _
 all_goals try exact oH
 all_goals (exfalso; rename_i g; subst hA; cases b1 <;> cases b2 <;> first | exact absurd g (by decide) | exact hbb rfl rfl)

end Tryz
end Go.Proofs

set_option maxRecDepth 100000
namespace Go.Proofs
open Go Go.Pe Go.Dg
namespace Tryz
set_option linter.unusedSimpArgs false
set_option linter.unusedVariables false
variable {P : Program} {gl : List (Nat × Obj)}

theorem isZero_fs (C : Cx P gl) {l : List Int} {p : List PV} {s b : Bool} {e : Int} (hp : p = intsL l) (hb : b = decide (l.length = 0)) : FS P gl 79 [.agg [B s, .lst p, I e]] (· = B b) := by
 refine gS C func79 rfl rfl rfl fun A hA hI => ?_
 iterate 2 all_goals try cbv; with_reducible repeat' first | exact ⟨⟩ | apply And.intro | intro _
 all_goals try exact oH
 have e1 : A.eq (A.cast (A.len p)) 0 = b := by
  rw [hb]; subst hA; subst hp; rw [Bool.eq_iff_iff]; simp [AR.std, ints_len]
 exact congrArg (fun x => PV.val (.bool x)) e1

end Tryz
end Go.Proofs

namespace Go.Proofs
open Go Go.Pe Go.Dg
namespace Tryz
set_option linter.unusedSimpArgs false
set_option linter.unusedVariables false
variable {P : Program} {gl : List (Nat × Obj)}

end Tryz
end Go.Proofs

