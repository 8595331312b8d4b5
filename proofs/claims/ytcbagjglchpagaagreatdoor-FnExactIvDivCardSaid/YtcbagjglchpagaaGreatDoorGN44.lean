/- Contracts: IvDiv, as the reference and the program have it. -/
import Derived.Test.YtcbagjglchpagaaGreatDoorGN40
import Derived.Test.YtcbagjglchpagaaGreatDoorGN42
import Derived.Test.YtcbagjglchpagaaGreatDoorGN43
namespace Go.Proofs
open Go Go.Pe Go.Dg
namespace Tryz
set_option linter.unusedSimpArgs false
set_option linter.unusedVariables false
variable {P : Program} {gl : List (Nat × Obj)}

set_option maxHeartbeats 2000000 in
set_option maxRecDepth 100000 in
theorem specIvDiv_fs (C : Cx P gl) {l0 m0 l1 m1 : List Int} {p0 q0 p1 q1 : List PV} {s0 t0 s1 t1 : Bool} {e0 f0 e1 f1 n2 : Int} {r x : List PV} {o o2 : List Int} {u v w : Bool} {g h : Int} {d1 d2 : Dyadic} (hp0 : p0 = intsL l0) (hq0 : q0 = intsL m0) (hp1 : p1 = intsL l1) (hq1 : q1 = intsL m1) (hr : r = intsL o) (hx : x = intsL o2)
    (hd1 : d1 = divLo (dval s0 l0 e0) (dval t0 m0 f0) (dval s1 l1 e1) (dval t1 m1 f1) n2) (hd2 : d2 = divHi (dval s0 l0 e0) (dval t0 m0 f0) (dval s1 l1 e1) (dval t1 m1 f1) n2) (hw : w = true ↔ ((ivOk s0 l0 e0 t0 m0 f0 ∧ ivOk s1 l1 e1 t1 m1 f1) ∧ (-200 ≤ n2 ∧ n2 ≤ 200) ∧ ¬(dval s1 l1 e1 ≤ 0 ∧ 0 ≤ dval t1 m1 f1)) ∧ fits d1 ∧ fits d2) (ho1 : w = true → cellsD d1 u o g ∧ cellsD d2 v o2 h) (ho2 : w = false → (u = false ∧ o = [] ∧ g = 0) ∧ v = false ∧ o2 = [] ∧ h = 0)
    (b0 : l0.length ≤ 2000000) (b1 : m0.length ≤ 2000000) (b2 : l1.length ≤ 2000000) (b3 : m1.length ≤ 2000000) :
    FS P gl 20 [.agg [B s0, .lst p0, I e0, B t0, .lst q0, I f0], .agg [B s1, .lst p1, I e1, B t1, .lst q1, I f1], I n2] (· = .tup [.agg [B u, .lst r, I g, B v, .lst x, I h], B w]) := by
  obtain ⟨c0, hc0⟩ := bool_of (ivOk s0 l0 e0 t0 m0 f0)
  obtain ⟨c1, hc1⟩ := bool_of (ivOk s1 l1 e1 t1 m1 f1)
  obtain ⟨lb, hlb⟩ : ∃ lb, lb = (decide (-200 ≤ n2) && decide (n2 ≤ 200)) := ⟨_, rfl⟩
  obtain ⟨sg, hsg⟩ : ∃ sg : Int, sg = if 0 < cZ (dval s1 l1 e1) then 1 else if cZ (dval t1 m1 f1) < 0 then -1 else 0 := ⟨_, rfl⟩
  have hok : ((ivOk s0 l0 e0 t0 m0 f0 ∧ ivOk s1 l1 e1 t1 m1 f1) ∧ (-200 ≤ n2 ∧ n2 ≤ 200) ∧ ¬(dval s1 l1 e1 ≤ 0 ∧ 0 ≤ dval t1 m1 f1)) ↔ c0 = true ∧ c1 = true ∧ lb = true ∧ sg ≠ 0 := by
    rw [hc0, hc1, hlb, Bool.and_eq_true, decide_eq_true_eq, decide_eq_true_eq, ne_eq, sign_zero hsg]
    constructor
    · rintro ⟨⟨a, b⟩, c, d⟩; exact ⟨a, b, c, d⟩
    · rintro ⟨a, b, c, d⟩; exact ⟨⟨a, b⟩, c, d⟩
  have hno : ¬(c0 = true ∧ c1 = true ∧ lb = true ∧ sg ≠ 0) → w = false ∧ u = false ∧ r = [] ∧ g = 0 ∧ v = false ∧ x = [] ∧ h = 0 := by
    intro hn
    have hw0 : w = false := by
      cases hww : w with
      | false => rfl
      | true => exact absurd (hok.1 (hw.1 hww).1) hn
    obtain ⟨⟨k1, k2, k3⟩, k4, k5, k6⟩ := ho2 hw0
    exact ⟨hw0, k1, by rw [hr, k2]; rfl, k3, k4, by rw [hx, k5]; rfl, k6⟩
  obtain ⟨r', hr'⟩ : ∃ r, r = intsL (dg (cZ d1).natAbs) := ⟨_, rfl⟩
  obtain ⟨u', hu'⟩ : ∃ r, r = decide (cZ d1 < 0) := ⟨_, rfl⟩
  obtain ⟨g', hg'⟩ : ∃ r, r = cE d1 := ⟨_, rfl⟩
  obtain ⟨x', hx'⟩ : ∃ r, r = intsL (dg (cZ d2).natAbs) := ⟨_, rfl⟩
  obtain ⟨v', hv'⟩ : ∃ r, r = decide (cZ d2 < 0) := ⟨_, rfl⟩
  obtain ⟨h', hh'⟩ : ∃ r, r = cE d2 := ⟨_, rfl⟩
  have hyes : (c0 = true ∧ c1 = true ∧ lb = true ∧ sg ≠ 0) → (∀ P', Cx P' gl → FS P' gl 58 [.agg [B s0, .lst p0, I e0, B t0, .lst q0, I f0], .agg [B s1, .lst p1, I e1, B t1, .lst q1, I f1], I n2] (· = .agg [B u', .lst r', I g', B v', .lst x', I h'])) ∧
      (∀ P', Cx P' gl → FS P' gl 47 [.agg [B u', .lst r', I g', B v', .lst x', I h']] (· = .tup [.agg [B u, .lst r, I g, B v, .lst x, I h], B w])) := by
    intro hy
    have ok := hok.2 hy
    obtain ⟨⟨ok0, ok1⟩, ok2, ok3⟩ := id ok
    obtain ⟨c1, c2, g1, g2, z1, z2, z3, z4, z5, z6, f1', f2'⟩ := ivOk_can hp0 hq0 ok0
    obtain ⟨c3, c4, g3, g4, z7, z8, z9, z10, z11, z12, f3', f4'⟩ := ivOk_can hp1 hq1 ok1
    have hle := ok1.2.2
    rw [g1, g2, g3, g4] at hd1 hd2
    rw [g3, g4] at hle ok3
    obtain ⟨nz1, nz2⟩ := noZero hle ok3
    have hw2 : w = true ↔ fits d1 ∧ fits d2 := by rw [hw]; exact ⟨fun h => h.2, fun h => ⟨ok, h⟩⟩
    have bl := (divE_can (low := n2) (m := 3) f1' f2' f3' f4' (by omega) (amin (divE c1 c2 c3 c4 n2 3) 3)).1
    have bu := (divE_can (low := n2) (m := 2) f1' f2' f3' f4' (by omega) (amax (divE c1 c2 c3 c4 n2 2) 3)).1
    refine ⟨fun P' C' => l7div_fs C' z1 z2 z3 z4 z5 z6 z7 z8 z9 z10 z11 z12 f1' f2' f3' f4' nz1 nz2 (by omega) hd1 hd2 hu' hr' hg' hv' hx' hh', fun P' C' => l7fits_fs C' hr' hu' hg' hx' hv' hh' (by rw [hd1]; exact Nat.le_trans bl (by decide)) (by rw [hd2]; exact Nat.le_trans bu (by decide)) hw2 ⟨fun hwt => ?_, fun hwf => ?_⟩⟩
    · obtain ⟨⟨k1, k2, k3⟩, k4, k5, k6⟩ := ho1 hwt
      exact ⟨by rw [hr, k2, hr'], by rw [k1, hu'], by rw [k3, hg'], by rw [hx, k5, hx'], by rw [k4, hv'], by rw [k6, hh']⟩
    · obtain ⟨⟨k1, k2, k3⟩, k4, k5, k6⟩ := ho2 hwf
      exact ⟨by rw [hr, k2]; rfl, k1, k3, by rw [hx, k5]; rfl, k4, k6⟩
  have am0 := fun (P' : Program) (C' : Cx P' gl) => IvOk_fs C' hp0 hq0 hc0 b0 b1
  have am1 := fun (P' : Program) (C' : Cx P' gl) => IvOk_fs C' hp1 hq1 hc1 b2 b3
  have lo := fun (P' : Program) (C' : Cx P' gl) => l7low_fs C' hlb
  have hsign : c1 = true → ∀ P', Cx P' gl → FS P' gl 57 [.agg [B s1, .lst p1, I e1, B t1, .lst q1, I f1]] (· = I sg) := by
    intro k P' C'
    obtain ⟨c3, c4, g3, g4, z7, z8, z9, z10, z11, z12, f3', f4'⟩ := ivOk_can hp1 hq1 (hc1.1 k)
    rw [g3, g4] at hsg
    exact l7sign_fs C' z7 z8 z10 z11 hsg
  clear hw ho1 ho2 hr hx hd1 hd2 hc0 hc1 hlb hsg hok hr' hu' hg' hx' hv' hh' hp0 hq0 hp1 hq1
  obtain ⟨rfl, hG⟩ := C
  refine FS_ofT (args := fun A => [.agg [B s0, .lst p0, I e0, B t0, .lst q0, I f0], .agg [B s1, .lst p1, I e1, B t1, .lst q1, I f1], I n2]) (R := fun A rr => rr = .tup [.agg [B u, .lst r, I g, B v, .lst x, I h], B w]) Tryz.hT Tryz.mix Tryz.func20 rfl rfl (Nat.le_of_ble_eq_true rfl) ?_
  generalize hP : Tryz.prog = P
  intro A hA
  have C : Tryz.Cx P gl := ⟨hP.symm, hG⟩
  have hI : intsL = A.ints := by subst hA; rfl
  iterate 2 (all_goals try cbv; all_goals repeat' (first | with_reducible exact True.intro | with_reducible refine And.intro ?_ ?_ | intro _))
  all_goals try exact oH
  refine callS hA rfl (am0 P C) ?_; rintro _ rfl
  iterate 2 (all_goals try cbv; all_goals repeat' (first | with_reducible exact True.intro | with_reducible refine And.intro ?_ ?_ | intro _))
  all_goals try exact oH
  refine ⟨_, fun _ => am1 P C, ?_⟩
  iterate 2 (all_goals try cbv; all_goals repeat' (first | with_reducible exact True.intro | with_reducible refine And.intro ?_ ?_ | intro _))
  all_goals try exact oH
  refine ⟨_, fun _ => lo P C, ?_⟩
  iterate 2 (all_goals try cbv; all_goals repeat' (first | with_reducible exact True.intro | with_reducible refine And.intro ?_ ?_ | intro _))
  all_goals try exact oH
  refine ⟨I sg, fun gg => ?_, ?_⟩
  · refine hsign ?_ P C
    clear hno hyes am0 am1 lo hsign hI
    subst hA
    revert gg
    cases c0 <;> cases c1 <;> cases lb <;> first | (intro _; rfl) | (intro gg; exact absurd gg (by decide))
  iterate 2 (all_goals try cbv; all_goals repeat' (first | with_reducible exact True.intro | with_reducible refine And.intro ?_ ?_ | intro _))
  all_goals try exact oH
  · rename_i gg
    obtain ⟨rfl, rfl, rfl, rfl, rfl, rfl, rfl⟩ := hno (by
      rintro ⟨k1, k2, k3, k4⟩
      clear hno hyes am0 am1 lo hsign hI
      subst k1 k2 k3 hA
      exact k4 (by simpa [AR.std] using gg))
    rfl
  · rename_i gg
    obtain ⟨hdiv, hfit⟩ := hyes (by
      clear hno hyes am0 am1 lo hsign hI
      subst hA
      revert gg
      cases c0 <;> cases c1 <;> cases lb <;> first | (intro gg; exact ⟨rfl, rfl, rfl, by simpa [AR.std] using gg⟩) | (intro gg; exact absurd gg (by decide)) | (intro gg; simp [AR.std] at gg))
    clear hno hyes am0 am1 lo hsign
    iterate 2 (all_goals try cbv; all_goals repeat' (first | with_reducible exact True.intro | with_reducible refine And.intro ?_ ?_ | intro _))
    all_goals try exact oH
    first | (refine callS hA rfl (hdiv P C) ?_; rintro _ rfl) | refine ⟨_, hdiv P C, ?_⟩
    iterate 2 (all_goals try cbv; all_goals repeat' (first | with_reducible exact True.intro | with_reducible refine And.intro ?_ ?_ | intro _))
    all_goals try exact oH
    first | (refine callS hA rfl (hfit P C) ?_; rintro _ rfl) | refine ⟨_, hfit P C, ?_⟩
    iterate 2 (all_goals try cbv; all_goals repeat' (first | with_reducible exact True.intro | with_reducible refine And.intro ?_ ?_ | intro _))
    all_goals try exact oH

set_option maxHeartbeats 2000000 in
set_option maxRecDepth 100000 in
theorem implIvDiv_oo_fx (C : Cx P gl) {l0 m0 l1 m1 : List Int} {p0 q0 p1 q1 : List PV} {s0 t0 s1 t1 : Bool} {e0 f0 e1 f1 n2 : Int} {d1 d2 : Dyadic} {u : Bool} {r : List PV} {g : Int} {v : Bool} {x : List PV} {h : Int} (hp0 : p0 = intsL l0) (hq0 : q0 = intsL m0) (hp1 : p1 = intsL l1) (hq1 : q1 = intsL m1) (ok : (ivOk s0 l0 e0 t0 m0 f0 ∧ ivOk s1 l1 e1 t1 m1 f1) ∧ (-200 ≤ n2 ∧ n2 ≤ 200) ∧ ¬(dval s1 l1 e1 ≤ 0 ∧ 0 ≤ dval t1 m1 f1)) (hd1 : d1 = divLo (dval s0 l0 e0) (dval t0 m0 f0) (dval s1 l1 e1) (dval t1 m1 f1) n2) (hd2 : d2 = divHi (dval s0 l0 e0) (dval t0 m0 f0) (dval s1 l1 e1) (dval t1 m1 f1) n2) (fit1 : fits d1) (nzz1 : d1 ≠ 0) (hr1 : r = intsL (dg (cZ d1).natAbs)) (hu1 : u = decide (cZ d1 < 0)) (hg1 : g = cE d1) (fit2 : fits d2) (nzz2 : d2 ≠ 0) (hr2 : x = intsL (dg (cZ d2).natAbs)) (hu2 : v = decide (cZ d2 < 0)) (hg2 : h = cE d2)
    (b0 : l0.length ≤ 2000000) (b1 : m0.length ≤ 2000000) (b2 : l1.length ≤ 2000000) (b3 : m1.length ≤ 2000000) :
    FX P gl 21 [] [.pv (.agg [B s0, .lst p0, I e0, B t0, .lst q0, I f0]), .pv (.agg [B s1, .lst p1, I e1, B t1, .lst q1, I f1]), .pv (I n2)] (fun own rr => own = [.row 3 1 r, .row 3 1 x] ∧ rr = .tup [.agg [.pv (B u), .own 0, .pv (I g), .pv (B v), .own 1, .pv (I h)], .pv (B true)]) := by
  obtain ⟨c0, hc0⟩ := bool_of (ivOk s0 l0 e0 t0 m0 f0 ∧ ivOk s1 l1 e1 t1 m1 f1)
  have hall : c0 = true ↔ allV [((s0, l0, e0), (t0, m0, f0)), ((s1, l1, e1), (t1, m1, f1))] := by
    rw [hc0]
    constructor
    · rintro ⟨k0, k1⟩ y hy
      simp only [List.mem_cons, List.not_mem_nil, or_false] at hy
      rcases hy with rfl | rfl
      · exact k0
      · exact k1
    · intro h; exact ⟨h ((s0, l0, e0), (t0, m0, f0)) (by simp), h ((s1, l1, e1), (t1, m1, f1)) (by simp)⟩
  have hyy : ∀ y ∈ [((s0, l0, e0), (t0, m0, f0)), ((s1, l1, e1), (t1, m1, f1))], y.1.2.1.length ≤ 2000000 ∧ y.2.2.1.length ≤ 2000000 := by
    intro y hy
    simp only [List.mem_cons, List.not_mem_nil, or_false] at hy
    rcases hy with rfl | rfl
    · exact ⟨b0, b1⟩
    · exact ⟨b2, b3⟩
  have hcl : [PV.agg [B s0, .lst p0, I e0, B t0, .lst q0, I f0], .agg [B s1, .lst p1, I e1, B t1, .lst q1, I f1]] = cells6 [((s0, l0, e0), (t0, m0, f0)), ((s1, l1, e1), (t1, m1, f1))] := by rw [hp0, hq0, hp1, hq1]; rfl
  have hare := fun (P' : Program) (C' : Cx P' gl) => areIvs_fs C' hcl hall (by simp) hyy
  obtain ⟨lb, hlb⟩ : ∃ lb, lb = (decide (-200 ≤ n2) && decide (n2 ≤ 200)) := ⟨_, rfl⟩
  have lo := fun (P' : Program) (C' : Cx P' gl) => isFine_fs C' hlb
  obtain ⟨hb, hhb⟩ := bool_of (dval s1 l1 e1 ≤ 0 ∧ 0 ≤ dval t1 m1 f1)
  have has0 : c0 = true → ∀ P', Cx P' gl → FS P' gl 60 [.agg [B s1, .lst p1, I e1, B t1, .lst q1, I f1], .agg [B false, .lst [], I 0]] (· = B hb) := by
    intro k P' C'
    obtain ⟨c3, c4, g3, g4, z7, z8, z9, z10, z11, z12, f3', f4'⟩ := ivOk_can hp1 hq1 (hc0.1 k).2
    rw [g3, g4] at hhb
    exact spanHas0_fs C' z7 z8 z9 z10 z11 z12 f3' f4' (by rw [Bool.eq_iff_iff, hhb, Bool.and_eq_true, decide_eq_true_eq, decide_eq_true_eq])
  obtain ⟨⟨ok0, ok1⟩, ok2, ok3⟩ := ok
  obtain rfl : c0 = true := hc0.2 ⟨ok0, ok1⟩
  obtain rfl : lb = true := by rw [hlb, decide_eq_true ok2.1, decide_eq_true ok2.2]; rfl
  obtain rfl : hb = false := by
    cases hbc : hb with
    | false => rfl
    | true => exact absurd (hhb.1 hbc) ok3
  have has1 := has0 rfl
  clear has0 hhb
  obtain ⟨c1, c2, g1, g2, z1, z2, z3, z4, z5, z6, f1', f2'⟩ := ivOk_can hp0 hq0 ok0
  obtain ⟨c3, c4, g3, g4, z7, z8, z9, z10, z11, z12, f3', f4'⟩ := ivOk_can hp1 hq1 ok1
  have hle := ok1.2.2
  rw [g1, g2, g3, g4] at hd1 hd2
  rw [g3, g4] at hle ok3
  obtain ⟨nz1, nz2⟩ := noZero hle ok3
  obtain ⟨y1, y2, x1, x2, k1⟩ := spanOver_ex (low := n2) f1' f2' f3' f4' nz1 nz2 (by omega)
  rw [← hd1] at x1
  rw [← hd2] at x2
  obtain ⟨w1, i1, i2, i3, i4, i5⟩ := x1
  obtain ⟨w2, j1, j2, j3, j4, j5⟩ := x2
  obtain ⟨r1, hr1'⟩ : ∃ r, r = intsL y1.2.1 := ⟨_, rfl⟩
  obtain ⟨r2, hr2'⟩ : ∃ r, r = intsL y2.2.1 := ⟨_, rfl⟩
  obtain ⟨v1, hv1'⟩ : ∃ b, b = y1.1 := ⟨_, rfl⟩
  obtain ⟨v2, hv2'⟩ : ∃ b, b = y2.1 := ⟨_, rfl⟩
  obtain ⟨g5, hg5'⟩ : ∃ b, b = y1.2.2 := ⟨_, rfl⟩
  obtain ⟨g6, hg6'⟩ : ∃ b, b = y2.2.2 := ⟨_, rfl⟩
  have hop := fun (P' : Program) (C' : Cx P' gl) => k1 P' gl p0 q0 p1 q1 r1 r2 C' z2 z5 z8 z11 hr1' hr2'
  rw [← hv1', ← hg5', ← hv2', ← hg6', show (canY c1).1 = s0 from z1.symm, show (canY c1).2.2 = e0 from z3.symm, show (canY c2).1 = t0 from z4.symm, show (canY c2).2.2 = f0 from z6.symm,
    show (canY c3).1 = s1 from z7.symm, show (canY c3).2.2 = e1 from z9.symm, show (canY c4).1 = t1 from z10.symm, show (canY c4).2.2 = f1 from z12.symm] at hop
  rw [i2] at hr1'
  rw [j2] at hr2'
  rw [i1] at hv1'
  rw [j1] at hv2'
  rw [← hg5'] at i3 i5
  rw [← hg6'] at j3 j5
  have hw1 : d1 = 0 ↔ w1 = 0 := by rw [i3, ← mk_zero g5, mk_inj]
  have hw2 : d2 = 0 ↔ w2 = 0 := by rw [j3, ← mk_zero g6, mk_inj]
  have hiv := fun (P' : Program) (C' : Cx P' gl) => spanIv_oo_fn C' hr1' hv1' hr2' hv2' i3 j3 (by omega) (by omega) (by omega) (by omega) fit1 (fun h => nzz1 (hw1.2 h)) hr1 hu1 hg1 fit2 (fun h => nzz2 (hw2.2 h)) hr2 hu2 hg2
  clear hr1' hr2' hv1' hv2' hw1 hw2 hd1 hd2 ok0 ok1 ok3 hle i1 i2 i3 i4 i5 j1 j2 j3 j4 j5 k1 hr1 hu1 hg1 nzz1 hr2 hu2 hg2 nzz2 g1 g2 g3 g4 z1 z2 z3 z4 z5 z6 z7 z8 z9 z10 z11 z12 hp0 hq0 hp1 hq1 hg5' hg6' hc0 hlb hall hyy hcl nz1 nz2 f1' f2' f3' f4'
  obtain ⟨rfl, hG⟩ := C
  refine FX_ofC (own := fun A => []) (args := fun A => [.pv (.agg [B s0, .lst p0, I e0, B t0, .lst q0, I f0]), .pv (.agg [B s1, .lst p1, I e1, B t1, .lst q1, I f1]), .pv (I n2)]) (R := fun A ow rr => ow = [.row 3 1 r, .row 3 1 x] ∧ rr = .tup [.agg [.pv (B u), .own 0, .pv (I g), .pv (B v), .own 1, .pv (I h)], .pv (B true)]) Tryz.hT Tryz.mix Tryz.func21 rfl rfl (Nat.le_of_ble_eq_true rfl) ?_
  generalize hP : Tryz.prog = P
  intro A hA
  have C : Tryz.Cx P gl := ⟨hP.symm, hG⟩
  have hI : intsL = A.ints := by subst hA; rfl
  have q1 : A.bnot true = false := by subst hA; rfl
  have q2 : A.bnot false = true := by subst hA; rfl
  have q3 : ∀ x, A.pick false true x = x := fun x => by subst hA; cases x <;> rfl
  have q4 : ∀ x, A.pick true true x = true := fun x => by subst hA; cases x <;> rfl
  iterate 2 (all_goals try cbv; all_goals repeat' (first | with_reducible exact True.intro | with_reducible refine And.intro ?_ ?_ | intro _))
  all_goals try exact oH
  all_goals try (refine okA_of hA ?_; intro y hy; simp only [List.mem_cons, List.not_mem_nil, or_false] at hy; rcases hy with rfl | rfl <;> exact ⟨rfl, rfl⟩)
  refine callS hA rfl (hare P C) ?_; rintro _ rfl
  iterate 2 (all_goals try cbv; all_goals repeat' (first | with_reducible exact True.intro | with_reducible refine And.intro ?_ ?_ | intro _))
  all_goals try exact oH
  all_goals try simp only [q1, q2, q3, q4]
  refine ⟨_, fun _ => lo P C, ?_⟩
  iterate 2 (all_goals try cbv; all_goals repeat' (first | with_reducible exact True.intro | with_reducible refine And.intro ?_ ?_ | intro _))
  all_goals try exact oH
  all_goals try simp only [q1, q2, q3, q4]
  refine ⟨_, fun _ => span_fs C, ?_⟩
  iterate 2 (all_goals try cbv; all_goals repeat' (first | with_reducible exact True.intro | with_reducible refine And.intro ?_ ?_ | intro _))
  all_goals try exact oH
  all_goals try simp only [q1, q2, q3, q4]
  refine ⟨_, fun _ => has1 P C, ?_⟩
  iterate 2 (all_goals try cbv; all_goals repeat' (first | with_reducible exact True.intro | with_reducible refine And.intro ?_ ?_ | intro _))
  all_goals try exact oH
  all_goals try simp only [q1, q2, q3, q4]
  iterate 2 (all_goals try cbv; all_goals repeat' (first | with_reducible exact True.intro | with_reducible refine And.intro ?_ ?_ | intro _))
  all_goals try exact oH
  first | (refine callS hA rfl (span_fs C) ?_; rintro _ rfl) | refine ⟨_, span_fs C, ?_⟩
  iterate 2 (all_goals try cbv; all_goals repeat' (first | with_reducible exact True.intro | with_reducible refine And.intro ?_ ?_ | intro _))
  all_goals try exact oH
  first | (refine callS hA rfl (span_fs C) ?_; rintro _ rfl) | refine ⟨_, span_fs C, ?_⟩
  iterate 2 (all_goals try cbv; all_goals repeat' (first | with_reducible exact True.intro | with_reducible refine And.intro ?_ ?_ | intro _))
  all_goals try exact oH
  first | (refine callS hA rfl (hop P C) ?_; rintro _ rfl) | refine ⟨_, hop P C, ?_⟩
  iterate 2 (all_goals try cbv; all_goals repeat' (first | with_reducible exact True.intro | with_reducible refine And.intro ?_ ?_ | intro _))
  all_goals try exact oH
  refine callN hA rfl (hiv P C) ?_; rintro _ _ ⟨rfl, rfl⟩; refine ⟨rfl, ?_⟩
  iterate 2 (all_goals try cbv; all_goals repeat' (first | with_reducible exact True.intro | with_reducible refine And.intro ?_ ?_ | intro _))
  all_goals try exact oH
  subst hA
  exact ⟨[4, 5], _, _, by decide, Nat.zero_le _, rfl, rfl, rfl, rfl, rfl, rfl⟩

theorem implIvDiv_oo_fn (C : Cx P gl) {l0 m0 l1 m1 : List Int} {p0 q0 p1 q1 : List PV} {s0 t0 s1 t1 : Bool} {e0 f0 e1 f1 n2 : Int} {d1 d2 : Dyadic} {u : Bool} {r : List PV} {g : Int} {v : Bool} {x : List PV} {h : Int} (hp0 : p0 = intsL l0) (hq0 : q0 = intsL m0) (hp1 : p1 = intsL l1) (hq1 : q1 = intsL m1) (ok : (ivOk s0 l0 e0 t0 m0 f0 ∧ ivOk s1 l1 e1 t1 m1 f1) ∧ (-200 ≤ n2 ∧ n2 ≤ 200) ∧ ¬(dval s1 l1 e1 ≤ 0 ∧ 0 ≤ dval t1 m1 f1)) (hd1 : d1 = divLo (dval s0 l0 e0) (dval t0 m0 f0) (dval s1 l1 e1) (dval t1 m1 f1) n2) (hd2 : d2 = divHi (dval s0 l0 e0) (dval t0 m0 f0) (dval s1 l1 e1) (dval t1 m1 f1) n2) (fit1 : fits d1) (nzz1 : d1 ≠ 0) (hr1 : r = intsL (dg (cZ d1).natAbs)) (hu1 : u = decide (cZ d1 < 0)) (hg1 : g = cE d1) (fit2 : fits d2) (nzz2 : d2 ≠ 0) (hr2 : x = intsL (dg (cZ d2).natAbs)) (hu2 : v = decide (cZ d2 < 0)) (hg2 : h = cE d2)
    (b0 : l0.length ≤ 2000000) (b1 : m0.length ≤ 2000000) (b2 : l1.length ≤ 2000000) (b3 : m1.length ≤ 2000000) :
    FN P gl 21 [.agg [B s0, .lst p0, I e0, B t0, .lst q0, I f0], .agg [B s1, .lst p1, I e1, B t1, .lst q1, I f1], I n2] (fun own rr => own = [.row 3 1 r, .row 3 1 x] ∧ rr = .tup [.agg [.pv (B u), .own 0, .pv (I g), .pv (B v), .own 1, .pv (I h)], .pv (B true)]) :=
  FN_of (implIvDiv_oo_fx C hp0 hq0 hp1 hq1 ok hd1 hd2 fit1 nzz1 hr1 hu1 hg1 fit2 nzz2 hr2 hu2 hg2 b0 b1 b2 b3) (by rintro _ _ ⟨rfl, rfl⟩; exact ⟨by simpa using ⟨closed_ints hr1 _ _, closed_ints hr2 _ _⟩, rfl⟩)

set_option maxHeartbeats 2000000 in
set_option maxRecDepth 100000 in
theorem implIvDiv_on_fx (C : Cx P gl) {l0 m0 l1 m1 : List Int} {p0 q0 p1 q1 : List PV} {s0 t0 s1 t1 : Bool} {e0 f0 e1 f1 n2 : Int} {d1 d2 : Dyadic} {u : Bool} {r : List PV} {g : Int} (hp0 : p0 = intsL l0) (hq0 : q0 = intsL m0) (hp1 : p1 = intsL l1) (hq1 : q1 = intsL m1) (ok : (ivOk s0 l0 e0 t0 m0 f0 ∧ ivOk s1 l1 e1 t1 m1 f1) ∧ (-200 ≤ n2 ∧ n2 ≤ 200) ∧ ¬(dval s1 l1 e1 ≤ 0 ∧ 0 ≤ dval t1 m1 f1)) (hd1 : d1 = divLo (dval s0 l0 e0) (dval t0 m0 f0) (dval s1 l1 e1) (dval t1 m1 f1) n2) (hd2 : d2 = divHi (dval s0 l0 e0) (dval t0 m0 f0) (dval s1 l1 e1) (dval t1 m1 f1) n2) (fit1 : fits d1) (nzz1 : d1 ≠ 0) (hr1 : r = intsL (dg (cZ d1).natAbs)) (hu1 : u = decide (cZ d1 < 0)) (hg1 : g = cE d1) (nzz2 : d2 = 0)
    (b0 : l0.length ≤ 2000000) (b1 : m0.length ≤ 2000000) (b2 : l1.length ≤ 2000000) (b3 : m1.length ≤ 2000000) :
    FX P gl 21 [] [.pv (.agg [B s0, .lst p0, I e0, B t0, .lst q0, I f0]), .pv (.agg [B s1, .lst p1, I e1, B t1, .lst q1, I f1]), .pv (I n2)] (fun own rr => own = [.row 3 1 r] ∧ rr = .tup [.agg [.pv (B u), .own 0, .pv (I g), .pv (B false), .pv (.lst []), .pv (I 0)], .pv (B true)]) := by
  obtain ⟨c0, hc0⟩ := bool_of (ivOk s0 l0 e0 t0 m0 f0 ∧ ivOk s1 l1 e1 t1 m1 f1)
  have hall : c0 = true ↔ allV [((s0, l0, e0), (t0, m0, f0)), ((s1, l1, e1), (t1, m1, f1))] := by
    rw [hc0]
    constructor
    · rintro ⟨k0, k1⟩ y hy
      simp only [List.mem_cons, List.not_mem_nil, or_false] at hy
      rcases hy with rfl | rfl
      · exact k0
      · exact k1
    · intro h; exact ⟨h ((s0, l0, e0), (t0, m0, f0)) (by simp), h ((s1, l1, e1), (t1, m1, f1)) (by simp)⟩
  have hyy : ∀ y ∈ [((s0, l0, e0), (t0, m0, f0)), ((s1, l1, e1), (t1, m1, f1))], y.1.2.1.length ≤ 2000000 ∧ y.2.2.1.length ≤ 2000000 := by
    intro y hy
    simp only [List.mem_cons, List.not_mem_nil, or_false] at hy
    rcases hy with rfl | rfl
    · exact ⟨b0, b1⟩
    · exact ⟨b2, b3⟩
  have hcl : [PV.agg [B s0, .lst p0, I e0, B t0, .lst q0, I f0], .agg [B s1, .lst p1, I e1, B t1, .lst q1, I f1]] = cells6 [((s0, l0, e0), (t0, m0, f0)), ((s1, l1, e1), (t1, m1, f1))] := by rw [hp0, hq0, hp1, hq1]; rfl
  have hare := fun (P' : Program) (C' : Cx P' gl) => areIvs_fs C' hcl hall (by simp) hyy
  obtain ⟨lb, hlb⟩ : ∃ lb, lb = (decide (-200 ≤ n2) && decide (n2 ≤ 200)) := ⟨_, rfl⟩
  have lo := fun (P' : Program) (C' : Cx P' gl) => isFine_fs C' hlb
  obtain ⟨hb, hhb⟩ := bool_of (dval s1 l1 e1 ≤ 0 ∧ 0 ≤ dval t1 m1 f1)
  have has0 : c0 = true → ∀ P', Cx P' gl → FS P' gl 60 [.agg [B s1, .lst p1, I e1, B t1, .lst q1, I f1], .agg [B false, .lst [], I 0]] (· = B hb) := by
    intro k P' C'
    obtain ⟨c3, c4, g3, g4, z7, z8, z9, z10, z11, z12, f3', f4'⟩ := ivOk_can hp1 hq1 (hc0.1 k).2
    rw [g3, g4] at hhb
    exact spanHas0_fs C' z7 z8 z9 z10 z11 z12 f3' f4' (by rw [Bool.eq_iff_iff, hhb, Bool.and_eq_true, decide_eq_true_eq, decide_eq_true_eq])
  obtain ⟨⟨ok0, ok1⟩, ok2, ok3⟩ := ok
  obtain rfl : c0 = true := hc0.2 ⟨ok0, ok1⟩
  obtain rfl : lb = true := by rw [hlb, decide_eq_true ok2.1, decide_eq_true ok2.2]; rfl
  obtain rfl : hb = false := by
    cases hbc : hb with
    | false => rfl
    | true => exact absurd (hhb.1 hbc) ok3
  have has1 := has0 rfl
  clear has0 hhb
  obtain ⟨c1, c2, g1, g2, z1, z2, z3, z4, z5, z6, f1', f2'⟩ := ivOk_can hp0 hq0 ok0
  obtain ⟨c3, c4, g3, g4, z7, z8, z9, z10, z11, z12, f3', f4'⟩ := ivOk_can hp1 hq1 ok1
  have hle := ok1.2.2
  rw [g1, g2, g3, g4] at hd1 hd2
  rw [g3, g4] at hle ok3
  obtain ⟨nz1, nz2⟩ := noZero hle ok3
  obtain ⟨y1, y2, x1, x2, k1⟩ := spanOver_ex (low := n2) f1' f2' f3' f4' nz1 nz2 (by omega)
  rw [← hd1] at x1
  rw [← hd2] at x2
  obtain ⟨w1, i1, i2, i3, i4, i5⟩ := x1
  obtain ⟨w2, j1, j2, j3, j4, j5⟩ := x2
  obtain ⟨r1, hr1'⟩ : ∃ r, r = intsL y1.2.1 := ⟨_, rfl⟩
  obtain ⟨r2, hr2'⟩ : ∃ r, r = intsL y2.2.1 := ⟨_, rfl⟩
  obtain ⟨v1, hv1'⟩ : ∃ b, b = y1.1 := ⟨_, rfl⟩
  obtain ⟨v2, hv2'⟩ : ∃ b, b = y2.1 := ⟨_, rfl⟩
  obtain ⟨g5, hg5'⟩ : ∃ b, b = y1.2.2 := ⟨_, rfl⟩
  obtain ⟨g6, hg6'⟩ : ∃ b, b = y2.2.2 := ⟨_, rfl⟩
  have hop := fun (P' : Program) (C' : Cx P' gl) => k1 P' gl p0 q0 p1 q1 r1 r2 C' z2 z5 z8 z11 hr1' hr2'
  rw [← hv1', ← hg5', ← hv2', ← hg6', show (canY c1).1 = s0 from z1.symm, show (canY c1).2.2 = e0 from z3.symm, show (canY c2).1 = t0 from z4.symm, show (canY c2).2.2 = f0 from z6.symm,
    show (canY c3).1 = s1 from z7.symm, show (canY c3).2.2 = e1 from z9.symm, show (canY c4).1 = t1 from z10.symm, show (canY c4).2.2 = f1 from z12.symm] at hop
  rw [i2] at hr1'
  rw [j2] at hr2'
  rw [i1] at hv1'
  rw [j1] at hv2'
  rw [← hg5'] at i3 i5
  rw [← hg6'] at j3 j5
  have hw1 : d1 = 0 ↔ w1 = 0 := by rw [i3, ← mk_zero g5, mk_inj]
  have hw2 : d2 = 0 ↔ w2 = 0 := by rw [j3, ← mk_zero g6, mk_inj]
  have hiv := fun (P' : Program) (C' : Cx P' gl) => spanIv_on_fn C' hr1' hv1' hr2' hv2' i3 j3 (by omega) (by omega) (by omega) (by omega) fit1 (fun h => nzz1 (hw1.2 h)) hr1 hu1 hg1 (hw2.1 nzz2)
  clear hr1' hr2' hv1' hv2' hw1 hw2 hd1 hd2 ok0 ok1 ok3 hle i1 i2 i3 i4 i5 j1 j2 j3 j4 j5 k1 hr1 hu1 hg1 nzz1 nzz2 g1 g2 g3 g4 z1 z2 z3 z4 z5 z6 z7 z8 z9 z10 z11 z12 hp0 hq0 hp1 hq1 hg5' hg6' hc0 hlb hall hyy hcl nz1 nz2 f1' f2' f3' f4'
  obtain ⟨rfl, hG⟩ := C
  refine FX_ofC (own := fun A => []) (args := fun A => [.pv (.agg [B s0, .lst p0, I e0, B t0, .lst q0, I f0]), .pv (.agg [B s1, .lst p1, I e1, B t1, .lst q1, I f1]), .pv (I n2)]) (R := fun A ow rr => ow = [.row 3 1 r] ∧ rr = .tup [.agg [.pv (B u), .own 0, .pv (I g), .pv (B false), .pv (.lst []), .pv (I 0)], .pv (B true)]) Tryz.hT Tryz.mix Tryz.func21 rfl rfl (Nat.le_of_ble_eq_true rfl) ?_
  generalize hP : Tryz.prog = P
  intro A hA
  have C : Tryz.Cx P gl := ⟨hP.symm, hG⟩
  have hI : intsL = A.ints := by subst hA; rfl
  have q1 : A.bnot true = false := by subst hA; rfl
  have q2 : A.bnot false = true := by subst hA; rfl
  have q3 : ∀ x, A.pick false true x = x := fun x => by subst hA; cases x <;> rfl
  have q4 : ∀ x, A.pick true true x = true := fun x => by subst hA; cases x <;> rfl
  iterate 2 (all_goals try cbv; all_goals repeat' (first | with_reducible exact True.intro | with_reducible refine And.intro ?_ ?_ | intro _))
  all_goals try exact oH
  all_goals try (refine okA_of hA ?_; intro y hy; simp only [List.mem_cons, List.not_mem_nil, or_false] at hy; rcases hy with rfl | rfl <;> exact ⟨rfl, rfl⟩)
  refine callS hA rfl (hare P C) ?_; rintro _ rfl
  iterate 2 (all_goals try cbv; all_goals repeat' (first | with_reducible exact True.intro | with_reducible refine And.intro ?_ ?_ | intro _))
  all_goals try exact oH
  all_goals try simp only [q1, q2, q3, q4]
  refine ⟨_, fun _ => lo P C, ?_⟩
  iterate 2 (all_goals try cbv; all_goals repeat' (first | with_reducible exact True.intro | with_reducible refine And.intro ?_ ?_ | intro _))
  all_goals try exact oH
  all_goals try simp only [q1, q2, q3, q4]
  refine ⟨_, fun _ => span_fs C, ?_⟩
  iterate 2 (all_goals try cbv; all_goals repeat' (first | with_reducible exact True.intro | with_reducible refine And.intro ?_ ?_ | intro _))
  all_goals try exact oH
  all_goals try simp only [q1, q2, q3, q4]
  refine ⟨_, fun _ => has1 P C, ?_⟩
  iterate 2 (all_goals try cbv; all_goals repeat' (first | with_reducible exact True.intro | with_reducible refine And.intro ?_ ?_ | intro _))
  all_goals try exact oH
  all_goals try simp only [q1, q2, q3, q4]
  iterate 2 (all_goals try cbv; all_goals repeat' (first | with_reducible exact True.intro | with_reducible refine And.intro ?_ ?_ | intro _))
  all_goals try exact oH
  first | (refine callS hA rfl (span_fs C) ?_; rintro _ rfl) | refine ⟨_, span_fs C, ?_⟩
  iterate 2 (all_goals try cbv; all_goals repeat' (first | with_reducible exact True.intro | with_reducible refine And.intro ?_ ?_ | intro _))
  all_goals try exact oH
  first | (refine callS hA rfl (span_fs C) ?_; rintro _ rfl) | refine ⟨_, span_fs C, ?_⟩
  iterate 2 (all_goals try cbv; all_goals repeat' (first | with_reducible exact True.intro | with_reducible refine And.intro ?_ ?_ | intro _))
  all_goals try exact oH
  first | (refine callS hA rfl (hop P C) ?_; rintro _ rfl) | refine ⟨_, hop P C, ?_⟩
  iterate 2 (all_goals try cbv; all_goals repeat' (first | with_reducible exact True.intro | with_reducible refine And.intro ?_ ?_ | intro _))
  all_goals try exact oH
  refine callN hA rfl (hiv P C) ?_; rintro _ _ ⟨rfl, rfl⟩; refine ⟨rfl, ?_⟩
  iterate 2 (all_goals try cbv; all_goals repeat' (first | with_reducible exact True.intro | with_reducible refine And.intro ?_ ?_ | intro _))
  all_goals try exact oH
  subst hA
  exact ⟨[4], _, _, by decide, Nat.zero_le _, rfl, rfl, rfl, rfl, rfl, rfl⟩

theorem implIvDiv_on_fn (C : Cx P gl) {l0 m0 l1 m1 : List Int} {p0 q0 p1 q1 : List PV} {s0 t0 s1 t1 : Bool} {e0 f0 e1 f1 n2 : Int} {d1 d2 : Dyadic} {u : Bool} {r : List PV} {g : Int} (hp0 : p0 = intsL l0) (hq0 : q0 = intsL m0) (hp1 : p1 = intsL l1) (hq1 : q1 = intsL m1) (ok : (ivOk s0 l0 e0 t0 m0 f0 ∧ ivOk s1 l1 e1 t1 m1 f1) ∧ (-200 ≤ n2 ∧ n2 ≤ 200) ∧ ¬(dval s1 l1 e1 ≤ 0 ∧ 0 ≤ dval t1 m1 f1)) (hd1 : d1 = divLo (dval s0 l0 e0) (dval t0 m0 f0) (dval s1 l1 e1) (dval t1 m1 f1) n2) (hd2 : d2 = divHi (dval s0 l0 e0) (dval t0 m0 f0) (dval s1 l1 e1) (dval t1 m1 f1) n2) (fit1 : fits d1) (nzz1 : d1 ≠ 0) (hr1 : r = intsL (dg (cZ d1).natAbs)) (hu1 : u = decide (cZ d1 < 0)) (hg1 : g = cE d1) (nzz2 : d2 = 0)
    (b0 : l0.length ≤ 2000000) (b1 : m0.length ≤ 2000000) (b2 : l1.length ≤ 2000000) (b3 : m1.length ≤ 2000000) :
    FN P gl 21 [.agg [B s0, .lst p0, I e0, B t0, .lst q0, I f0], .agg [B s1, .lst p1, I e1, B t1, .lst q1, I f1], I n2] (fun own rr => own = [.row 3 1 r] ∧ rr = .tup [.agg [.pv (B u), .own 0, .pv (I g), .pv (B false), .pv (.lst []), .pv (I 0)], .pv (B true)]) :=
  FN_of (implIvDiv_on_fx C hp0 hq0 hp1 hq1 ok hd1 hd2 fit1 nzz1 hr1 hu1 hg1 nzz2 b0 b1 b2 b3) (by rintro _ _ ⟨rfl, rfl⟩; exact ⟨by simpa using closed_ints hr1 _ _, rfl⟩)

set_option maxHeartbeats 2000000 in
set_option maxRecDepth 100000 in
theorem implIvDiv_no_fx (C : Cx P gl) {l0 m0 l1 m1 : List Int} {p0 q0 p1 q1 : List PV} {s0 t0 s1 t1 : Bool} {e0 f0 e1 f1 n2 : Int} {d1 d2 : Dyadic} {v : Bool} {x : List PV} {h : Int} (hp0 : p0 = intsL l0) (hq0 : q0 = intsL m0) (hp1 : p1 = intsL l1) (hq1 : q1 = intsL m1) (ok : (ivOk s0 l0 e0 t0 m0 f0 ∧ ivOk s1 l1 e1 t1 m1 f1) ∧ (-200 ≤ n2 ∧ n2 ≤ 200) ∧ ¬(dval s1 l1 e1 ≤ 0 ∧ 0 ≤ dval t1 m1 f1)) (hd1 : d1 = divLo (dval s0 l0 e0) (dval t0 m0 f0) (dval s1 l1 e1) (dval t1 m1 f1) n2) (hd2 : d2 = divHi (dval s0 l0 e0) (dval t0 m0 f0) (dval s1 l1 e1) (dval t1 m1 f1) n2) (nzz1 : d1 = 0) (fit2 : fits d2) (nzz2 : d2 ≠ 0) (hr2 : x = intsL (dg (cZ d2).natAbs)) (hu2 : v = decide (cZ d2 < 0)) (hg2 : h = cE d2)
    (b0 : l0.length ≤ 2000000) (b1 : m0.length ≤ 2000000) (b2 : l1.length ≤ 2000000) (b3 : m1.length ≤ 2000000) :
    FX P gl 21 [] [.pv (.agg [B s0, .lst p0, I e0, B t0, .lst q0, I f0]), .pv (.agg [B s1, .lst p1, I e1, B t1, .lst q1, I f1]), .pv (I n2)] (fun own rr => own = [.row 3 1 x] ∧ rr = .tup [.agg [.pv (B false), .pv (.lst []), .pv (I 0), .pv (B v), .own 0, .pv (I h)], .pv (B true)]) := by
  obtain ⟨c0, hc0⟩ := bool_of (ivOk s0 l0 e0 t0 m0 f0 ∧ ivOk s1 l1 e1 t1 m1 f1)
  have hall : c0 = true ↔ allV [((s0, l0, e0), (t0, m0, f0)), ((s1, l1, e1), (t1, m1, f1))] := by
    rw [hc0]
    constructor
    · rintro ⟨k0, k1⟩ y hy
      simp only [List.mem_cons, List.not_mem_nil, or_false] at hy
      rcases hy with rfl | rfl
      · exact k0
      · exact k1
    · intro h; exact ⟨h ((s0, l0, e0), (t0, m0, f0)) (by simp), h ((s1, l1, e1), (t1, m1, f1)) (by simp)⟩
  have hyy : ∀ y ∈ [((s0, l0, e0), (t0, m0, f0)), ((s1, l1, e1), (t1, m1, f1))], y.1.2.1.length ≤ 2000000 ∧ y.2.2.1.length ≤ 2000000 := by
    intro y hy
    simp only [List.mem_cons, List.not_mem_nil, or_false] at hy
    rcases hy with rfl | rfl
    · exact ⟨b0, b1⟩
    · exact ⟨b2, b3⟩
  have hcl : [PV.agg [B s0, .lst p0, I e0, B t0, .lst q0, I f0], .agg [B s1, .lst p1, I e1, B t1, .lst q1, I f1]] = cells6 [((s0, l0, e0), (t0, m0, f0)), ((s1, l1, e1), (t1, m1, f1))] := by rw [hp0, hq0, hp1, hq1]; rfl
  have hare := fun (P' : Program) (C' : Cx P' gl) => areIvs_fs C' hcl hall (by simp) hyy
  obtain ⟨lb, hlb⟩ : ∃ lb, lb = (decide (-200 ≤ n2) && decide (n2 ≤ 200)) := ⟨_, rfl⟩
  have lo := fun (P' : Program) (C' : Cx P' gl) => isFine_fs C' hlb
  obtain ⟨hb, hhb⟩ := bool_of (dval s1 l1 e1 ≤ 0 ∧ 0 ≤ dval t1 m1 f1)
  have has0 : c0 = true → ∀ P', Cx P' gl → FS P' gl 60 [.agg [B s1, .lst p1, I e1, B t1, .lst q1, I f1], .agg [B false, .lst [], I 0]] (· = B hb) := by
    intro k P' C'
    obtain ⟨c3, c4, g3, g4, z7, z8, z9, z10, z11, z12, f3', f4'⟩ := ivOk_can hp1 hq1 (hc0.1 k).2
    rw [g3, g4] at hhb
    exact spanHas0_fs C' z7 z8 z9 z10 z11 z12 f3' f4' (by rw [Bool.eq_iff_iff, hhb, Bool.and_eq_true, decide_eq_true_eq, decide_eq_true_eq])
  obtain ⟨⟨ok0, ok1⟩, ok2, ok3⟩ := ok
  obtain rfl : c0 = true := hc0.2 ⟨ok0, ok1⟩
  obtain rfl : lb = true := by rw [hlb, decide_eq_true ok2.1, decide_eq_true ok2.2]; rfl
  obtain rfl : hb = false := by
    cases hbc : hb with
    | false => rfl
    | true => exact absurd (hhb.1 hbc) ok3
  have has1 := has0 rfl
  clear has0 hhb
  obtain ⟨c1, c2, g1, g2, z1, z2, z3, z4, z5, z6, f1', f2'⟩ := ivOk_can hp0 hq0 ok0
  obtain ⟨c3, c4, g3, g4, z7, z8, z9, z10, z11, z12, f3', f4'⟩ := ivOk_can hp1 hq1 ok1
  have hle := ok1.2.2
  rw [g1, g2, g3, g4] at hd1 hd2
  rw [g3, g4] at hle ok3
  obtain ⟨nz1, nz2⟩ := noZero hle ok3
  obtain ⟨y1, y2, x1, x2, k1⟩ := spanOver_ex (low := n2) f1' f2' f3' f4' nz1 nz2 (by omega)
  rw [← hd1] at x1
  rw [← hd2] at x2
  obtain ⟨w1, i1, i2, i3, i4, i5⟩ := x1
  obtain ⟨w2, j1, j2, j3, j4, j5⟩ := x2
  obtain ⟨r1, hr1'⟩ : ∃ r, r = intsL y1.2.1 := ⟨_, rfl⟩
  obtain ⟨r2, hr2'⟩ : ∃ r, r = intsL y2.2.1 := ⟨_, rfl⟩
  obtain ⟨v1, hv1'⟩ : ∃ b, b = y1.1 := ⟨_, rfl⟩
  obtain ⟨v2, hv2'⟩ : ∃ b, b = y2.1 := ⟨_, rfl⟩
  obtain ⟨g5, hg5'⟩ : ∃ b, b = y1.2.2 := ⟨_, rfl⟩
  obtain ⟨g6, hg6'⟩ : ∃ b, b = y2.2.2 := ⟨_, rfl⟩
  have hop := fun (P' : Program) (C' : Cx P' gl) => k1 P' gl p0 q0 p1 q1 r1 r2 C' z2 z5 z8 z11 hr1' hr2'
  rw [← hv1', ← hg5', ← hv2', ← hg6', show (canY c1).1 = s0 from z1.symm, show (canY c1).2.2 = e0 from z3.symm, show (canY c2).1 = t0 from z4.symm, show (canY c2).2.2 = f0 from z6.symm,
    show (canY c3).1 = s1 from z7.symm, show (canY c3).2.2 = e1 from z9.symm, show (canY c4).1 = t1 from z10.symm, show (canY c4).2.2 = f1 from z12.symm] at hop
  rw [i2] at hr1'
  rw [j2] at hr2'
  rw [i1] at hv1'
  rw [j1] at hv2'
  rw [← hg5'] at i3 i5
  rw [← hg6'] at j3 j5
  have hw1 : d1 = 0 ↔ w1 = 0 := by rw [i3, ← mk_zero g5, mk_inj]
  have hw2 : d2 = 0 ↔ w2 = 0 := by rw [j3, ← mk_zero g6, mk_inj]
  have hiv := fun (P' : Program) (C' : Cx P' gl) => spanIv_no_fn C' hr1' hv1' hr2' hv2' i3 j3 (by omega) (by omega) (by omega) (by omega) (hw1.1 nzz1) fit2 (fun h => nzz2 (hw2.2 h)) hr2 hu2 hg2
  clear hr1' hr2' hv1' hv2' hw1 hw2 hd1 hd2 ok0 ok1 ok3 hle i1 i2 i3 i4 i5 j1 j2 j3 j4 j5 k1 nzz1 hr2 hu2 hg2 nzz2 g1 g2 g3 g4 z1 z2 z3 z4 z5 z6 z7 z8 z9 z10 z11 z12 hp0 hq0 hp1 hq1 hg5' hg6' hc0 hlb hall hyy hcl nz1 nz2 f1' f2' f3' f4'
  obtain ⟨rfl, hG⟩ := C
  refine FX_ofC (own := fun A => []) (args := fun A => [.pv (.agg [B s0, .lst p0, I e0, B t0, .lst q0, I f0]), .pv (.agg [B s1, .lst p1, I e1, B t1, .lst q1, I f1]), .pv (I n2)]) (R := fun A ow rr => ow = [.row 3 1 x] ∧ rr = .tup [.agg [.pv (B false), .pv (.lst []), .pv (I 0), .pv (B v), .own 0, .pv (I h)], .pv (B true)]) Tryz.hT Tryz.mix Tryz.func21 rfl rfl (Nat.le_of_ble_eq_true rfl) ?_
  generalize hP : Tryz.prog = P
  intro A hA
  have C : Tryz.Cx P gl := ⟨hP.symm, hG⟩
  have hI : intsL = A.ints := by subst hA; rfl
  have q1 : A.bnot true = false := by subst hA; rfl
  have q2 : A.bnot false = true := by subst hA; rfl
  have q3 : ∀ x, A.pick false true x = x := fun x => by subst hA; cases x <;> rfl
  have q4 : ∀ x, A.pick true true x = true := fun x => by subst hA; cases x <;> rfl
  iterate 2 (all_goals try cbv; all_goals repeat' (first | with_reducible exact True.intro | with_reducible refine And.intro ?_ ?_ | intro _))
  all_goals try exact oH
  all_goals try (refine okA_of hA ?_; intro y hy; simp only [List.mem_cons, List.not_mem_nil, or_false] at hy; rcases hy with rfl | rfl <;> exact ⟨rfl, rfl⟩)
  refine callS hA rfl (hare P C) ?_; rintro _ rfl
  iterate 2 (all_goals try cbv; all_goals repeat' (first | with_reducible exact True.intro | with_reducible refine And.intro ?_ ?_ | intro _))
  all_goals try exact oH
  all_goals try simp only [q1, q2, q3, q4]
  refine ⟨_, fun _ => lo P C, ?_⟩
  iterate 2 (all_goals try cbv; all_goals repeat' (first | with_reducible exact True.intro | with_reducible refine And.intro ?_ ?_ | intro _))
  all_goals try exact oH
  all_goals try simp only [q1, q2, q3, q4]
  refine ⟨_, fun _ => span_fs C, ?_⟩
  iterate 2 (all_goals try cbv; all_goals repeat' (first | with_reducible exact True.intro | with_reducible refine And.intro ?_ ?_ | intro _))
  all_goals try exact oH
  all_goals try simp only [q1, q2, q3, q4]
  refine ⟨_, fun _ => has1 P C, ?_⟩
  iterate 2 (all_goals try cbv; all_goals repeat' (first | with_reducible exact True.intro | with_reducible refine And.intro ?_ ?_ | intro _))
  all_goals try exact oH
  all_goals try simp only [q1, q2, q3, q4]
  iterate 2 (all_goals try cbv; all_goals repeat' (first | with_reducible exact True.intro | with_reducible refine And.intro ?_ ?_ | intro _))
  all_goals try exact oH
  first | (refine callS hA rfl (span_fs C) ?_; rintro _ rfl) | refine ⟨_, span_fs C, ?_⟩
  iterate 2 (all_goals try cbv; all_goals repeat' (first | with_reducible exact True.intro | with_reducible refine And.intro ?_ ?_ | intro _))
  all_goals try exact oH
  first | (refine callS hA rfl (span_fs C) ?_; rintro _ rfl) | refine ⟨_, span_fs C, ?_⟩
  iterate 2 (all_goals try cbv; all_goals repeat' (first | with_reducible exact True.intro | with_reducible refine And.intro ?_ ?_ | intro _))
  all_goals try exact oH
  first | (refine callS hA rfl (hop P C) ?_; rintro _ rfl) | refine ⟨_, hop P C, ?_⟩
  iterate 2 (all_goals try cbv; all_goals repeat' (first | with_reducible exact True.intro | with_reducible refine And.intro ?_ ?_ | intro _))
  all_goals try exact oH
  refine callN hA rfl (hiv P C) ?_; rintro _ _ ⟨rfl, rfl⟩; refine ⟨rfl, ?_⟩
  iterate 2 (all_goals try cbv; all_goals repeat' (first | with_reducible exact True.intro | with_reducible refine And.intro ?_ ?_ | intro _))
  all_goals try exact oH
  subst hA
  exact ⟨[4], _, _, by decide, Nat.zero_le _, rfl, rfl, rfl, rfl, rfl, rfl⟩

theorem implIvDiv_no_fn (C : Cx P gl) {l0 m0 l1 m1 : List Int} {p0 q0 p1 q1 : List PV} {s0 t0 s1 t1 : Bool} {e0 f0 e1 f1 n2 : Int} {d1 d2 : Dyadic} {v : Bool} {x : List PV} {h : Int} (hp0 : p0 = intsL l0) (hq0 : q0 = intsL m0) (hp1 : p1 = intsL l1) (hq1 : q1 = intsL m1) (ok : (ivOk s0 l0 e0 t0 m0 f0 ∧ ivOk s1 l1 e1 t1 m1 f1) ∧ (-200 ≤ n2 ∧ n2 ≤ 200) ∧ ¬(dval s1 l1 e1 ≤ 0 ∧ 0 ≤ dval t1 m1 f1)) (hd1 : d1 = divLo (dval s0 l0 e0) (dval t0 m0 f0) (dval s1 l1 e1) (dval t1 m1 f1) n2) (hd2 : d2 = divHi (dval s0 l0 e0) (dval t0 m0 f0) (dval s1 l1 e1) (dval t1 m1 f1) n2) (nzz1 : d1 = 0) (fit2 : fits d2) (nzz2 : d2 ≠ 0) (hr2 : x = intsL (dg (cZ d2).natAbs)) (hu2 : v = decide (cZ d2 < 0)) (hg2 : h = cE d2)
    (b0 : l0.length ≤ 2000000) (b1 : m0.length ≤ 2000000) (b2 : l1.length ≤ 2000000) (b3 : m1.length ≤ 2000000) :
    FN P gl 21 [.agg [B s0, .lst p0, I e0, B t0, .lst q0, I f0], .agg [B s1, .lst p1, I e1, B t1, .lst q1, I f1], I n2] (fun own rr => own = [.row 3 1 x] ∧ rr = .tup [.agg [.pv (B false), .pv (.lst []), .pv (I 0), .pv (B v), .own 0, .pv (I h)], .pv (B true)]) :=
  FN_of (implIvDiv_no_fx C hp0 hq0 hp1 hq1 ok hd1 hd2 nzz1 fit2 nzz2 hr2 hu2 hg2 b0 b1 b2 b3) (by rintro _ _ ⟨rfl, rfl⟩; exact ⟨by simpa using closed_ints hr2 _ _, rfl⟩)

set_option maxHeartbeats 2000000 in
set_option maxRecDepth 100000 in
theorem implIvDiv_nn_fs (C : Cx P gl) {l0 m0 l1 m1 : List Int} {p0 q0 p1 q1 : List PV} {s0 t0 s1 t1 : Bool} {e0 f0 e1 f1 n2 : Int} {d1 d2 : Dyadic} (hp0 : p0 = intsL l0) (hq0 : q0 = intsL m0) (hp1 : p1 = intsL l1) (hq1 : q1 = intsL m1) (ok : (ivOk s0 l0 e0 t0 m0 f0 ∧ ivOk s1 l1 e1 t1 m1 f1) ∧ (-200 ≤ n2 ∧ n2 ≤ 200) ∧ ¬(dval s1 l1 e1 ≤ 0 ∧ 0 ≤ dval t1 m1 f1)) (hd1 : d1 = divLo (dval s0 l0 e0) (dval t0 m0 f0) (dval s1 l1 e1) (dval t1 m1 f1) n2) (hd2 : d2 = divHi (dval s0 l0 e0) (dval t0 m0 f0) (dval s1 l1 e1) (dval t1 m1 f1) n2) (nzz1 : d1 = 0) (nzz2 : d2 = 0)
    (b0 : l0.length ≤ 2000000) (b1 : m0.length ≤ 2000000) (b2 : l1.length ≤ 2000000) (b3 : m1.length ≤ 2000000) :
    FS P gl 21 [.agg [B s0, .lst p0, I e0, B t0, .lst q0, I f0], .agg [B s1, .lst p1, I e1, B t1, .lst q1, I f1], I n2] (· = .tup [.agg [B false, .lst [], I 0, B false, .lst [], I 0], B true]) := by
  obtain ⟨c0, hc0⟩ := bool_of (ivOk s0 l0 e0 t0 m0 f0 ∧ ivOk s1 l1 e1 t1 m1 f1)
  have hall : c0 = true ↔ allV [((s0, l0, e0), (t0, m0, f0)), ((s1, l1, e1), (t1, m1, f1))] := by
    rw [hc0]
    constructor
    · rintro ⟨k0, k1⟩ y hy
      simp only [List.mem_cons, List.not_mem_nil, or_false] at hy
      rcases hy with rfl | rfl
      · exact k0
      · exact k1
    · intro h; exact ⟨h ((s0, l0, e0), (t0, m0, f0)) (by simp), h ((s1, l1, e1), (t1, m1, f1)) (by simp)⟩
  have hyy : ∀ y ∈ [((s0, l0, e0), (t0, m0, f0)), ((s1, l1, e1), (t1, m1, f1))], y.1.2.1.length ≤ 2000000 ∧ y.2.2.1.length ≤ 2000000 := by
    intro y hy
    simp only [List.mem_cons, List.not_mem_nil, or_false] at hy
    rcases hy with rfl | rfl
    · exact ⟨b0, b1⟩
    · exact ⟨b2, b3⟩
  have hcl : [PV.agg [B s0, .lst p0, I e0, B t0, .lst q0, I f0], .agg [B s1, .lst p1, I e1, B t1, .lst q1, I f1]] = cells6 [((s0, l0, e0), (t0, m0, f0)), ((s1, l1, e1), (t1, m1, f1))] := by rw [hp0, hq0, hp1, hq1]; rfl
  have hare := fun (P' : Program) (C' : Cx P' gl) => areIvs_fs C' hcl hall (by simp) hyy
  obtain ⟨lb, hlb⟩ : ∃ lb, lb = (decide (-200 ≤ n2) && decide (n2 ≤ 200)) := ⟨_, rfl⟩
  have lo := fun (P' : Program) (C' : Cx P' gl) => isFine_fs C' hlb
  obtain ⟨hb, hhb⟩ := bool_of (dval s1 l1 e1 ≤ 0 ∧ 0 ≤ dval t1 m1 f1)
  have has0 : c0 = true → ∀ P', Cx P' gl → FS P' gl 60 [.agg [B s1, .lst p1, I e1, B t1, .lst q1, I f1], .agg [B false, .lst [], I 0]] (· = B hb) := by
    intro k P' C'
    obtain ⟨c3, c4, g3, g4, z7, z8, z9, z10, z11, z12, f3', f4'⟩ := ivOk_can hp1 hq1 (hc0.1 k).2
    rw [g3, g4] at hhb
    exact spanHas0_fs C' z7 z8 z9 z10 z11 z12 f3' f4' (by rw [Bool.eq_iff_iff, hhb, Bool.and_eq_true, decide_eq_true_eq, decide_eq_true_eq])
  obtain ⟨⟨ok0, ok1⟩, ok2, ok3⟩ := ok
  obtain rfl : c0 = true := hc0.2 ⟨ok0, ok1⟩
  obtain rfl : lb = true := by rw [hlb, decide_eq_true ok2.1, decide_eq_true ok2.2]; rfl
  obtain rfl : hb = false := by
    cases hbc : hb with
    | false => rfl
    | true => exact absurd (hhb.1 hbc) ok3
  have has1 := has0 rfl
  clear has0 hhb
  obtain ⟨c1, c2, g1, g2, z1, z2, z3, z4, z5, z6, f1', f2'⟩ := ivOk_can hp0 hq0 ok0
  obtain ⟨c3, c4, g3, g4, z7, z8, z9, z10, z11, z12, f3', f4'⟩ := ivOk_can hp1 hq1 ok1
  have hle := ok1.2.2
  rw [g1, g2, g3, g4] at hd1 hd2
  rw [g3, g4] at hle ok3
  obtain ⟨nz1, nz2⟩ := noZero hle ok3
  obtain ⟨y1, y2, x1, x2, k1⟩ := spanOver_ex (low := n2) f1' f2' f3' f4' nz1 nz2 (by omega)
  rw [← hd1] at x1
  rw [← hd2] at x2
  obtain ⟨w1, i1, i2, i3, i4, i5⟩ := x1
  obtain ⟨w2, j1, j2, j3, j4, j5⟩ := x2
  obtain ⟨r1, hr1'⟩ : ∃ r, r = intsL y1.2.1 := ⟨_, rfl⟩
  obtain ⟨r2, hr2'⟩ : ∃ r, r = intsL y2.2.1 := ⟨_, rfl⟩
  obtain ⟨v1, hv1'⟩ : ∃ b, b = y1.1 := ⟨_, rfl⟩
  obtain ⟨v2, hv2'⟩ : ∃ b, b = y2.1 := ⟨_, rfl⟩
  obtain ⟨g5, hg5'⟩ : ∃ b, b = y1.2.2 := ⟨_, rfl⟩
  obtain ⟨g6, hg6'⟩ : ∃ b, b = y2.2.2 := ⟨_, rfl⟩
  have hop := fun (P' : Program) (C' : Cx P' gl) => k1 P' gl p0 q0 p1 q1 r1 r2 C' z2 z5 z8 z11 hr1' hr2'
  rw [← hv1', ← hg5', ← hv2', ← hg6', show (canY c1).1 = s0 from z1.symm, show (canY c1).2.2 = e0 from z3.symm, show (canY c2).1 = t0 from z4.symm, show (canY c2).2.2 = f0 from z6.symm,
    show (canY c3).1 = s1 from z7.symm, show (canY c3).2.2 = e1 from z9.symm, show (canY c4).1 = t1 from z10.symm, show (canY c4).2.2 = f1 from z12.symm] at hop
  rw [i2] at hr1'
  rw [j2] at hr2'
  rw [i1] at hv1'
  rw [j1] at hv2'
  rw [← hg5'] at i3 i5
  rw [← hg6'] at j3 j5
  have hw1 : d1 = 0 ↔ w1 = 0 := by rw [i3, ← mk_zero g5, mk_inj]
  have hw2 : d2 = 0 ↔ w2 = 0 := by rw [j3, ← mk_zero g6, mk_inj]
  have y1' : r1 = [] := by rw [hr1', hw1.1 nzz1, show Int.natAbs 0 = 0 from rfl, dg_zero]; rfl
  have y2' : r2 = [] := by rw [hr2', hw2.1 nzz2, show Int.natAbs 0 = 0 from rfl, dg_zero]; rfl
  rw [y1', y2'] at hop
  have hiv := fun (P' : Program) (C' : Cx P' gl) => @spanIv_nn_fs P' gl C' g5 g6 v1 v2
  clear hr1' hr2' hv1' hv2' hw1 hw2 hd1 hd2 ok0 ok1 ok3 hle i1 i2 i3 i4 i5 j1 j2 j3 j4 j5 k1 nzz1 nzz2 g1 g2 g3 g4 z1 z2 z3 z4 z5 z6 z7 z8 z9 z10 z11 z12 hp0 hq0 hp1 hq1 hg5' hg6' hc0 hlb hall hyy hcl nz1 nz2 f1' f2' f3' f4'
  obtain ⟨rfl, hG⟩ := C
  refine FS_ofC (args := fun A => [.agg [B s0, .lst p0, I e0, B t0, .lst q0, I f0], .agg [B s1, .lst p1, I e1, B t1, .lst q1, I f1], I n2]) (R := fun A rr => rr = .tup [.agg [B false, .lst [], I 0, B false, .lst [], I 0], B true]) Tryz.hT Tryz.mix Tryz.func21 rfl rfl (Nat.le_of_ble_eq_true rfl) ?_
  generalize hP : Tryz.prog = P
  intro A hA
  have C : Tryz.Cx P gl := ⟨hP.symm, hG⟩
  have hI : intsL = A.ints := by subst hA; rfl
  have q1 : A.bnot true = false := by subst hA; rfl
  have q2 : A.bnot false = true := by subst hA; rfl
  have q3 : ∀ x, A.pick false true x = x := fun x => by subst hA; cases x <;> rfl
  have q4 : ∀ x, A.pick true true x = true := fun x => by subst hA; cases x <;> rfl
  iterate 2 (all_goals try cbv; all_goals repeat' (first | with_reducible exact True.intro | with_reducible refine And.intro ?_ ?_ | intro _))
  all_goals try exact oH
  all_goals try (refine okA_of hA ?_; intro y hy; simp only [List.mem_cons, List.not_mem_nil, or_false] at hy; rcases hy with rfl | rfl <;> exact ⟨rfl, rfl⟩)
  refine callS hA rfl (hare P C) ?_; rintro _ rfl
  iterate 2 (all_goals try cbv; all_goals repeat' (first | with_reducible exact True.intro | with_reducible refine And.intro ?_ ?_ | intro _))
  all_goals try exact oH
  all_goals try simp only [q1, q2, q3, q4]
  refine ⟨_, fun _ => lo P C, ?_⟩
  iterate 2 (all_goals try cbv; all_goals repeat' (first | with_reducible exact True.intro | with_reducible refine And.intro ?_ ?_ | intro _))
  all_goals try exact oH
  all_goals try simp only [q1, q2, q3, q4]
  refine ⟨_, fun _ => span_fs C, ?_⟩
  iterate 2 (all_goals try cbv; all_goals repeat' (first | with_reducible exact True.intro | with_reducible refine And.intro ?_ ?_ | intro _))
  all_goals try exact oH
  all_goals try simp only [q1, q2, q3, q4]
  refine ⟨_, fun _ => has1 P C, ?_⟩
  iterate 2 (all_goals try cbv; all_goals repeat' (first | with_reducible exact True.intro | with_reducible refine And.intro ?_ ?_ | intro _))
  all_goals try exact oH
  all_goals try simp only [q1, q2, q3, q4]
  iterate 2 (all_goals try cbv; all_goals repeat' (first | with_reducible exact True.intro | with_reducible refine And.intro ?_ ?_ | intro _))
  all_goals try exact oH
  first | (refine callS hA rfl (span_fs C) ?_; rintro _ rfl) | refine ⟨_, span_fs C, ?_⟩
  iterate 2 (all_goals try cbv; all_goals repeat' (first | with_reducible exact True.intro | with_reducible refine And.intro ?_ ?_ | intro _))
  all_goals try exact oH
  first | (refine callS hA rfl (span_fs C) ?_; rintro _ rfl) | refine ⟨_, span_fs C, ?_⟩
  iterate 2 (all_goals try cbv; all_goals repeat' (first | with_reducible exact True.intro | with_reducible refine And.intro ?_ ?_ | intro _))
  all_goals try exact oH
  first | (refine callS hA rfl (hop P C) ?_; rintro _ rfl) | refine ⟨_, hop P C, ?_⟩
  iterate 2 (all_goals try cbv; all_goals repeat' (first | with_reducible exact True.intro | with_reducible refine And.intro ?_ ?_ | intro _))
  all_goals try exact oH
  refine callS hA rfl (hiv P C) ?_; rintro _ rfl
  iterate 2 (all_goals try cbv; all_goals repeat' (first | with_reducible exact True.intro | with_reducible refine And.intro ?_ ?_ | intro _))
  all_goals try exact oH

set_option maxHeartbeats 2000000 in
set_option maxRecDepth 100000 in
theorem implIvDiv_X_fs (C : Cx P gl) {l0 m0 l1 m1 : List Int} {p0 q0 p1 q1 : List PV} {s0 t0 s1 t1 : Bool} {e0 f0 e1 f1 n2 : Int} {d1 d2 : Dyadic} (hp0 : p0 = intsL l0) (hq0 : q0 = intsL m0) (hp1 : p1 = intsL l1) (hq1 : q1 = intsL m1) (ok : (ivOk s0 l0 e0 t0 m0 f0 ∧ ivOk s1 l1 e1 t1 m1 f1) ∧ (-200 ≤ n2 ∧ n2 ≤ 200) ∧ ¬(dval s1 l1 e1 ≤ 0 ∧ 0 ≤ dval t1 m1 f1)) (hd1 : d1 = divLo (dval s0 l0 e0) (dval t0 m0 f0) (dval s1 l1 e1) (dval t1 m1 f1) n2) (hd2 : d2 = divHi (dval s0 l0 e0) (dval t0 m0 f0) (dval s1 l1 e1) (dval t1 m1 f1) n2) (hX : ¬(fits d1 ∧ fits d2))
    (b0 : l0.length ≤ 2000000) (b1 : m0.length ≤ 2000000) (b2 : l1.length ≤ 2000000) (b3 : m1.length ≤ 2000000) :
    FS P gl 21 [.agg [B s0, .lst p0, I e0, B t0, .lst q0, I f0], .agg [B s1, .lst p1, I e1, B t1, .lst q1, I f1], I n2] (· = .tup [.agg [B false, .lst [], I 0, B false, .lst [], I 0], B false]) := by
  obtain ⟨c0, hc0⟩ := bool_of (ivOk s0 l0 e0 t0 m0 f0 ∧ ivOk s1 l1 e1 t1 m1 f1)
  have hall : c0 = true ↔ allV [((s0, l0, e0), (t0, m0, f0)), ((s1, l1, e1), (t1, m1, f1))] := by
    rw [hc0]
    constructor
    · rintro ⟨k0, k1⟩ y hy
      simp only [List.mem_cons, List.not_mem_nil, or_false] at hy
      rcases hy with rfl | rfl
      · exact k0
      · exact k1
    · intro h; exact ⟨h ((s0, l0, e0), (t0, m0, f0)) (by simp), h ((s1, l1, e1), (t1, m1, f1)) (by simp)⟩
  have hyy : ∀ y ∈ [((s0, l0, e0), (t0, m0, f0)), ((s1, l1, e1), (t1, m1, f1))], y.1.2.1.length ≤ 2000000 ∧ y.2.2.1.length ≤ 2000000 := by
    intro y hy
    simp only [List.mem_cons, List.not_mem_nil, or_false] at hy
    rcases hy with rfl | rfl
    · exact ⟨b0, b1⟩
    · exact ⟨b2, b3⟩
  have hcl : [PV.agg [B s0, .lst p0, I e0, B t0, .lst q0, I f0], .agg [B s1, .lst p1, I e1, B t1, .lst q1, I f1]] = cells6 [((s0, l0, e0), (t0, m0, f0)), ((s1, l1, e1), (t1, m1, f1))] := by rw [hp0, hq0, hp1, hq1]; rfl
  have hare := fun (P' : Program) (C' : Cx P' gl) => areIvs_fs C' hcl hall (by simp) hyy
  obtain ⟨lb, hlb⟩ : ∃ lb, lb = (decide (-200 ≤ n2) && decide (n2 ≤ 200)) := ⟨_, rfl⟩
  have lo := fun (P' : Program) (C' : Cx P' gl) => isFine_fs C' hlb
  obtain ⟨hb, hhb⟩ := bool_of (dval s1 l1 e1 ≤ 0 ∧ 0 ≤ dval t1 m1 f1)
  have has0 : c0 = true → ∀ P', Cx P' gl → FS P' gl 60 [.agg [B s1, .lst p1, I e1, B t1, .lst q1, I f1], .agg [B false, .lst [], I 0]] (· = B hb) := by
    intro k P' C'
    obtain ⟨c3, c4, g3, g4, z7, z8, z9, z10, z11, z12, f3', f4'⟩ := ivOk_can hp1 hq1 (hc0.1 k).2
    rw [g3, g4] at hhb
    exact spanHas0_fs C' z7 z8 z9 z10 z11 z12 f3' f4' (by rw [Bool.eq_iff_iff, hhb, Bool.and_eq_true, decide_eq_true_eq, decide_eq_true_eq])
  obtain ⟨⟨ok0, ok1⟩, ok2, ok3⟩ := ok
  obtain rfl : c0 = true := hc0.2 ⟨ok0, ok1⟩
  obtain rfl : lb = true := by rw [hlb, decide_eq_true ok2.1, decide_eq_true ok2.2]; rfl
  obtain rfl : hb = false := by
    cases hbc : hb with
    | false => rfl
    | true => exact absurd (hhb.1 hbc) ok3
  have has1 := has0 rfl
  clear has0 hhb
  obtain ⟨c1, c2, g1, g2, z1, z2, z3, z4, z5, z6, f1', f2'⟩ := ivOk_can hp0 hq0 ok0
  obtain ⟨c3, c4, g3, g4, z7, z8, z9, z10, z11, z12, f3', f4'⟩ := ivOk_can hp1 hq1 ok1
  have hle := ok1.2.2
  rw [g1, g2, g3, g4] at hd1 hd2
  rw [g3, g4] at hle ok3
  obtain ⟨nz1, nz2⟩ := noZero hle ok3
  obtain ⟨y1, y2, x1, x2, k1⟩ := spanOver_ex (low := n2) f1' f2' f3' f4' nz1 nz2 (by omega)
  rw [← hd1] at x1
  rw [← hd2] at x2
  obtain ⟨w1, i1, i2, i3, i4, i5⟩ := x1
  obtain ⟨w2, j1, j2, j3, j4, j5⟩ := x2
  obtain ⟨r1, hr1'⟩ : ∃ r, r = intsL y1.2.1 := ⟨_, rfl⟩
  obtain ⟨r2, hr2'⟩ : ∃ r, r = intsL y2.2.1 := ⟨_, rfl⟩
  obtain ⟨v1, hv1'⟩ : ∃ b, b = y1.1 := ⟨_, rfl⟩
  obtain ⟨v2, hv2'⟩ : ∃ b, b = y2.1 := ⟨_, rfl⟩
  obtain ⟨g5, hg5'⟩ : ∃ b, b = y1.2.2 := ⟨_, rfl⟩
  obtain ⟨g6, hg6'⟩ : ∃ b, b = y2.2.2 := ⟨_, rfl⟩
  have hop := fun (P' : Program) (C' : Cx P' gl) => k1 P' gl p0 q0 p1 q1 r1 r2 C' z2 z5 z8 z11 hr1' hr2'
  rw [← hv1', ← hg5', ← hv2', ← hg6', show (canY c1).1 = s0 from z1.symm, show (canY c1).2.2 = e0 from z3.symm, show (canY c2).1 = t0 from z4.symm, show (canY c2).2.2 = f0 from z6.symm,
    show (canY c3).1 = s1 from z7.symm, show (canY c3).2.2 = e1 from z9.symm, show (canY c4).1 = t1 from z10.symm, show (canY c4).2.2 = f1 from z12.symm] at hop
  rw [i2] at hr1'
  rw [j2] at hr2'
  rw [i1] at hv1'
  rw [j1] at hv2'
  rw [← hg5'] at i3 i5
  rw [← hg6'] at j3 j5
  have hw1 : d1 = 0 ↔ w1 = 0 := by rw [i3, ← mk_zero g5, mk_inj]
  have hw2 : d2 = 0 ↔ w2 = 0 := by rw [j3, ← mk_zero g6, mk_inj]
  have hiv := fun (P' : Program) (C' : Cx P' gl) => spanIv_X_fs C' hr1' hv1' hr2' hv2' i3 j3 (by omega) (by omega) (by omega) (by omega) hX
  clear hr1' hr2' hv1' hv2' hw1 hw2 hd1 hd2 ok0 ok1 ok3 hle i1 i2 i3 i4 i5 j1 j2 j3 j4 j5 k1 hX g1 g2 g3 g4 z1 z2 z3 z4 z5 z6 z7 z8 z9 z10 z11 z12 hp0 hq0 hp1 hq1 hg5' hg6' hc0 hlb hall hyy hcl nz1 nz2 f1' f2' f3' f4'
  obtain ⟨rfl, hG⟩ := C
  refine FS_ofC (args := fun A => [.agg [B s0, .lst p0, I e0, B t0, .lst q0, I f0], .agg [B s1, .lst p1, I e1, B t1, .lst q1, I f1], I n2]) (R := fun A rr => rr = .tup [.agg [B false, .lst [], I 0, B false, .lst [], I 0], B false]) Tryz.hT Tryz.mix Tryz.func21 rfl rfl (Nat.le_of_ble_eq_true rfl) ?_
  generalize hP : Tryz.prog = P
  intro A hA
  have C : Tryz.Cx P gl := ⟨hP.symm, hG⟩
  have hI : intsL = A.ints := by subst hA; rfl
  have q1 : A.bnot true = false := by subst hA; rfl
  have q2 : A.bnot false = true := by subst hA; rfl
  have q3 : ∀ x, A.pick false true x = x := fun x => by subst hA; cases x <;> rfl
  have q4 : ∀ x, A.pick true true x = true := fun x => by subst hA; cases x <;> rfl
  iterate 2 (all_goals try cbv; all_goals repeat' (first | with_reducible exact True.intro | with_reducible refine And.intro ?_ ?_ | intro _))
  all_goals try exact oH
  all_goals try (refine okA_of hA ?_; intro y hy; simp only [List.mem_cons, List.not_mem_nil, or_false] at hy; rcases hy with rfl | rfl <;> exact ⟨rfl, rfl⟩)
  refine callS hA rfl (hare P C) ?_; rintro _ rfl
  iterate 2 (all_goals try cbv; all_goals repeat' (first | with_reducible exact True.intro | with_reducible refine And.intro ?_ ?_ | intro _))
  all_goals try exact oH
  all_goals try simp only [q1, q2, q3, q4]
  refine ⟨_, fun _ => lo P C, ?_⟩
  iterate 2 (all_goals try cbv; all_goals repeat' (first | with_reducible exact True.intro | with_reducible refine And.intro ?_ ?_ | intro _))
  all_goals try exact oH
  all_goals try simp only [q1, q2, q3, q4]
  refine ⟨_, fun _ => span_fs C, ?_⟩
  iterate 2 (all_goals try cbv; all_goals repeat' (first | with_reducible exact True.intro | with_reducible refine And.intro ?_ ?_ | intro _))
  all_goals try exact oH
  all_goals try simp only [q1, q2, q3, q4]
  refine ⟨_, fun _ => has1 P C, ?_⟩
  iterate 2 (all_goals try cbv; all_goals repeat' (first | with_reducible exact True.intro | with_reducible refine And.intro ?_ ?_ | intro _))
  all_goals try exact oH
  all_goals try simp only [q1, q2, q3, q4]
  iterate 2 (all_goals try cbv; all_goals repeat' (first | with_reducible exact True.intro | with_reducible refine And.intro ?_ ?_ | intro _))
  all_goals try exact oH
  first | (refine callS hA rfl (span_fs C) ?_; rintro _ rfl) | refine ⟨_, span_fs C, ?_⟩
  iterate 2 (all_goals try cbv; all_goals repeat' (first | with_reducible exact True.intro | with_reducible refine And.intro ?_ ?_ | intro _))
  all_goals try exact oH
  first | (refine callS hA rfl (span_fs C) ?_; rintro _ rfl) | refine ⟨_, span_fs C, ?_⟩
  iterate 2 (all_goals try cbv; all_goals repeat' (first | with_reducible exact True.intro | with_reducible refine And.intro ?_ ?_ | intro _))
  all_goals try exact oH
  first | (refine callS hA rfl (hop P C) ?_; rintro _ rfl) | refine ⟨_, hop P C, ?_⟩
  iterate 2 (all_goals try cbv; all_goals repeat' (first | with_reducible exact True.intro | with_reducible refine And.intro ?_ ?_ | intro _))
  all_goals try exact oH
  refine callS hA rfl (hiv P C) ?_; rintro _ rfl
  iterate 2 (all_goals try cbv; all_goals repeat' (first | with_reducible exact True.intro | with_reducible refine And.intro ?_ ?_ | intro _))
  all_goals try exact oH

set_option maxHeartbeats 2000000 in
set_option maxRecDepth 100000 in
theorem implIvDiv_N_fs (C : Cx P gl) {l0 m0 l1 m1 : List Int} {p0 q0 p1 q1 : List PV} {s0 t0 s1 t1 : Bool} {e0 f0 e1 f1 n2 : Int} (hp0 : p0 = intsL l0) (hq0 : q0 = intsL m0) (hp1 : p1 = intsL l1) (hq1 : q1 = intsL m1) (ok : ¬((ivOk s0 l0 e0 t0 m0 f0 ∧ ivOk s1 l1 e1 t1 m1 f1) ∧ (-200 ≤ n2 ∧ n2 ≤ 200) ∧ ¬(dval s1 l1 e1 ≤ 0 ∧ 0 ≤ dval t1 m1 f1)))
    (b0 : l0.length ≤ 2000000) (b1 : m0.length ≤ 2000000) (b2 : l1.length ≤ 2000000) (b3 : m1.length ≤ 2000000) :
    FS P gl 21 [.agg [B s0, .lst p0, I e0, B t0, .lst q0, I f0], .agg [B s1, .lst p1, I e1, B t1, .lst q1, I f1], I n2] (· = .tup [.agg [B false, .lst [], I 0, B false, .lst [], I 0], B false]) := by
  obtain ⟨c0, hc0⟩ := bool_of (ivOk s0 l0 e0 t0 m0 f0 ∧ ivOk s1 l1 e1 t1 m1 f1)
  have hall : c0 = true ↔ allV [((s0, l0, e0), (t0, m0, f0)), ((s1, l1, e1), (t1, m1, f1))] := by
    rw [hc0]
    constructor
    · rintro ⟨k0, k1⟩ y hy
      simp only [List.mem_cons, List.not_mem_nil, or_false] at hy
      rcases hy with rfl | rfl
      · exact k0
      · exact k1
    · intro h; exact ⟨h ((s0, l0, e0), (t0, m0, f0)) (by simp), h ((s1, l1, e1), (t1, m1, f1)) (by simp)⟩
  have hyy : ∀ y ∈ [((s0, l0, e0), (t0, m0, f0)), ((s1, l1, e1), (t1, m1, f1))], y.1.2.1.length ≤ 2000000 ∧ y.2.2.1.length ≤ 2000000 := by
    intro y hy
    simp only [List.mem_cons, List.not_mem_nil, or_false] at hy
    rcases hy with rfl | rfl
    · exact ⟨b0, b1⟩
    · exact ⟨b2, b3⟩
  have hcl : [PV.agg [B s0, .lst p0, I e0, B t0, .lst q0, I f0], .agg [B s1, .lst p1, I e1, B t1, .lst q1, I f1]] = cells6 [((s0, l0, e0), (t0, m0, f0)), ((s1, l1, e1), (t1, m1, f1))] := by rw [hp0, hq0, hp1, hq1]; rfl
  have hare := fun (P' : Program) (C' : Cx P' gl) => areIvs_fs C' hcl hall (by simp) hyy
  obtain ⟨lb, hlb⟩ : ∃ lb, lb = (decide (-200 ≤ n2) && decide (n2 ≤ 200)) := ⟨_, rfl⟩
  have lo := fun (P' : Program) (C' : Cx P' gl) => isFine_fs C' hlb
  obtain ⟨hb, hhb⟩ := bool_of (dval s1 l1 e1 ≤ 0 ∧ 0 ≤ dval t1 m1 f1)
  have has0 : c0 = true → ∀ P', Cx P' gl → FS P' gl 60 [.agg [B s1, .lst p1, I e1, B t1, .lst q1, I f1], .agg [B false, .lst [], I 0]] (· = B hb) := by
    intro k P' C'
    obtain ⟨c3, c4, g3, g4, z7, z8, z9, z10, z11, z12, f3', f4'⟩ := ivOk_can hp1 hq1 (hc0.1 k).2
    rw [g3, g4] at hhb
    exact spanHas0_fs C' z7 z8 z9 z10 z11 z12 f3' f4' (by rw [Bool.eq_iff_iff, hhb, Bool.and_eq_true, decide_eq_true_eq, decide_eq_true_eq])
  have hno : c0 = true → lb = true → hb = false → False := by
    intro h1 h2 h3
    rw [hlb, Bool.and_eq_true, decide_eq_true_eq, decide_eq_true_eq] at h2
    exact ok ⟨hc0.1 h1, h2, fun h => by rw [hhb.2 h] at h3; cases h3⟩
  clear ok hc0 hlb hhb hp0 hq0 hp1 hq1 hall hyy hcl
  obtain ⟨rfl, hG⟩ := C
  refine FS_ofC (args := fun A => [.agg [B s0, .lst p0, I e0, B t0, .lst q0, I f0], .agg [B s1, .lst p1, I e1, B t1, .lst q1, I f1], I n2]) (R := fun A rr => rr = .tup [.agg [B false, .lst [], I 0, B false, .lst [], I 0], B false]) Tryz.hT Tryz.mix Tryz.func21 rfl rfl (Nat.le_of_ble_eq_true rfl) ?_
  generalize hP : Tryz.prog = P
  intro A hA
  have C : Tryz.Cx P gl := ⟨hP.symm, hG⟩
  have hI : intsL = A.ints := by subst hA; rfl
  have q1 : A.bnot true = false := by subst hA; rfl
  have q2 : A.bnot false = true := by subst hA; rfl
  have q3 : ∀ x, A.pick false true x = x := fun x => by subst hA; cases x <;> rfl
  have q4 : ∀ x, A.pick true true x = true := fun x => by subst hA; cases x <;> rfl
  iterate 2 (all_goals try cbv; all_goals repeat' (first | with_reducible exact True.intro | with_reducible refine And.intro ?_ ?_ | intro _))
  all_goals try exact oH
  all_goals try (refine okA_of hA ?_; intro y hy; simp only [List.mem_cons, List.not_mem_nil, or_false] at hy; rcases hy with rfl | rfl <;> exact ⟨rfl, rfl⟩)
  refine callS hA rfl (hare P C) ?_; rintro _ rfl
  iterate 2 (all_goals try cbv; all_goals repeat' (first | with_reducible exact True.intro | with_reducible refine And.intro ?_ ?_ | intro _))
  all_goals try exact oH
  refine ⟨_, fun _ => lo P C, ?_⟩
  iterate 2 (all_goals try cbv; all_goals repeat' (first | with_reducible exact True.intro | with_reducible refine And.intro ?_ ?_ | intro _))
  all_goals try exact oH
  refine ⟨_, fun _ => span_fs C, ?_⟩
  iterate 2 (all_goals try cbv; all_goals repeat' (first | with_reducible exact True.intro | with_reducible refine And.intro ?_ ?_ | intro _))
  all_goals try exact oH
  refine ⟨B hb, fun gg => ?_, ?_⟩
  · refine has0 ?_ P C
    clear hare lo has0 hno hI q1 q2 q3 q4
    subst hA
    revert gg
    cases c0 <;> cases lb <;> first | (intro _; rfl) | (intro gg; exact absurd gg (by decide))
  iterate 2 (all_goals try cbv; all_goals repeat' (first | with_reducible exact True.intro | with_reducible refine And.intro ?_ ?_ | intro _))
  all_goals try exact oH
  · rename_i gg
    exfalso
    clear hare lo has0 hI q1 q2 q3 q4
    subst hA
    revert gg hno
    cases c0 <;> cases lb <;> cases hb <;> intro hno gg <;> first | exact hno rfl rfl rfl | exact absurd gg (by decide)

end Tryz
end Go.Proofs
