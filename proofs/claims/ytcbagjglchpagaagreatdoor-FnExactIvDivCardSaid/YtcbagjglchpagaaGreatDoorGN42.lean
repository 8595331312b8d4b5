/- Contracts: quotients of intervals, in the program. -/
import Derived.Test.YtcbagjglchpagaaGreatDoorGN41
import Derived.Test.YtcbagjglchpagaaGreatDoorGD6
namespace Go.Proofs
open Go Go.Pe Go.Dg
namespace Tryz
set_option linter.unusedSimpArgs false
set_option linter.unusedVariables false
variable {P : Program} {gl : List (Nat × Obj)}

/-- a quotient of two numbers in canonical form, rounded -/
theorem xOver {a b : Dyadic} {low m : Int} (fa : fits a) (fb : fits b) (h0 : b ≠ 0) (hb : low.natAbs ≤ 300) :
    ∃ (y : Cell3) (ex : Bool), X (divD a b low m) 600 300 y ∧
      ∀ (P : Program) (gl : List (Nat × Obj)) (p q r : List PV), Cx P gl → p = intsL (canY a).2.1 → q = intsL (canY b).2.1 → r = intsL y.2.1 → FS P gl 115 [.agg [B (canY a).1, .lst p, I (canY a).2.2], .agg [B (canY b).1, .lst q, I (canY b).2.2], I low, I m] (· = .tup [.agg [B y.1, .lst r, I y.2.2], B ex]) := by
  obtain ⟨a1, a2, a3⟩ := fa
  obtain ⟨b1, b2, b3⟩ := fb
  obtain ⟨z, hz⟩ : ∃ z, z = zover (cZ a) (cZ b) (cE a - cE b - low) m := ⟨_, rfl⟩
  have h1 := zover_len (cZ a) (cZ b) (cE a - cE b - low) m
  rw [← hz] at h1
  refine ⟨(decide (z < 0), dg z.natAbs, low), decide ((cZ a).natAbs * 2 ^ (cE a - cE b - low).toNat % ((cZ b).natAbs * 2 ^ (-(cE a - cE b - low)).toNat) = 0), ⟨z, rfl, rfl, by rw [divD, hz], by omega, hb⟩, ?_⟩
  intro P gl p q r C hp hq hr
  exact over_fs C hp hq rfl rfl (fun h => h0 (cZ_eq_zero.1 h)) hz hr rfl rfl (by show (cE a).natAbs ≤ _; omega) (by show (cE b).natAbs ≤ _; omega) (by omega) (by omega) (by omega)

set_option maxHeartbeats 1000000 in
set_option maxRecDepth 100000 in
theorem over11_fs (C : Cx P gl) {s1 s2 s ex : Bool} {p q r : List PV} {e1 e2 g low m : Int} (h : ∀ P', Cx P' gl → FS P' gl 115 [.agg [B s1, .lst p, I e1], .agg [B s2, .lst q, I e2], I low, I m] (· = .tup [.agg [B s, .lst r, I g], B ex])) :
    FS P gl 114 [.agg [B s1, .lst p, I e1], .agg [B s2, .lst q, I e2], .ptr [I low] 0, .ptr [I m] 0] (· = .agg [B s, .lst r, I g]) := by
  obtain ⟨rfl, hG⟩ := C
  refine FS_ofT (args := fun A => [.agg [B s1, .lst p, I e1], .agg [B s2, .lst q, I e2], .ptr [I low] 0, .ptr [I m] 0]) (R := fun A rr => rr = .agg [B s, .lst r, I g]) Tryz.hT Tryz.mix Tryz.func114 rfl rfl (Nat.le_of_ble_eq_true rfl) ?_
  generalize hP : Tryz.prog = P
  intro A hA
  have C : Tryz.Cx P gl := ⟨hP.symm, hG⟩
  have hI : intsL = A.ints := by subst hA; rfl
  iterate 2 (all_goals try cbv; all_goals repeat' (first | with_reducible exact True.intro | with_reducible refine And.intro ?_ ?_ | intro _))
  all_goals try exact oG
  refine callS hA rfl (h P C) ?_; rintro _ rfl
  iterate 2 (all_goals try cbv; all_goals repeat' (first | with_reducible exact True.intro | with_reducible refine And.intro ?_ ?_ | intro _))
  all_goals try exact oG

set_option maxHeartbeats 1000000 in
set_option maxRecDepth 100000 in
theorem over1_fs (C : Cx P gl) {s1 s2 t1 t2 : Bool} {p1 p2 q1 q2 l : List PV} {e1 e2 f1 f2 low m : Int}
    (h : ∀ P', Cx P' gl → FS P' gl 113 [.agg [B s1, .lst p1, I e1, B s2, .lst p2, I e2], .agg [B t1, .lst q1, I f1, B t2, .lst q2, I f2], .fn 114 [.ptr [I low] 0, .ptr [I m] 0]] (· = .lst l)) :
    FS P gl 112 [I m, .ptr [B s1, .lst p1, I e1, B s2, .lst p2, I e2] 0, .ptr [B t1, .lst q1, I f1, B t2, .lst q2, I f2] 0, .ptr [I low] 0] (· = .lst l) := by
  obtain ⟨rfl, hG⟩ := C
  refine FS_ofT (args := fun A => [I m, .ptr [B s1, .lst p1, I e1, B s2, .lst p2, I e2] 0, .ptr [B t1, .lst q1, I f1, B t2, .lst q2, I f2] 0, .ptr [I low] 0]) (R := fun A rr => rr = .lst l) Tryz.hT Tryz.mix Tryz.func112 rfl rfl (Nat.le_of_ble_eq_true rfl) ?_
  generalize hP : Tryz.prog = P
  intro A hA
  have C : Tryz.Cx P gl := ⟨hP.symm, hG⟩
  have hI : intsL = A.ints := by subst hA; rfl
  iterate 2 (all_goals try cbv; all_goals repeat' (first | with_reducible exact True.intro | with_reducible refine And.intro ?_ ?_ | intro _))
  all_goals try exact oG
  refine callS hA rfl (h P C) ?_; rintro _ rfl
  iterate 2 (all_goals try cbv; all_goals repeat' (first | with_reducible exact True.intro | with_reducible refine And.intro ?_ ?_ | intro _))
  all_goals try exact oG

/-- the quotients of the ends, all in one direction -/
theorem over1_ex {a1 a2 b1 b2 : Dyadic} {low : Int} (m : Int) (fa1 : fits a1) (fa2 : fits a2) (fb1 : fits b1) (fb2 : fits b2) (h1 : b1 ≠ 0) (h2 : b2 ≠ 0) (hb : low.natAbs ≤ 300) :
    ∃ ys : List Cell3, ys.length = 4 ∧ XL (divE a1 a2 b1 b2 low m) 600 300 ys ∧
      ∀ (P : Program) (gl : List (Nat × Obj)) (p1 p2 q1 q2 l : List PV), Cx P gl → p1 = intsL (canY a1).2.1 → p2 = intsL (canY a2).2.1 → q1 = intsL (canY b1).2.1 → q2 = intsL (canY b2).2.1 → l = cells3 ys →
        FS P gl 112 [I m, .ptr [B (canY a1).1, .lst p1, I (canY a1).2.2, B (canY a2).1, .lst p2, I (canY a2).2.2] 0, .ptr [B (canY b1).1, .lst q1, I (canY b1).2.2, B (canY b2).1, .lst q2, I (canY b2).2.2] 0, .ptr [I low] 0] (· = .lst l) := by
  obtain ⟨y0, x0, k0, c0⟩ := xOver (low := low) (m := m) fa1 fb1 h1 hb
  obtain ⟨y1, x1, k1, c1⟩ := xOver (low := low) (m := m) fa1 fb2 h2 hb
  obtain ⟨y2, x2, k2, c2⟩ := xOver (low := low) (m := m) fa2 fb1 h1 hb
  obtain ⟨y3, x3, k3, c3⟩ := xOver (low := low) (m := m) fa2 fb2 h2 hb
  refine ⟨[y0, y1, y2, y3], rfl, ?_, ?_⟩
  · intro k hk
    have hk : k < 4 := hk
    rcases (by omega : k = 0 ∨ k = 1 ∨ k = 2 ∨ k = 3) with rfl | rfl | rfl | rfl
    · exact k0
    · exact k1
    · exact k2
    · exact k3
  · intro P gl p1 p2 q1 q2 l C hp1 hp2 hq1 hq2 hl
    rw [hl]
    exact over1_fs C (fun P' C' => ends2_fs C' (fun P2 C2 => over11_fs C2 (fun P3 C3 => c0 P3 gl _ _ _ C3 hp1 hq1 rfl)) (fun P2 C2 => over11_fs C2 (fun P3 C3 => c1 P3 gl _ _ _ C3 hp1 hq2 rfl))
      (fun P2 C2 => over11_fs C2 (fun P3 C3 => c2 P3 gl _ _ _ C3 hp2 hq1 rfl)) (fun P2 C2 => over11_fs C2 (fun P3 C3 => c3 P3 gl _ _ _ C3 hp2 hq2 rfl)))

set_option maxHeartbeats 1000000 in
set_option maxRecDepth 100000 in
theorem spanOver_fs (C : Cx P gl) {s1 s2 t1 t2 u v : Bool} {p1 p2 q1 q2 l3 l2 r x : List PV} {e1 e2 f1 f2 g h low : Int}
    (h3 : ∀ P', Cx P' gl → FS P' gl 112 [I 3, .ptr [B s1, .lst p1, I e1, B s2, .lst p2, I e2] 0, .ptr [B t1, .lst q1, I f1, B t2, .lst q2, I f2] 0, .ptr [I low] 0] (· = .lst l3))
    (h2 : ∀ P', Cx P' gl → FS P' gl 112 [I 2, .ptr [B s1, .lst p1, I e1, B s2, .lst p2, I e2] 0, .ptr [B t1, .lst q1, I f1, B t2, .lst q2, I f2] 0, .ptr [I low] 0] (· = .lst l2))
    (k3 : ∀ P', Cx P' gl → FS P' gl 116 [.lst l3] (· = .agg [B u, .lst r, I g])) (k2 : ∀ P', Cx P' gl → FS P' gl 117 [.lst l2] (· = .agg [B v, .lst x, I h])) :
    FS P gl 61 [.agg [B s1, .lst p1, I e1, B s2, .lst p2, I e2], .agg [B t1, .lst q1, I f1, B t2, .lst q2, I f2], I low] (· = .agg [B u, .lst r, I g, B v, .lst x, I h]) := by
  obtain ⟨rfl, hG⟩ := C
  refine FS_ofT (args := fun A => [.agg [B s1, .lst p1, I e1, B s2, .lst p2, I e2], .agg [B t1, .lst q1, I f1, B t2, .lst q2, I f2], I low]) (R := fun A rr => rr = .agg [B u, .lst r, I g, B v, .lst x, I h]) Tryz.hT Tryz.mix Tryz.func61 rfl rfl (Nat.le_of_ble_eq_true rfl) ?_
  generalize hP : Tryz.prog = P
  intro A hA
  have C : Tryz.Cx P gl := ⟨hP.symm, hG⟩
  have hI : intsL = A.ints := by subst hA; rfl
  iterate 2 (all_goals try cbv; all_goals repeat' (first | with_reducible exact True.intro | with_reducible refine And.intro ?_ ?_ | intro _))
  all_goals try exact oG
  refine callS hA rfl (h3 P C) ?_; rintro _ rfl
  iterate 2 (all_goals try cbv; all_goals repeat' (first | with_reducible exact True.intro | with_reducible refine And.intro ?_ ?_ | intro _))
  all_goals try exact oG
  refine callS hA rfl (k3 P C) ?_; rintro _ rfl
  iterate 2 (all_goals try cbv; all_goals repeat' (first | with_reducible exact True.intro | with_reducible refine And.intro ?_ ?_ | intro _))
  all_goals try exact oG
  refine callS hA rfl (h2 P C) ?_; rintro _ rfl
  iterate 2 (all_goals try cbv; all_goals repeat' (first | with_reducible exact True.intro | with_reducible refine And.intro ?_ ?_ | intro _))
  all_goals try exact oG
  refine callS hA rfl (k2 P C) ?_; rintro _ rfl
  iterate 2 (all_goals try cbv; all_goals repeat' (first | with_reducible exact True.intro | with_reducible refine And.intro ?_ ?_ | intro _))
  all_goals try exact oG

/-- the quotient of two intervals in form, rounded outward -/
theorem spanOver_ex {a1 a2 b1 b2 : Dyadic} {low : Int} (fa1 : fits a1) (fa2 : fits a2) (fb1 : fits b1) (fb2 : fits b2) (h1 : b1 ≠ 0) (h2 : b2 ≠ 0) (hb : low.natAbs ≤ 300) :
    ∃ y1 y2 : Cell3, X (divLo a1 a2 b1 b2 low) 600 300 y1 ∧ X (divHi a1 a2 b1 b2 low) 600 300 y2 ∧
      ∀ (P : Program) (gl : List (Nat × Obj)) (p1 p2 q1 q2 r x : List PV), Cx P gl → p1 = intsL (canY a1).2.1 → p2 = intsL (canY a2).2.1 → q1 = intsL (canY b1).2.1 → q2 = intsL (canY b2).2.1 → r = intsL y1.2.1 → x = intsL y2.2.1 →
        FS P gl 61 [.agg [B (canY a1).1, .lst p1, I (canY a1).2.2, B (canY a2).1, .lst p2, I (canY a2).2.2], .agg [B (canY b1).1, .lst q1, I (canY b1).2.2, B (canY b2).1, .lst q2, I (canY b2).2.2], I low]
          (· = .agg [B y1.1, .lst r, I y1.2.2, B y2.1, .lst x, I y2.2.2]) := by
  obtain ⟨ys, ly, xy, cy⟩ := over1_ex (low := low) 3 fa1 fa2 fb1 fb2 h1 h2 hb
  obtain ⟨zs, lz, xz, cz⟩ := over1_ex (low := low) 2 fa1 fa2 fb1 fb2 h1 h2 hb
  have m1 := amin_le (divE a1 a2 b1 b2 low 3) 3
  have m2 := amax_le (divE a1 a2 b1 b2 low 2) 3
  refine ⟨ys.getD (amin (divE a1 a2 b1 b2 low 3) 3) noY, zs.getD (amax (divE a1 a2 b1 b2 low 2) 3) noY, xy _ (by omega), xz _ (by omega), ?_⟩
  intro P gl p1 p2 q1 q2 r x C hp1 hp2 hq1 hq2 hr hx
  obtain ⟨l3, hl3⟩ : ∃ l, l = cells3 ys := ⟨_, rfl⟩
  obtain ⟨l2, hl2⟩ : ∃ l, l = cells3 zs := ⟨_, rfl⟩
  exact spanOver_fs C (fun P' C' => cy P' gl _ _ _ _ l3 C' hp1 hp2 hq1 hq2 hl3) (fun P' C' => cz P' gl _ _ _ _ l2 C' hp1 hp2 hq1 hq2 hl2)
    (fun P' C' => leastN_fs C' hl3 xy (by omega) (by omega) (by omega) (by omega) (by rw [ly]) (by rw [ly]; exact hr) (by rw [ly]))
    (fun P' C' => mostN_fs C' hl2 xz (by omega) (by omega) (by omega) (by omega) (by rw [lz]) (by rw [lz]; exact hx) (by rw [lz]))

set_option maxHeartbeats 1000000 in
set_option maxRecDepth 100000 in
/-- has an interval nought in it? -/
theorem spanHas0_fs (C : Cx P gl) {a1 a2 : Dyadic} {s t b : Bool} {e f : Int} {p q : List PV} (hs : s = decide (cZ a1 < 0)) (hp : p = intsL (dg (cZ a1).natAbs)) (he : e = cE a1) (ht : t = decide (cZ a2 < 0)) (hq : q = intsL (dg (cZ a2).natAbs)) (hf : f = cE a2)
    (f1 : fits a1) (f2 : fits a2) (hb : b = (decide (a1 ≤ 0) && decide (0 ≤ a2))) :
    FS P gl 60 [.agg [B s, .lst p, I e, B t, .lst q, I f], .agg [B false, .lst [], I 0]] (· = B b) := by
  obtain ⟨x1, x2, x3⟩ := f1
  obtain ⟨x4, x5, x6⟩ := f2
  obtain ⟨c1, hc1⟩ : ∃ c, c = cmpD a1 0 := ⟨_, rfl⟩
  obtain ⟨c2, hc2⟩ : ∃ c, c = cmpD 0 a2 := ⟨_, rfl⟩
  have z0 : ([] : List PV) = intsL (dg (0 : Int).natAbs) := by rw [show Int.natAbs 0 = 0 from rfl, dg_zero]; rfl
  have l0 : (dg (0 : Int).natAbs).length ≤ 1000000 := by rw [show Int.natAbs 0 = 0 from rfl, dg_zero]; decide
  have k1 := fun (P' : Program) (C' : Cx P' gl) => exactCompare_fs C' (c := c1) hp hs z0 (show false = decide ((0 : Int) < 0) from rfl) (e1 := e) (e2 := 0) (by rw [hc1, he, mk_canon]; rfl) (by omega) (by decide) (by omega) l0
  have k2 := fun (P' : Program) (C' : Cx P' gl) => exactCompare_fs C' (c := c2) z0 (show false = decide ((0 : Int) < 0) from rfl) hq ht (e1 := 0) (e2 := f) (by rw [hc2, hf, mk_canon]; rfl) (by decide) (by omega) l0 (by omega)
  have hbb : b = (decide (c1 ≤ 0) && decide (c2 ≤ 0)) := by rw [hb, hc1, hc2]; congr 1 <;> (rw [decide_eq_decide]; exact cmpD_le.symm)
  clear hs hp he ht hq hf hb hc1 hc2 z0 l0
  obtain ⟨rfl, hG⟩ := C
  refine FS_ofT (args := fun A => [.agg [B s, .lst p, I e, B t, .lst q, I f], .agg [B false, .lst [], I 0]]) (R := fun A rr => rr = B b) Tryz.hT Tryz.mix Tryz.func60 rfl rfl (Nat.le_of_ble_eq_true rfl) ?_
  generalize hP : Tryz.prog = P
  intro A hA
  have C : Tryz.Cx P gl := ⟨hP.symm, hG⟩
  have hI : intsL = A.ints := by subst hA; rfl
  iterate 2 (all_goals try cbv; all_goals repeat' (first | with_reducible exact True.intro | with_reducible refine And.intro ?_ ?_ | intro _))
  all_goals try exact oG
  refine callS hA rfl (k1 P C) ?_; rintro _ rfl
  iterate 2 (all_goals try cbv; all_goals repeat' (first | with_reducible exact True.intro | with_reducible refine And.intro ?_ ?_ | intro _))
  all_goals try exact oG
  refine ⟨_, fun _ => k2 P C, ?_⟩
  iterate 2 (all_goals try cbv; all_goals repeat' (first | with_reducible exact True.intro | with_reducible refine And.intro ?_ ?_ | intro _))
  all_goals try exact oG
  have e1 : A.pick (A.le c1 0) (A.le c2 0) false = b := by
    rw [hbb]; subst hA
    show (bif decide (c1 ≤ 0) then decide (c2 ≤ 0) else false) = _
    cases decide (c1 ≤ 0) <;> rfl
  simp only [e1]

end Tryz
end Go.Proofs
