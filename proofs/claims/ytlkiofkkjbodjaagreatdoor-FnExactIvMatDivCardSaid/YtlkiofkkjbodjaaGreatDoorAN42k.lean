/- Contracts: quotients of intervals, in the program. -/
import Derived.Test.YtlkiofkkjbodjaaGreatDoorAN41
import Derived.Test.YtlkiofkkjbodjaaGreatDoorAD6
import Derived.Test.YtlkiofkkjbodjaaGreatDoorAPeFl
set_option maxHeartbeats 1000000
set_option maxRecDepth 100000
namespace Go.Proofs
open Go Go.Pe Go.Dg
namespace Tryz
set_option linter.unusedSimpArgs false
set_option linter.unusedVariables false
variable {P : Program} {gl : List (Nat × Obj)}

theorem zover_nought {b k m : Int} : zover 0 b k m = 0 := by
 have h : ∀ s y, rq s 0 y m = 0 := fun s y => by rw [rq_exact (Nat.zero_mod _), Nat.zero_div]
 unfold zover
 rw [show Int.natAbs 0 = 0 from rfl, Nat.zero_mul, h, h]
 split <;> rfl

theorem xOverK {a : Dyadic} {kd : Nat} {low m : Int} (fa : fits a) (h0 : 1 ≤ kd) (hk : kd ≤ 1000000) (hb : low.natAbs ≤ 300) :
  ∃ (y : Cell3) (ex : Bool), X (divD a (mk kd 0) low m) 600 300 y ∧
   ∀ (P : Program) (gl : List (Nat × Obj)) (p q r : List PV), Cx P gl → p = intsL (canY a).2.1 → q = intsL (dg kd) → r = intsL y.2.1 → FS P gl 110 [.agg [B (canY a).1, .lst p, I (canY a).2.2], .agg [B false, .lst q, I 0], I low, I m] (· = .tup [.agg [B y.1, .lst r, I y.2.2], B ex]) := by
 obtain ⟨a1, a2, a3⟩ := fa
 obtain ⟨z, hz⟩ : ∃ z, z = zover (cZ a) kd (cE a - 0 - low) m := ⟨_, rfl⟩
 have h1 := zover_len (cZ a) kd (cE a - 0 - low) m
 rw [← hz] at h1
 have hd : mk z low = divD a (mk kd 0) low m := by
  unfold divD
  by_cases h : cZ a = 0
  ·rw [hz, h, zover_nought, zover_nought]
  ·have := (zover_form (z1 := cZ a) (e1 := cE a) (z2 := (kd : Int)) (e2 := 0) (L := low) (m := m) h (by omega)).1
   rw [mk_canon] at this
   rw [hz, this]
 refine ⟨(decide (z < 0), dg z.natAbs, low), decide ((cZ a).natAbs * 2 ^ (cE a - 0 - low).toNat % ((kd : Int).natAbs * 2 ^ (-(cE a - 0 - low)).toNat) = 0), ⟨z, rfl, rfl, hd.symm, by omega, hb⟩, ?_⟩
 intro P gl p q r C hp hq hr
 have hkl : (dg kd).length ≤ 2 := dg_len_le 2 _ (Nat.lt_of_le_of_lt hk (by decide))
 exact over_fs C (z2 := (kd : Int)) (e2 := 0) hp (by rw [hq]; rfl) rfl (by rw [eq_comm, decide_eq_false_iff_not]; omega) (by omega) hz hr rfl rfl (by show (cE a).natAbs ≤ _; omega) (by decide) (by omega) (by omega) (by show (dg kd).length ≤ _; omega)

theorem over11_fs (C : Cx P gl) {s1 s2 s ex : Bool} {p q r : List PV} {e1 e2 g low m : Int} (h : ∀ P', Cx P' gl → FS P' gl 110 [.agg [B s1, .lst p, I e1], .agg [B s2, .lst q, I e2], I low, I m] (· = .tup [.agg [B s, .lst r, I g], B ex])) :
  FS P gl 161 [.agg [B s1, .lst p, I e1], .agg [B s2, .lst q, I e2], .ptr [I low] 0, .ptr [I m] 0] (· = .agg [B s, .lst r, I g]) := by
 obtain ⟨rfl, hG⟩ := C
 refine FS_ofT (args := fun A => [.agg [B s1, .lst p, I e1], .agg [B s2, .lst q, I e2], .ptr [I low] 0, .ptr [I m] 0]) (R := fun A rr => rr = .agg [B s, .lst r, I g]) Tryz.hT Tryz.mix Tryz.func161 rfl rfl (Nat.le_of_ble_eq_true rfl) ?_
 generalize hP : Tryz.prog = P
 intro A hA
 have C : Tryz.Cx P gl := ⟨hP.symm, hG⟩
 have hI : intsL = A.ints := by subst hA; rfl
 iterate 2 (all_goals try cbv; all_goals with_reducible repeat' first | exact True.intro | refine And.intro ?_ ?_ | intro _)
 all_goals try exact oG
 refine callS hA rfl (h P C) ?_; rintro _ rfl
 iterate 2 (all_goals try cbv; all_goals with_reducible repeat' first | exact True.intro | refine And.intro ?_ ?_ | intro _)
 all_goals try exact oG

theorem over1_fs (C : Cx P gl) {s1 s2 t1 t2 : Bool} {p1 p2 q1 q2 l : List PV} {e1 e2 f1 f2 low m : Int}
  (h : ∀ P', Cx P' gl → FS P' gl 160 [.agg [B s1, .lst p1, I e1, B s2, .lst p2, I e2], .agg [B t1, .lst q1, I f1, B t2, .lst q2, I f2], .fn 161 [.ptr [I low] 0, .ptr [I m] 0]] (· = .lst l)) :
  FS P gl 159 [I m, .ptr [B s1, .lst p1, I e1, B s2, .lst p2, I e2] 0, .ptr [B t1, .lst q1, I f1, B t2, .lst q2, I f2] 0, .ptr [I low] 0] (· = .lst l) := by
 obtain ⟨rfl, hG⟩ := C
 refine FS_ofT (args := fun A => [I m, .ptr [B s1, .lst p1, I e1, B s2, .lst p2, I e2] 0, .ptr [B t1, .lst q1, I f1, B t2, .lst q2, I f2] 0, .ptr [I low] 0]) (R := fun A rr => rr = .lst l) Tryz.hT Tryz.mix Tryz.func159 rfl rfl (Nat.le_of_ble_eq_true rfl) ?_
 generalize hP : Tryz.prog = P
 intro A hA
 have C : Tryz.Cx P gl := ⟨hP.symm, hG⟩
 have hI : intsL = A.ints := by subst hA; rfl
 iterate 2 (all_goals try cbv; all_goals with_reducible repeat' first | exact True.intro | refine And.intro ?_ ?_ | intro _)
 all_goals try exact oG
 refine callS hA rfl (h P C) ?_; rintro _ rfl
 iterate 2 (all_goals try cbv; all_goals with_reducible repeat' first | exact True.intro | refine And.intro ?_ ?_ | intro _)
 all_goals try exact oG

theorem over1K_ex {a1 a2 : Dyadic} {kd : Nat} {low : Int} (m : Int) (fa1 : fits a1) (fa2 : fits a2) (h0 : 1 ≤ kd) (hk : kd ≤ 1000000) (hb : low.natAbs ≤ 300) :
  ∃ ys : List Cell3, ys.length = 4 ∧ XL (divE a1 a2 (mk kd 0) (mk kd 0) low m) 600 300 ys ∧
   ∀ (P : Program) (gl : List (Nat × Obj)) (p1 p2 q l : List PV), Cx P gl → p1 = intsL (canY a1).2.1 → p2 = intsL (canY a2).2.1 → q = intsL (dg kd) → l = cells3 ys →
    FS P gl 159 [I m, .ptr [B (canY a1).1, .lst p1, I (canY a1).2.2, B (canY a2).1, .lst p2, I (canY a2).2.2] 0, .ptr [B false, .lst q, I 0, B false, .lst q, I 0] 0, .ptr [I low] 0] (· = .lst l) := by
 obtain ⟨y0, x0, k0, c0⟩ := xOverK (low := low) (m := m) fa1 h0 hk hb
 obtain ⟨y2, x2, k2, c2⟩ := xOverK (low := low) (m := m) fa2 h0 hk hb
 refine ⟨[y0, y0, y2, y2], rfl, ?_, ?_⟩
 ·intro k hk
  have hk : k < 4 := hk
  rcases (by omega : k = 0 ∨ k = 1 ∨ k = 2 ∨ k = 3) with rfl | rfl | rfl | rfl
  ·exact k0
  ·exact k0
  ·exact k2
  ·exact k2
 ·intro P gl p1 p2 q l C hp1 hp2 hq hl
  rw [hl]
  exact over1_fs C (fun P' C' => ends2_fs C' (fun P2 C2 => over11_fs C2 (fun P3 C3 => c0 P3 gl _ _ _ C3 hp1 hq rfl)) (fun P2 C2 => over11_fs C2 (fun P3 C3 => c0 P3 gl _ _ _ C3 hp1 hq rfl))
   (fun P2 C2 => over11_fs C2 (fun P3 C3 => c2 P3 gl _ _ _ C3 hp2 hq rfl)) (fun P2 C2 => over11_fs C2 (fun P3 C3 => c2 P3 gl _ _ _ C3 hp2 hq rfl)))

theorem spanOver_fs (C : Cx P gl) {s1 s2 t1 t2 u v : Bool} {p1 p2 q1 q2 l3 l2 r x : List PV} {e1 e2 f1 f2 g h low : Int}
  (h3 : ∀ P', Cx P' gl → FS P' gl 159 [I 3, .ptr [B s1, .lst p1, I e1, B s2, .lst p2, I e2] 0, .ptr [B t1, .lst q1, I f1, B t2, .lst q2, I f2] 0, .ptr [I low] 0] (· = .lst l3))
  (h2 : ∀ P', Cx P' gl → FS P' gl 159 [I 2, .ptr [B s1, .lst p1, I e1, B s2, .lst p2, I e2] 0, .ptr [B t1, .lst q1, I f1, B t2, .lst q2, I f2] 0, .ptr [I low] 0] (· = .lst l2))
  (k3 : ∀ P', Cx P' gl → FS P' gl 162 [.lst l3] (· = .agg [B u, .lst r, I g])) (k2 : ∀ P', Cx P' gl → FS P' gl 163 [.lst l2] (· = .agg [B v, .lst x, I h])) :
  FS P gl 85 [.agg [B s1, .lst p1, I e1, B s2, .lst p2, I e2], .agg [B t1, .lst q1, I f1, B t2, .lst q2, I f2], I low] (· = .agg [B u, .lst r, I g, B v, .lst x, I h]) := by
 obtain ⟨rfl, hG⟩ := C
 refine FS_ofT (args := fun A => [.agg [B s1, .lst p1, I e1, B s2, .lst p2, I e2], .agg [B t1, .lst q1, I f1, B t2, .lst q2, I f2], I low]) (R := fun A rr => rr = .agg [B u, .lst r, I g, B v, .lst x, I h]) Tryz.hT Tryz.mix Tryz.func85 rfl rfl (Nat.le_of_ble_eq_true rfl) ?_
 generalize hP : Tryz.prog = P
 intro A hA
 have C : Tryz.Cx P gl := ⟨hP.symm, hG⟩
 have hI : intsL = A.ints := by subst hA; rfl
 iterate 2 (all_goals try cbv; all_goals with_reducible repeat' first | exact True.intro | refine And.intro ?_ ?_ | intro _)
 all_goals try exact oG
 refine callS hA rfl (h3 P C) ?_; rintro _ rfl
 iterate 2 (all_goals try cbv; all_goals with_reducible repeat' first | exact True.intro | refine And.intro ?_ ?_ | intro _)
 all_goals try exact oG
 refine callS hA rfl (k3 P C) ?_; rintro _ rfl
 iterate 2 (all_goals try cbv; all_goals with_reducible repeat' first | exact True.intro | refine And.intro ?_ ?_ | intro _)
 all_goals try exact oG
 refine callS hA rfl (h2 P C) ?_; rintro _ rfl
 iterate 2 (all_goals try cbv; all_goals with_reducible repeat' first | exact True.intro | refine And.intro ?_ ?_ | intro _)
 all_goals try exact oG
 refine callS hA rfl (k2 P C) ?_; rintro _ rfl
 iterate 2 (all_goals try cbv; all_goals with_reducible repeat' first | exact True.intro | refine And.intro ?_ ?_ | intro _)
 all_goals try exact oG

theorem spanOverK_ex {a1 a2 : Dyadic} {kd : Nat} {low : Int} (fa1 : fits a1) (fa2 : fits a2) (h0 : 1 ≤ kd) (hk : kd ≤ 1000000) (hb : low.natAbs ≤ 300) :
  ∃ y1 y2 : Cell3, X (divLo a1 a2 (mk kd 0) (mk kd 0) low) 600 300 y1 ∧ X (divHi a1 a2 (mk kd 0) (mk kd 0) low) 600 300 y2 ∧
   ∀ (P : Program) (gl : List (Nat × Obj)) (p1 p2 q r x : List PV), Cx P gl → p1 = intsL (canY a1).2.1 → p2 = intsL (canY a2).2.1 → q = intsL (dg kd) → r = intsL y1.2.1 → x = intsL y2.2.1 →
    FS P gl 85 [.agg [B (canY a1).1, .lst p1, I (canY a1).2.2, B (canY a2).1, .lst p2, I (canY a2).2.2], .agg [B false, .lst q, I 0, B false, .lst q, I 0], I low]
     (· = .agg [B y1.1, .lst r, I y1.2.2, B y2.1, .lst x, I y2.2.2]) := by
 obtain ⟨ys, ly, xy, cy⟩ := over1K_ex (low := low) 3 fa1 fa2 h0 hk hb
 obtain ⟨zs, lz, xz, cz⟩ := over1K_ex (low := low) 2 fa1 fa2 h0 hk hb
 have m1 := amin_le (divE a1 a2 (mk kd 0) (mk kd 0) low 3) 3
 have m2 := amax_le (divE a1 a2 (mk kd 0) (mk kd 0) low 2) 3
 refine ⟨ys.getD (amin (divE a1 a2 (mk kd 0) (mk kd 0) low 3) 3) noY, zs.getD (amax (divE a1 a2 (mk kd 0) (mk kd 0) low 2) 3) noY, xy _ (by omega), xz _ (by omega), ?_⟩
 intro P gl p1 p2 q r x C hp1 hp2 hq hr hx
 obtain ⟨l3, hl3⟩ : ∃ l, l = cells3 ys := ⟨_, rfl⟩
 obtain ⟨l2, hl2⟩ : ∃ l, l = cells3 zs := ⟨_, rfl⟩
 exact spanOver_fs C (fun P' C' => cy P' gl _ _ _ l3 C' hp1 hp2 hq hl3) (fun P' C' => cz P' gl _ _ _ l2 C' hp1 hp2 hq hl2)
  (fun P' C' => leastN_fs C' hl3 xy (by omega) (by omega) (by omega) (by omega) (by rw [ly]) (by rw [ly]; exact hr) (by rw [ly]))
  (fun P' C' => mostN_fs C' hl2 xz (by omega) (by omega) (by omega) (by omega) (by rw [lz]) (by rw [lz]; exact hx) (by rw [lz]))

end Tryz
end Go.Proofs
