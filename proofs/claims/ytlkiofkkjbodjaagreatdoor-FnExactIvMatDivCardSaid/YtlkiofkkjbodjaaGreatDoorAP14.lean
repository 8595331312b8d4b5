/- Contracts: intervals in lists, made coarser. -/
import Derived.Test.YtlkiofkkjbodjaaGreatDoorAD6
import Derived.Test.YtlkiofkkjbodjaaGreatDoorAN22
import Derived.Test.YtlkiofkkjbodjaaGreatDoorAN29
import Derived.Test.YtlkiofkkjbodjaaGreatDoorAEvD
import Derived.Test.YtlkiofkkjbodjaaGreatDoorAN24
import Derived.Test.YtlkiofkkjbodjaaGreatDoorAN26
import Derived.Test.YtlkiofkkjbodjaaGreatDoorAN32
import Derived.Test.YtlkiofkkjbodjaaGreatDoorAP11o
set_option maxRecDepth 100000
namespace Go.Proofs
open Go Go.Pe Go.Dg
namespace Tryz
set_option linter.unusedSimpArgs false
set_option linter.unusedVariables false
variable {P : Program} {gl : List (Nat × Obj)}

theorem isZero_fs (C : Cx P gl) {l : List Int} {p : List PV} {s b : Bool} {e : Int} (hp : p = intsL l) (hb : b = decide (l.length = 0)) : FS P gl 79 [.agg [B s, .lst p, I e]] (· = B b) := by
 obtain ⟨rfl, hG⟩ := C
 refine FS_ofT (args := fun A => [.agg [B s, .lst p, I e]]) (R := fun A rr => rr = B b) Tryz.hT Tryz.mix Tryz.func79 rfl rfl (Nat.le_of_ble_eq_true rfl) ?_
 generalize hP : Tryz.prog = P
 intro A hA
 have C : Tryz.Cx P gl := ⟨hP.symm, hG⟩
 have hI : intsL = A.ints := by subst hA; rfl
 iterate 2 (all_goals try cbv; all_goals with_reducible repeat' first | exact True.intro | refine And.intro ?_ ?_ | intro _)
 all_goals try exact oH
 have e1 : A.eq (A.cast (A.len p)) 0 = b := by
  rw [hb]; subst hA; subst hp; rw [Bool.eq_iff_iff]; simp [AR.std, ints_len]
 exact congrArg (fun x => PV.val (.bool x)) e1

end Tryz
end Go.Proofs

set_option maxHeartbeats 1000000
set_option maxRecDepth 100000
namespace Go.Proofs
open Go Go.Pe Go.Dg
namespace Tryz
set_option linter.unusedSimpArgs false
set_option linter.unusedVariables false
variable {P : Program} {gl : List (Nat × Obj)}

theorem roundedS_fs (C : Cx P gl) {l : List Int} {p : List PV} {s zb lb : Bool} {e low m : Int} (hp : p = intsL l) (hzb : zb = decide (l.length = 0)) (hlb : lb = decide (low ≤ e)) (h : zb = true ∨ lb = true) :
  FS P gl 199 [.agg [B s, .lst p, I e], I low, I m] (· = .tup [.agg [B s, .lst p, I e], B true]) := by
 have hz := fun (P' : Program) (C' : Cx P' gl) => isZero_fs C' (s := s) (e := e) hp hzb
 clear hp hzb
 obtain ⟨rfl, hG⟩ := C
 refine FS_ofT (args := fun A => [.agg [B s, .lst p, I e], I low, I m]) (R := fun A rr => rr = .tup [.agg [B s, .lst p, I e], B true]) Tryz.hT Tryz.mix Tryz.func199 rfl rfl (Nat.le_of_ble_eq_true rfl) ?_
 generalize hP : Tryz.prog = P
 intro A hA
 have C : Tryz.Cx P gl := ⟨hP.symm, hG⟩
 have hI : intsL = A.ints := by subst hA; rfl
 have hle : A.le low e = lb := by rw [hlb]; subst hA; rfl
 clear hlb
 iterate 2 (all_goals try cbv; all_goals with_reducible repeat' first | exact True.intro | refine And.intro ?_ ?_ | intro _)
 all_goals try exact oH
 all_goals try simp only [hle]
 all_goals try (refine ⟨_, fun _ => hz P C, ?_⟩)
 iterate 2 (all_goals try cbv; all_goals with_reducible repeat' first | exact True.intro | refine And.intro ?_ ?_ | intro _)
 all_goals try exact oH
 all_goals (exfalso; clear hz hle hI; rename_i g; subst hA; revert g h; cases zb <;> cases lb <;> simp [AR.std])

theorem roundedO_fs (C : Cx P gl) {z1 z e low m : Int} {p r : List PV} {s1 s ex : Bool} (hp : p = intsL (dg z1.natAbs)) (hs1 : s1 = decide (z1 < 0)) (h1 : z1 ≠ 0) (h2 : e < low) (hz : z = zover z1 1 (e - low) m) (hr : r = intsL (dg z.natAbs)) (hs : s = decide (z < 0))
  (hex : ex = decide (z1.natAbs * 2 ^ (e - low).toNat % ((1 : Int).natAbs * 2 ^ (-(e - low)).toNat) = 0)) (hb1 : e.natAbs ≤ 1000000) (hb3 : low.natAbs ≤ 1000000) (hl1 : (dg z1.natAbs).length ≤ 500000) :
  FS P gl 199 [.agg [B s1, .lst p, I e], I low, I m] (· = .tup [.agg [B s, .lst r, I low], B ex]) := by
 have e0 : e - 0 - low = e - low := by omega
 have hz := fun (P' : Program) (C' : Cx P' gl) => isZero_fs C' (s := s1) (e := e) (b := false) hp (by
  have : 0 < z1.natAbs := by omega
  have := dg_ne_nil this
  symm; exact decide_eq_false (by omega))
 obtain ⟨p1, hp1⟩ : ∃ p1, p1 = intsL (dg 1) := ⟨_, rfl⟩
 have hsm := fun (P' : Program) (C' : Cx P' gl) => small_fs C' (k := 1) (n := 1) rfl hp1 (by decide)
 have hov := fun (P' : Program) (C' : Cx P' gl) => over_fs C' (z1 := z1) (z2 := 1) (e1 := e) (e2 := 0) (low := low) (m := m) (z := z) (s := s) (r := r) (ex := ex) (s2 := false) hp hp1 hs1 rfl (by decide) (by rw [e0]; assumption) hr hs (by rw [e0]; exact hex) hb1 (by decide) hb3 hl1 (Nat.le_trans (dg_len 1 (by decide)) (by decide))
 clear hp hs1 h1 hr hs hex hp1 e0 hb1 hb3 hl1
 obtain ⟨rfl, hG⟩ := C
 refine FS_ofT (args := fun A => [.agg [B s1, .lst p, I e], I low, I m]) (R := fun A rr => rr = .tup [.agg [B s, .lst r, I low], B ex]) Tryz.hT Tryz.mix Tryz.func199 rfl rfl (Nat.le_of_ble_eq_true rfl) ?_
 generalize hP : Tryz.prog = P
 intro A hA
 have C : Tryz.Cx P gl := ⟨hP.symm, hG⟩
 have hI : intsL = A.ints := by subst hA; rfl
 have hle : A.le low e = false := by subst hA; exact decide_eq_false (by omega)
 iterate 2 (all_goals try cbv; all_goals with_reducible repeat' first | exact True.intro | refine And.intro ?_ ?_ | intro _)
 all_goals try exact oH
 all_goals try simp only [hle]
 all_goals try (refine ⟨_, fun _ => hz P C, ?_⟩)
 iterate 2 (all_goals try cbv; all_goals with_reducible repeat' first | exact True.intro | refine And.intro ?_ ?_ | intro _)
 all_goals try exact oH
 refine ⟨_, hsm P C, ?_⟩
 iterate 2 (all_goals try cbv; all_goals with_reducible repeat' first | exact True.intro | refine And.intro ?_ ?_ | intro _)
 all_goals try exact oH
 refine ⟨_, hov P C, ?_⟩
 iterate 2 (all_goals try cbv; all_goals with_reducible repeat' first | exact True.intro | refine And.intro ?_ ?_ | intro _)
 all_goals try exact oH

theorem xRounded {d : Dyadic} {low m : Int} (hl : (dg (cZ d).natAbs).length ≤ 500000) (hE : (cE d).natAbs ≤ 1000000) (hb : low.natAbs ≤ 1000000) {L E : Nat} (hL : (dg (cZ d).natAbs).length + 2 ≤ L) (hE2 : (cE d).natAbs ≤ E) (hb2 : low.natAbs ≤ E) :
  ∃ (y : Cell3) (ex : Bool), X (roundD d low m) L E y ∧
   ∀ (P : Program) (gl : List (Nat × Obj)) (p r : List PV), Cx P gl → p = intsL (canY d).2.1 → r = intsL y.2.1 → FS P gl 199 [.agg [B (canY d).1, .lst p, I (canY d).2.2], I low, I m] (· = .tup [.agg [B y.1, .lst r, I y.2.2], B ex]) := by
 by_cases h : d = 0 ∨ low ≤ cE d
 ·refine ⟨canY d, true, ?_, ?_⟩
  ·rw [roundD_same h]
   exact ⟨cZ d, rfl, rfl, (mk_canon d).symm, by omega, hE2⟩
  ·intro P gl p r C hp hr
   rw [hr, ← hp]
   refine roundedS_fs C hp rfl rfl ?_
   rcases h with h | h
   ·left
    refine decide_eq_true ?_
    show (dg (cZ d).natAbs).length = 0
    rw [h, cZ_zero, show Int.natAbs 0 = 0 from rfl, dg_zero]
    rfl
   ·right; exact decide_eq_true h
 ·have hd : d ≠ 0 := fun e => h (.inl e)
  have hlt : cE d < low := by apply Int.lt_of_not_ge; intro e; exact h (.inr e)
  obtain ⟨z, hz⟩ : ∃ z, z = zover (cZ d) 1 (cE d - low) m := ⟨_, rfl⟩
  have hzl := zover_len (cZ d) 1 (cE d - low) m
  rw [← hz, show (cE d - low).toNat = 0 by omega] at hzl
  refine ⟨(decide (z < 0), dg z.natAbs, low), decide ((cZ d).natAbs * 2 ^ (cE d - low).toNat % ((1 : Int).natAbs * 2 ^ (-(cE d - low)).toNat) = 0), ⟨z, rfl, rfl, by rw [roundD_else h, hz], by omega, hb2⟩, ?_⟩
  intro P gl p r C hp hr
  exact roundedO_fs C hp rfl (by rw [Ne, cZ_eq_zero]; exact hd) hlt hz hr rfl rfl hE hb hl

end Tryz
end Go.Proofs

set_option maxHeartbeats 2000000
set_option maxRecDepth 100000
namespace Go.Proofs
open Go Go.Pe Go.Dg
namespace Tryz
set_option linter.unusedSimpArgs false
set_option linter.unusedVariables false
variable {P : Program} {gl : List (Nat × Obj)}

theorem l7low_fs (C : Cx P gl) {n : Int} {b : Bool} (hb : b = (decide (-200 ≤ n) && decide (n ≤ 200))) : FS P gl 49 [I n] (· = B b) := by
 obtain ⟨rfl, hG⟩ := C
 refine FS_ofT (args := fun A => [I n]) (R := fun A rr => rr = B b) Tryz.hT Tryz.mix Tryz.func49 rfl rfl (Nat.le_of_ble_eq_true rfl) ?_
 generalize hP : Tryz.prog = P
 intro A hA
 have C : Tryz.Cx P gl := ⟨hP.symm, hG⟩
 have hI : intsL = A.ints := by subst hA; rfl
 iterate 2 (all_goals try cbv; all_goals with_reducible repeat' first | exact True.intro | refine And.intro ?_ ?_ | intro _)
 all_goals try exact pH
 rw [hb]
 subst hA
 show PV.val (.bool (bif decide (-200 ≤ n) then decide (n ≤ 200) else false)) = _
 cases decide (-200 ≤ n) <;> rfl

theorem isFine_fs (C : Cx P gl) {n : Int} {b : Bool} (hb : b = (decide (-200 ≤ n) && decide (n ≤ 200))) : FS P gl 54 [I n] (· = B b) := by
 obtain ⟨rfl, hG⟩ := C
 refine FS_ofT (args := fun A => [I n]) (R := fun A rr => rr = B b) Tryz.hT Tryz.mix Tryz.func54 rfl rfl (Nat.le_of_ble_eq_true rfl) ?_
 generalize hP : Tryz.prog = P
 intro A hA
 have C : Tryz.Cx P gl := ⟨hP.symm, hG⟩
 have hI : intsL = A.ints := by subst hA; rfl
 iterate 2 (all_goals try cbv; all_goals with_reducible repeat' first | exact True.intro | refine And.intro ?_ ?_ | intro _)
 all_goals try exact oH
 refine callS hA rfl (within_fs C hb) ?_; rintro _ rfl
 iterate 2 (all_goals try cbv; all_goals with_reducible repeat' first | exact True.intro | refine And.intro ?_ ?_ | intro _)
 all_goals try exact oH

theorem l7out_fs (C : Cx P gl) {d1 d2 c1 c2 : Dyadic} {s t u v : Bool} {e f g h low : Int} {p q r x : List PV} (hs : s = decide (cZ d1 < 0)) (hp : p = intsL (dg (cZ d1).natAbs)) (he : e = cE d1) (ht : t = decide (cZ d2 < 0)) (hq : q = intsL (dg (cZ d2).natAbs)) (hf : f = cE d2)
  (f1 : fits d1) (f2 : fits d2) (hlow : low.natAbs ≤ 200) (hc1 : c1 = roundD d1 low 3) (hc2 : c2 = roundD d2 low 2) (hu : u = decide (cZ c1 < 0)) (hr : r = intsL (dg (cZ c1).natAbs)) (hg : g = cE c1) (hv : v = decide (cZ c2 < 0)) (hx : x = intsL (dg (cZ c2).natAbs)) (hh : h = cE c2) :
  FS P gl 122 [.agg [B s, .lst p, I e, B t, .lst q, I f], I low] (· = .agg [B u, .lst r, I g, B v, .lst x, I h]) := by
 obtain ⟨a1, a2, a3⟩ := f1
 obtain ⟨b1, b2, b3⟩ := f2
 obtain ⟨x1, hx1⟩ : ∃ x, x = decide (d1 = 0 ∨ low ≤ e) := ⟨_, rfl⟩
 obtain ⟨x2, hx2⟩ : ∃ x, x = decide (d2 = 0 ∨ low ≤ f) := ⟨_, rfl⟩
 have k1 := fun (P' : Program) (C' : Cx P' gl) => l4round_fs C' hs hp he hc1 hu hr hg hx1 (by decide) (by decide) (by omega) (by omega) (by omega)
 have k2 := fun (P' : Program) (C' : Cx P' gl) => l4round_fs C' ht hq hf hc2 hv hx hh hx2 (by decide) (by decide) (by omega) (by omega) (by omega)
 clear hs hp he ht hq hf hc1 hc2 hu hr hg hv hx hh hx1 hx2
 obtain ⟨rfl, hG⟩ := C
 refine FS_ofT (args := fun A => [.agg [B s, .lst p, I e, B t, .lst q, I f], I low]) (R := fun A rr => rr = .agg [B u, .lst r, I g, B v, .lst x, I h]) Tryz.hT Tryz.mix Tryz.func122 rfl rfl (Nat.le_of_ble_eq_true rfl) ?_
 generalize hP : Tryz.prog = P
 intro A hA
 have C : Tryz.Cx P gl := ⟨hP.symm, hG⟩
 have hI : intsL = A.ints := by subst hA; rfl
 iterate 2 (all_goals try cbv; all_goals with_reducible repeat' first | exact True.intro | refine And.intro ?_ ?_ | intro _)
 all_goals try exact oH
 first | (refine callS hA rfl (k1 P C) ?_; rintro _ rfl) | refine ⟨_, k1 P C, ?_⟩
 iterate 2 (all_goals try cbv; all_goals with_reducible repeat' first | exact True.intro | refine And.intro ?_ ?_ | intro _)
 all_goals try exact oH
 first | (refine callS hA rfl (k2 P C) ?_; rintro _ rfl) | refine ⟨_, k2 P C, ?_⟩
 iterate 2 (all_goals try cbv; all_goals with_reducible repeat' first | exact True.intro | refine And.intro ?_ ?_ | intro _)
 all_goals try exact oH

theorem spanOut_fs (C : Cx P gl) {s t u v x1 x2 : Bool} {e f g h low : Int} {p q r x : List PV}
  (k1 : ∀ P', Cx P' gl → FS P' gl 199 [.agg [B s, .lst p, I e], I low, I 3] (· = .tup [.agg [B u, .lst r, I g], B x1])) (k2 : ∀ P', Cx P' gl → FS P' gl 199 [.agg [B t, .lst q, I f], I low, I 2] (· = .tup [.agg [B v, .lst x, I h], B x2])) :
  FS P gl 128 [.agg [B s, .lst p, I e, B t, .lst q, I f], I low] (· = .agg [B u, .lst r, I g, B v, .lst x, I h]) := by
 obtain ⟨rfl, hG⟩ := C
 refine FS_ofT (args := fun A => [.agg [B s, .lst p, I e, B t, .lst q, I f], I low]) (R := fun A rr => rr = .agg [B u, .lst r, I g, B v, .lst x, I h]) Tryz.hT Tryz.mix Tryz.func128 rfl rfl (Nat.le_of_ble_eq_true rfl) ?_
 generalize hP : Tryz.prog = P
 intro A hA
 have C : Tryz.Cx P gl := ⟨hP.symm, hG⟩
 have hI : intsL = A.ints := by subst hA; rfl
 iterate 2 (all_goals try cbv; all_goals with_reducible repeat' first | exact True.intro | refine And.intro ?_ ?_ | intro _)
 all_goals try exact oH
 first | (refine callS hA rfl (k1 P C) ?_; rintro _ rfl) | refine ⟨_, k1 P C, ?_⟩
 iterate 2 (all_goals try cbv; all_goals with_reducible repeat' first | exact True.intro | refine And.intro ?_ ?_ | intro _)
 all_goals try exact oH
 first | (refine callS hA rfl (k2 P C) ?_; rintro _ rfl) | refine ⟨_, k2 P C, ?_⟩
 iterate 2 (all_goals try cbv; all_goals with_reducible repeat' first | exact True.intro | refine And.intro ?_ ?_ | intro _)
 all_goals try exact oH

end Tryz
end Go.Proofs

set_option maxHeartbeats 1000000
set_option maxRecDepth 100000
namespace Go.Proofs
open Go Go.Pe Go.Dg
namespace Tryz
set_option linter.unusedSimpArgs false
set_option linter.unusedVariables false
variable {P : Program} {gl : List (Nat × Obj)}

theorem out1_fs (C : Cx P gl) {s1 s2 u v : Bool} {p1 p2 r x : List PV} {e1 e2 g h low : Int}
  (h1 : ∀ P', Cx P' gl → FS P' gl 128 [.agg [B s1, .lst p1, I e1, B s2, .lst p2, I e2], I low] (· = .agg [B u, .lst r, I g, B v, .lst x, I h])) :
  FS P gl 127 [.agg [B s1, .lst p1, I e1, B s2, .lst p2, I e2], .ptr [I low] 0] (· = .agg [B u, .lst r, I g, B v, .lst x, I h]) := by
 obtain ⟨rfl, hG⟩ := C
 refine FS_ofT (args := fun A => [.agg [B s1, .lst p1, I e1, B s2, .lst p2, I e2], .ptr [I low] 0]) (R := fun A rr => rr = .agg [B u, .lst r, I g, B v, .lst x, I h]) Tryz.hT Tryz.mix Tryz.func127 rfl rfl (Nat.le_of_ble_eq_true rfl) ?_
 generalize hP : Tryz.prog = P
 intro A hA
 have C : Tryz.Cx P gl := ⟨hP.symm, hG⟩
 have hI : intsL = A.ints := by subst hA; rfl
 iterate 2 (all_goals try cbv; all_goals with_reducible repeat' first | exact True.intro | refine And.intro ?_ ?_ | intro _)
 all_goals try exact oI
 first | (refine callS hA rfl (h1 P C) ?_; rintro _ rfl) | refine ⟨_, h1 P C, ?_⟩
 iterate 2 (all_goals try cbv; all_goals with_reducible repeat' first | exact True.intro | refine And.intro ?_ ?_ | intro _)
 all_goals try exact oI

theorem out_fs (C : Cx P gl) {p r : List PV} {n low : Int} (h : ∀ P', Cx P' gl → FS P' gl 126 [.agg [I n, .lst p], .fn 127 [.ptr [I low] 0]] (· = .agg [I n, .lst r])) :
  FS P gl 56 [.agg [I n, .lst p], I low] (· = .agg [I n, .lst r]) := by
 obtain ⟨rfl, hG⟩ := C
 refine FS_ofT (args := fun A => [.agg [I n, .lst p], I low]) (R := fun A rr => rr = .agg [I n, .lst r]) Tryz.hT Tryz.mix Tryz.func56 rfl rfl (Nat.le_of_ble_eq_true rfl) ?_
 generalize hP : Tryz.prog = P
 intro A hA
 have C : Tryz.Cx P gl := ⟨hP.symm, hG⟩
 have hI : intsL = A.ints := by subst hA; rfl
 iterate 2 (all_goals try cbv; all_goals with_reducible repeat' first | exact True.intro | refine And.intro ?_ ?_ | intro _)
 all_goals try exact oI
 first | (refine callS hA rfl (h P C) ?_; rintro _ rfl) | refine ⟨_, h P C, ?_⟩
 iterate 2 (all_goals try cbv; all_goals with_reducible repeat' first | exact True.intro | refine And.intro ?_ ?_ | intro _)
 all_goals try exact oI

theorem endV {vs : List Cell6} (hva : allV vs) {k : Nat} (hk : k < vs.length) : vs.getD k noV = (canY (dvA vs k), canY (dvB vs k)) := allV_can hva hk

theorem xOut {d1 d2 : Dyadic} {low : Int} (f1 : fits d1) (f2 : fits d2) (hlow : low.natAbs ≤ 200) :
  ∃ y : Cell6, X (roundD d1 low 3) 3102 3000 y.1 ∧ X (roundD d2 low 2) 3102 3000 y.2 ∧ ∀ (P : Program) (gl : List (Nat × Obj)), Cx P gl → FS P gl 127 [cell6 (canY d1, canY d2), .ptr [I low] 0] (· = cell6 y) := by
 obtain ⟨a1, a2, a3⟩ := f1
 obtain ⟨b1, b2, b3⟩ := f2
 obtain ⟨y1, x1, h1, h2⟩ := xRounded (d := d1) (low := low) (m := 3) (L := 3102) (E := 3000) (by omega) (by omega) (by omega) (by omega) (by omega) (by omega)
 obtain ⟨y2, x2, h3, h4⟩ := xRounded (d := d2) (low := low) (m := 2) (L := 3102) (E := 3000) (by omega) (by omega) (by omega) (by omega) (by omega) (by omega)
 refine ⟨(y1, y2), h1, h3, ?_⟩
 intro P gl C
 exact out1_fs C (fun P' C' => spanOut_fs C' (fun P2 C2 => h2 P2 gl _ _ C2 rfl rfl) (fun P2 C2 => h4 P2 gl _ _ C2 rfl rfl))

theorem ivOut_ex {vs : List Cell6} {n low : Int} (hva : allV vs) (hlow : low.natAbs ≤ 200) (hvl : vs.length ≤ 16) :
  ∃ xs, xs.length = vs.length ∧ XV (fun k => roundD (dvA vs k) low 3) (fun k => roundD (dvB vs k) low 2) 3102 3000 xs ∧
   ∀ (P : Program) (gl : List (Nat × Obj)) (p r : List PV), Cx P gl → p = cells6 vs → r = cells6 xs → FS P gl 56 [.agg [I n, .lst p], I low] (· = .agg [I n, .lst r]) := by
 obtain ⟨Y, hY⟩ := pickV6 (n := vs.length) (fun k hk => xOut (allV_fits hva hk).1 (allV_fits hva hk).2 hlow)
 refine ⟨listV Y vs.length, listV_len _ _, listV_XV (fun k hk => ⟨(hY k hk).1, (hY k hk).2.1⟩), ?_⟩
 intro P gl p r C hp hr
 exact out_fs C (fun P' C' => each1_fs C' hp hr (by omega) (fun k hk P2 C2 => by rw [endV hva hk]; exact (hY k hk).2.2 P2 gl C2))

theorem l7outV {gl : List (Nat × Obj)} {vs : List Cell6} {low : Int} {P : Program} (C : Cx P gl) (hva : allV vs) {k : Nat} (hk : k < vs.length) (hlow : low.natAbs ≤ 200) :
  FS P gl 122 [cell6 (vs.getD k noV), I low] (· = cell6 (canY (roundD (dvA vs k) low 3), canY (roundD (dvB vs k) low 2))) := by
 obtain ⟨f1, f2⟩ := allV_fits hva hk
 rw [endV hva hk]
 exact l7out_fs C (d1 := dvA vs k) (d2 := dvB vs k) rfl rfl rfl rfl rfl rfl f1 f2 hlow rfl rfl rfl rfl rfl rfl rfl rfl

theorem vout_len {vs : List Cell6} {low : Int} (hva : allV vs) {k : Nat} (hk : k < vs.length) (hlow : low.natAbs ≤ 200) :
  (dg (cZ (roundD (dvA vs k) low 3)).natAbs).length ≤ 100000 ∧ (dg (cZ (roundD (dvB vs k) low 2)).natAbs).length ≤ 100000 := by
 obtain ⟨y, h1, h2, _⟩ := xOut (allV_fits hva hk).1 (allV_fits hva hk).2 hlow
 have c1 := X_can h1
 have c2 := X_can h2
 omega

end Tryz
end Go.Proofs

