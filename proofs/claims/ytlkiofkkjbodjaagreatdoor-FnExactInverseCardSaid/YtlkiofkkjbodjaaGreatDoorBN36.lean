/- Contracts: quotients of numbers within wider bounds, in the reference and in the program. -/
import Derived.Test.YtlkiofkkjbodjaaGreatDoorBM34
import Derived.Test.YtlkiofkkjbodjaaGreatDoorBM7
import Derived.Test.YtlkiofkkjbodjaaGreatDoorBPeTk
import Derived.Test.YtlkiofkkjbodjaaGreatDoorBN29
import Derived.Test.YtlkiofkkjbodjaaGreatDoorBD6
import Derived.Test.YtlkiofkkjbodjaaGreatDoorBM4
import Derived.Test.YtlkiofkkjbodjaaGreatDoorBN11
import Derived.Test.YtlkiofkkjbodjaaGreatDoorBN34
import Derived.Test.YtlkiofkkjbodjaaGreatDoorBN13
import Derived.Test.YtlkiofkkjbodjaaGreatDoorBPeTs
set_option maxHeartbeats 1000000
set_option maxRecDepth 100000
namespace Go.Proofs
open Go Go.Pe Go.Dg
namespace Tryz
set_option linter.unusedSimpArgs false
set_option linter.unusedVariables false
variable {P : Program} {gl : List (Nat × Obj)}

def aDO (gl : List (Nat × Obj)) (n : Int) (ys : List aC) (i j : Nat) (y : aC) : Prop := ∃ dt : aC, (∀ (P : Program) (q u : List PV) (n1 : Int), Cx P gl → n1 = n - 1 → q = aB (eP n.toNat j i ys) → u = aA dt.2.1 → FS P gl 78 [.agg [I n1, .lst q]] (· = .agg [B dt.1, .lst u, I dt.2.2])) ∧
 (∀ (P : Program) (u v : List PV) (k' : Int), Cx P gl → k' = ((j + i : Nat) : Int) → u = aA dt.2.1 → v = aA y.2.1 → FS P gl 153 [.agg [B dt.1, .lst u, I dt.2.2], I k'] (· = .agg [B y.1, .lst v, I y.2.2]))

theorem aGA (C : Cx P gl) {ys : List aC} {p r : List PV} {n i j : Int} {s : Bool} {l : List Int} {e : Int} (hp : p = aB ys) (hi : 0 ≤ i) (hj : 0 ≤ j) (hn4 : n ≤ 4) (hi4 : i < n) (hj4 : j < n)
  (hyl : (ys.length : Int) = n * n) (hr : r = aA l) (hc : aDO gl n ys i.toNat j.toNat (s, l, e)) :
  FS P gl 155 [I i, I j, .ptr [I n, .lst p] 0] (· = .agg [B s, .lst r, I e]) := by
 obtain ⟨dt, h1, h2⟩ := hc
 obtain ⟨n1, hn1⟩ : ∃ n1, n1 = n - 1 := ⟨_, rfl⟩
 obtain ⟨q, hq⟩ : ∃ q, q = aB (eP n.toNat j.toNat i.toNat ys) := ⟨_, rfl⟩
 obtain ⟨u, hu⟩ : ∃ u, u = aA dt.2.1 := ⟨_, rfl⟩
 obtain ⟨s1, hs1⟩ : ∃ s1, s1 = dt.1 := ⟨_, rfl⟩
 obtain ⟨e1, he1⟩ : ∃ e1, e1 = dt.2.2 := ⟨_, rfl⟩
 obtain ⟨k, hk⟩ : ∃ k, k = j + i := ⟨_, rfl⟩
 have c1 := fun (P' : Program) (C' : Cx P' gl) => tN C' hp (by omega) hn4 hj hj4 hi hi4 hyl hn1 hq
 have c2 := fun (P' : Program) (C' : Cx P' gl) => h1 P' q u n1 C' hn1 hq hu
 have c3 := fun (P' : Program) (C' : Cx P' gl) => h2 P' u r k C' (by omega) hu hr
 simp only at c3
 rw [← hs1, ← he1] at c2 c3
 clear h1 h2 hq hu hs1 he1 hyl hp hr hn1
 refine gS C func155 rfl rfl rfl fun A hA hI => ?_
 have aAY : A.add .i64 j i = k := by rw [hk]; subst hA; exact aX (by omega) (by omega)
 iterate 2 all_goals try cbv; with_reducible repeat' first | exact ⟨⟩ | apply And.intro | intro _
 all_goals try exact oG
 refine aD hA rfl (c1 P C) ?_; rintro _ rfl
 iterate 2 all_goals try cbv; with_reducible repeat' first | exact ⟨⟩ | apply And.intro | intro _
 all_goals try exact oG
 refine aD hA rfl (c2 P C) ?_; rintro _ rfl
 iterate 2 all_goals try cbv; with_reducible repeat' first | exact ⟨⟩ | apply And.intro | intro _
 all_goals try exact oG
 simp only [aAY]
 refine aD hA rfl (c3 P C) ?_; rintro _ rfl
 iterate 2 all_goals try cbv; with_reducible repeat' first | exact ⟨⟩ | apply And.intro | intro _
 all_goals try exact oG

theorem aIV (C : Cx P gl) {ys : List aC} {p r : List PV} {n : Int} {Y : Nat → Nat → aC} (hp : p = aB ys) (hr : r = aB (bY Y n.toNat n.toNat)) (hn : 0 ≤ n) (hn4 : n ≤ 4) (hyl : (ys.length : Int) = n * n)
  (hY : ∀ i j : Nat, i < n.toNat → j < n.toNat → aDO gl n ys i j (Y i j)) :
  FS P gl 80 [.agg [I n, .lst p]] (· = .agg [I n, .lst r]) := by
 have hg := fun (P' : Program) (C' : Cx P' gl) => aIW C' (f := 155) (a0 := [I n, .lst p]) (y := Y) hn (by omega) hr (fun i j s l e u h1 h2 h3 h4 h5 h6 P' C' => by
  have h7 := hY i.toNat j.toNat (by omega) (by omega)
  rw [h5] at h7
  exact aGA C' hp h1 h3 hn4 h2 h4 hyl h6 h7)
 clear hY hp hr hyl
 refine gS C func80 rfl rfl rfl fun A hA hI => ?_
 iterate 2 all_goals try cbv; with_reducible repeat' first | exact ⟨⟩ | apply And.intro | intro _
 all_goals try exact oG
 refine aD hA rfl (hg P C) ?_; rintro _ rfl
 iterate 2 all_goals try cbv; with_reducible repeat' first | exact ⟨⟩ | apply And.intro | intro _
 all_goals try exact oG

theorem aIX {ys : List aC} {d : Nat → Dyadic} {L E : Nat} {n : Int} (h1 : XL d L E ys) (hL : L ≤ 100) (hE : E ≤ 3000) (hn : 0 ≤ n) (hn4 : n ≤ 4) (hyl : (ys.length : Int) = n * n) :
  ∃ ws, (ws.length : Int) = n * n ∧ XL (qR n.toNat d) 150001 9000 ws ∧
   ∀ (P : Program) (gl : List (Nat × Obj)) (p r : List PV), Cx P gl → p = aB ys → r = aB ws → FS P gl 80 [.agg [I n, .lst p]] (· = .agg [I n, .lst r]) := by
 have hnn : n * n = ((n.toNat * n.toNat : Nat) : Int) := by rw [Int.natCast_mul, Int.toNat_of_nonneg hn]
 have hx := h1.mono hL hE
 obtain ⟨Y, hY⟩ := places (n := n.toNat) (Q := fun i j y => X (qR n.toNat d (i * n.toNat + j)) 150001 9000 y ∧ ∀ gl, aDO gl n ys i j y) (by
  intro i j hi hj
  obtain ⟨dt, dx, dc⟩ := pR (n.toNat - 1) (by omega) (aFY (n := n.toNat) (r := j) (c := i) hx (by omega)) (by rw [iO, kS (by omega) hj hi])
  have hd := dx.mono (L' := 150001) (E' := 9000) (by omega) (by omega)
  obtain ⟨y, yx, yc⟩ := aKG hd (by omega) (j + i) (by omega)
  refine ⟨y, ?_, fun gl => ⟨dt, ?_, ?_⟩⟩
  ·have := (kV (n := n.toNat) (i := i) (j := j) (k := i * n.toNat + j) hj).1 rfl
   rw [qR, this.1, this.2]; exact yx
  ·intro P q u n1 C h2 h3 h4
   exact dc P gl q u n1 C (by omega) h3 h4
  ·intro P u v k' C h2 h3 h4
   exact yc P gl u v k' C h2 h3 h4)
 refine ⟨bY Y n.toNat n.toNat, by rw [cP, hnn], pL (fun i j hi hj => (hY i j hi hj).1), ?_⟩
 intro P gl p r C hp hr
 exact aIV C hp hr hn hn4 hyl (fun i j hi hj => (hY i j hi hj).2 gl)

end Tryz
end Go.Proofs

set_option maxHeartbeats 1000000
set_option maxRecDepth 100000
namespace Go.Proofs
open Go Go.Pe Go.Dg
namespace Tryz
set_option linter.unusedSimpArgs false
set_option linter.unusedVariables false
variable {P : Program} {gl : List (Nat × Obj)}

theorem aDP (C : Cx P gl) {i j : Int} {s : Bool} {l : List Int} {e : Int} {r : List PV} (hi : 0 ≤ i) (hj : 0 ≤ j) (hy : (if i.toNat = j.toNat then (false, dg 1, 0) else noY) = ((s, l, e) : aC)) (hr : r = aA l) :
  FS P gl 175 [I i, I j] (· = .agg [B s, .lst r, I e]) := by
 by_cases h : i = j
 ·subst h
  rw [if_pos rfl, Prod.mk.injEq, Prod.mk.injEq] at hy
  obtain ⟨h1, h2, h3⟩ := hy
  subst h1; subst h2; subst h3
  have h1 := fun (P' : Program) (C' : Cx P' gl) => aQS C' hr
  clear hr
  obtain ⟨rfl, hG⟩ := C
  refine eN (args := fun A => [I i, I i]) (R := fun A rr => rr = .agg [B false, .lst r, I 0]) Tryz.hT Tryz.mix Tryz.func175 rfl rfl (Nat.le_of_ble_eq_true rfl) ?_
  generalize hP : Tryz.prog = P
  intro A hA
  have C : Tryz.Cx P gl := ⟨hP.symm, hG⟩
  have hI : aA = A.ints := by subst hA; rfl
  iterate 2 all_goals try cbv; with_reducible repeat' first | exact ⟨⟩ | apply And.intro | intro _
  all_goals try exact oG
  refine aD hA rfl (h1 P C) ?_; rintro _ rfl
  iterate 2 all_goals try cbv; with_reducible repeat' first | exact ⟨⟩ | apply And.intro | intro _
  all_goals try exact oG
 ·rw [if_neg (by omega)] at hy
  have hy' : ((false, [], 0) : aC) = (s, l, e) := hy
  rw [Prod.mk.injEq, Prod.mk.injEq] at hy'
  obtain ⟨h1, h2, h3⟩ := hy'
  subst h1; subst h2; subst h3
  have hr0 : r = [] := hr
  subst hr0
  clear hr hy
  refine gS C func175 rfl rfl rfl fun A hA hI => ?_
  iterate 2 all_goals try cbv; with_reducible repeat' first | exact ⟨⟩ | apply And.intro | intro _
  all_goals try exact oG

theorem aGB (C : Cx P gl) {n : Int} {r : List PV} (hn : 0 ≤ n) (hn4 : n ≤ 4) (hr : r = aB (bY (fun i j => if i = j then (false, dg 1, 0) else noY) n.toNat n.toNat)) :
  FS P gl 98 [I n] (· = .agg [I n, .lst r]) := by
 have hg := fun (P' : Program) (C' : Cx P' gl) => aIZ C' (f := 175) (y := fun i j => if i = j then (false, dg 1, 0) else noY) hn (by omega) hr (fun i j s l e u h1 h2 h3 h4 h5 h6 P' C' => aDP C' h1 h3 h5 h6)
 clear hr
 refine gS C func98 rfl rfl rfl fun A hA hI => ?_
 iterate 2 all_goals try cbv; with_reducible repeat' first | exact ⟨⟩ | apply And.intro | intro _
 all_goals try exact oG
 refine aD hA rfl (hg P C) ?_; rintro _ rfl
 iterate 2 all_goals try cbv; with_reducible repeat' first | exact ⟨⟩ | apply And.intro | intro _
 all_goals try exact oG

theorem pS {n : Int} (hn : 0 ≤ n) (hn4 : n ≤ 4) : ∃ ws, (ws.length : Int) = n * n ∧ XL (idD n.toNat) 1 0 ws ∧
  ∀ (P : Program) (gl : List (Nat × Obj)) (r : List PV), Cx P gl → r = aB ws → FS P gl 98 [I n] (· = .agg [I n, .lst r]) := by
 have hnn : n * n = ((n.toNat * n.toNat : Nat) : Int) := by rw [Int.natCast_mul, Int.toNat_of_nonneg hn]
 refine ⟨bY (fun i j => if i = j then (false, dg 1, 0) else noY) n.toNat n.toNat, by rw [cP, hnn], pL (fun i j hi hj => ?_), fun P gl r C hr => aGB C hn hn4 hr⟩
 obtain ⟨e1, e2⟩ := (kV (n := n.toNat) (i := i) (j := j) (k := i * n.toNat + j) hj).1 rfl
 unfold idD
 rw [e1, e2]
 by_cases h : i = j
 ·simp only [if_pos h]
  exact ⟨1, rfl, rfl, rfl, aT 1 _ (by decide), Nat.le_refl _⟩
 ·simp only [if_neg h]
  exact zE

end Tryz
end Go.Proofs

namespace Go.Proofs
open Go Go.Pe Go.Dg
namespace Tryz
set_option linter.unusedSimpArgs false
set_option linter.unusedVariables false
variable {P : Program} {gl : List (Nat × Obj)}

end Tryz
end Go.Proofs

set_option maxRecDepth 100000
namespace Go.Proofs
open Go Go.Pe Go.Dg
namespace Tryz
set_option linter.unusedSimpArgs false
set_option linter.unusedVariables false
variable {P : Program} {gl : List (Nat × Obj)}

theorem aCK (C : Cx P gl) {l : List Int} {p : List PV} {s b : Bool} {e : Int} (hp : p = aA l) (hb : b = decide (l.length = 0)) : FS P gl 79 [.agg [B s, .lst p, I e]] (· = B b) := by
 refine gS C func79 rfl rfl rfl fun A hA hI => ?_
 iterate 2 all_goals try cbv; with_reducible repeat' first | exact ⟨⟩ | apply And.intro | intro _
 all_goals try exact oH
 have e1 : A.eq (A.cast (A.len p)) 0 = b := by
  rw [hb]; subst hA; subst hp; rw [Bool.eq_iff_iff]; simp [AR.std, bC]
 exact congrArg (fun x => PV.val (.bool x)) e1

end Tryz
end Go.Proofs

namespace Go.Proofs
open Go Go.Pe Go.Dg
namespace Tryz
set_option linter.unusedSimpArgs false
set_option linter.unusedVariables false
variable {P : Program} {gl : List (Nat × Obj)}

end Tryz
end Go.Proofs

namespace Go.Proofs
open Go Go.Pe Go.Dg
namespace Tryz
set_option linter.unusedSimpArgs false
set_option linter.unusedVariables false
variable {P : Program} {gl : List (Nat × Obj)}

end Tryz
end Go.Proofs

namespace Go.Proofs
open Go Go.Pe Go.Dg
namespace Tryz
set_option linter.unusedSimpArgs false
set_option linter.unusedVariables false
variable {P : Program} {gl : List (Nat × Obj)}

end Tryz
end Go.Proofs

set_option maxHeartbeats 1000000
set_option maxRecDepth 100000
namespace Go.Proofs
open Go Go.Pe Go.Dg
namespace Tryz
set_option linter.unusedSimpArgs false
set_option linter.unusedVariables false
variable {P : Program} {gl : List (Nat × Obj)}

theorem aM6 (C : Cx P gl) {d1 d2 d : Dyadic} {s1 s2 u : Bool} {e1 e2 g low m : Int} {p q r : List PV} (hs1 : s1 = decide (cZ d1 < 0)) (hp : p = aA (dg (cZ d1).natAbs)) (he1 : e1 = cE d1)
  (hs2 : s2 = decide (cZ d2 < 0)) (hq : q = aA (dg (cZ d2).natAbs)) (he2 : e2 = cE d2) (h2 : d2 ≠ 0) (f1 : (dg (cZ d1).natAbs).length ≤ 5000 ∧ (cE d1).natAbs ≤ 50000) (f2 : (dg (cZ d2).natAbs).length ≤ 5000 ∧ (cE d2).natAbs ≤ 50000) (hd : d = uY d1 d2 low m) (hu : u = decide (cZ d < 0)) (hr : r = aA (dg (cZ d).natAbs)) (hg : g = cE d)
  (h0 : 0 ≤ m) (h1 : m ≤ 4) (pF : low.natAbs ≤ 1000) :
  FS P gl 73 [.agg [B s1, .lst p, I e1], .agg [B s2, .lst q, I e2], I low, I m] (· = .agg [B u, .lst r, I g]) := by
 obtain ⟨dq, hdq⟩ : ∃ dq, dq = tE d1 d2 low := ⟨_, rfl⟩
 have hb := aDW f1 f2 pF
 rw [← hdq] at hb
 obtain ⟨sq, hsq⟩ : ∃ s, s = decide (cZ dq < 0) := ⟨_, rfl⟩
 obtain ⟨pq, hpq⟩ : ∃ p, p = aA (dg (cZ dq).natAbs) := ⟨_, rfl⟩
 obtain ⟨eq, heq⟩ : ∃ e, e = cE dq := ⟨_, rfl⟩
 obtain ⟨ex, hex⟩ : ∃ ex, ex = decide (dq = 0 ∨ low ≤ eq) := ⟨_, rfl⟩
 have hd' : d = pI dq low m := by rw [hd, hdq, aSZ low m h2]
 have aX8 := fun (P' : Program) (C' : Cx P' gl) => aM5 C' hs1 hp he1 hs2 hq he2 h2 hdq hsq hpq heq (by omega) (by omega) (by omega) (by omega) (by omega)
 have aVV := fun (P' : Program) (C' : Cx P' gl) => aJA C' hsq hpq heq hd' hu hr hg hex h0 h1 (by omega) (by omega) (by omega)
 clear hs1 hp he1 hs2 hq he2 h2 f1 f2 hd hu hr hg hdq hsq hpq heq hex hd' hb
 refine gS C func73 rfl rfl rfl fun A hA hI => ?_
 iterate 2 all_goals try cbv; with_reducible repeat' first | exact ⟨⟩ | apply And.intro | intro _
 all_goals try exact pG
 refine aD hA rfl (aX8 P C) ?_; rintro _ rfl
 iterate 2 all_goals try cbv; with_reducible repeat' first | exact ⟨⟩ | apply And.intro | intro _
 all_goals try exact pG
 refine aD hA rfl (aVV P C) ?_; rintro _ rfl
 iterate 2 all_goals try cbv; with_reducible repeat' first | exact ⟨⟩ | apply And.intro | intro _
 all_goals try exact pG

end Tryz
end Go.Proofs

