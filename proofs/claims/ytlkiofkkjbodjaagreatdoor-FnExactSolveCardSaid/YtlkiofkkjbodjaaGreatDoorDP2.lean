/- Contracts: the law's own helpers on lists of intervals: sizes, equality. -/
import Derived.Test.YtlkiofkkjbodjaaGreatDoorDN41
import Derived.Test.YtlkiofkkjbodjaaGreatDoorDD6
import Derived.Test.YtlkiofkkjbodjaaGreatDoorDN35
import Derived.Test.YtlkiofkkjbodjaaGreatDoorDPeTr
import Derived.Test.YtlkiofkkjbodjaaGreatDoorDL2
import Derived.Test.YtlkiofkkjbodjaaGreatDoorDPeTi
set_option maxHeartbeats 1000000
set_option maxRecDepth 100000
namespace Go.Proofs
open Go Go.Pe Go.Dg
namespace Tryz
set_option linter.unusedSimpArgs false
set_option linter.unusedVariables false
variable {P : Program} {gl : List (Nat × Obj)}

theorem over11_fs (C : Cx P gl) {s1 s2 s ex : Bool} {p q r : List PV} {e1 e2 g low m : Int} (h : ∀ P', Cx P' gl → FS P' gl 110 [.agg [B s1, .lst p, I e1], .agg [B s2, .lst q, I e2], I low, I m] (· = .tup [.agg [B s, .lst r, I g], B ex])) :
  FS P gl 161 [.agg [B s1, .lst p, I e1], .agg [B s2, .lst q, I e2], .ptr [I low] 0, .ptr [I m] 0] (· = .agg [B s, .lst r, I g]) := by
 refine gS C func161 rfl rfl rfl fun A hA hI => ?_
 iterate 2 all_goals try cbv; with_reducible repeat' first | exact ⟨⟩ | apply And.intro | intro _
 all_goals try exact oG
 refine callS hA rfl (h P C) ?_; rintro _ rfl
 iterate 2 all_goals try cbv; with_reducible repeat' first | exact ⟨⟩ | apply And.intro | intro _
 all_goals try exact oG

theorem over1_fs (C : Cx P gl) {s1 s2 t1 t2 : Bool} {p1 p2 q1 q2 l : List PV} {e1 e2 f1 f2 low m : Int}
  (h : ∀ P', Cx P' gl → FS P' gl 160 [.agg [B s1, .lst p1, I e1, B s2, .lst p2, I e2], .agg [B t1, .lst q1, I f1, B t2, .lst q2, I f2], .fn 161 [.ptr [I low] 0, .ptr [I m] 0]] (· = .lst l)) :
  FS P gl 159 [I m, .ptr [B s1, .lst p1, I e1, B s2, .lst p2, I e2] 0, .ptr [B t1, .lst q1, I f1, B t2, .lst q2, I f2] 0, .ptr [I low] 0] (· = .lst l) := by
 refine gS C func159 rfl rfl rfl fun A hA hI => ?_
 iterate 2 all_goals try cbv; with_reducible repeat' first | exact ⟨⟩ | apply And.intro | intro _
 all_goals try exact oG
 refine callS hA rfl (h P C) ?_; rintro _ rfl
 iterate 2 all_goals try cbv; with_reducible repeat' first | exact ⟨⟩ | apply And.intro | intro _
 all_goals try exact oG

theorem spanOver_fs (C : Cx P gl) {s1 s2 t1 t2 u v : Bool} {p1 p2 q1 q2 l3 l2 r x : List PV} {e1 e2 f1 f2 g h low : Int}
  (h3 : ∀ P', Cx P' gl → FS P' gl 159 [I 3, .ptr [B s1, .lst p1, I e1, B s2, .lst p2, I e2] 0, .ptr [B t1, .lst q1, I f1, B t2, .lst q2, I f2] 0, .ptr [I low] 0] (· = .lst l3))
  (h2 : ∀ P', Cx P' gl → FS P' gl 159 [I 2, .ptr [B s1, .lst p1, I e1, B s2, .lst p2, I e2] 0, .ptr [B t1, .lst q1, I f1, B t2, .lst q2, I f2] 0, .ptr [I low] 0] (· = .lst l2))
  (k3 : ∀ P', Cx P' gl → FS P' gl 162 [.lst l3] (· = .agg [B u, .lst r, I g])) (k2 : ∀ P', Cx P' gl → FS P' gl 163 [.lst l2] (· = .agg [B v, .lst x, I h])) :
  FS P gl 85 [.agg [B s1, .lst p1, I e1, B s2, .lst p2, I e2], .agg [B t1, .lst q1, I f1, B t2, .lst q2, I f2], I low] (· = .agg [B u, .lst r, I g, B v, .lst x, I h]) := by
 refine gS C func85 rfl rfl rfl fun A hA hI => ?_
 iterate 2 all_goals try cbv; with_reducible repeat' first | exact ⟨⟩ | apply And.intro | intro _
 all_goals try exact oG
 refine callS hA rfl (h3 P C) ?_; rintro _ rfl
 iterate 2 all_goals try cbv; with_reducible repeat' first | exact ⟨⟩ | apply And.intro | intro _
 all_goals try exact oG
 refine callS hA rfl (k3 P C) ?_; rintro _ rfl
 iterate 2 all_goals try cbv; with_reducible repeat' first | exact ⟨⟩ | apply And.intro | intro _
 all_goals try exact oG
 refine callS hA rfl (h2 P C) ?_; rintro _ rfl
 iterate 2 all_goals try cbv; with_reducible repeat' first | exact ⟨⟩ | apply And.intro | intro _
 all_goals try exact oG
 refine callS hA rfl (k2 P C) ?_; rintro _ rfl
 iterate 2 all_goals try cbv; with_reducible repeat' first | exact ⟨⟩ | apply And.intro | intro _
 all_goals try exact oG

end Tryz
end Go.Proofs

set_option maxHeartbeats 1000000
set_option maxRecDepth 100000
namespace Go.Proofs
open Go Go.Pe Go.Dg
namespace Tryz
set_option linter.unusedSimpArgs false
set_option linter.unusedVariables false
variable {P : Program} {gl : List (Nat × Obj)}

theorem l4divB_fs (C : Cx P gl) {d1 d2 d : Dyadic} {s1 s2 u : Bool} {e1 e2 g low m : Int} {p q r : List PV} (hs1 : s1 = decide (cZ d1 < 0)) (hp : p = intsL (dg (cZ d1).natAbs)) (he1 : e1 = cE d1)
  (hs2 : s2 = decide (cZ d2 < 0)) (hq : q = intsL (dg (cZ d2).natAbs)) (he2 : e2 = cE d2) (h2 : d2 ≠ 0) (f1 : (dg (cZ d1).natAbs).length ≤ 5000 ∧ (cE d1).natAbs ≤ 50000) (f2 : (dg (cZ d2).natAbs).length ≤ 5000 ∧ (cE d2).natAbs ≤ 50000) (hd : d = divD d1 d2 low m) (hu : u = decide (cZ d < 0)) (hr : r = intsL (dg (cZ d).natAbs)) (hg : g = cE d)
  (h0 : 0 ≤ m) (h1 : m ≤ 4) (hlow : low.natAbs ≤ 1000) :
  FS P gl 73 [.agg [B s1, .lst p, I e1], .agg [B s2, .lst q, I e2], I low, I m] (· = .agg [B u, .lst r, I g]) := by
 obtain ⟨dq, hdq⟩ : ∃ dq, dq = quotD d1 d2 low := ⟨_, rfl⟩
 have hb := quot_boundsB f1 f2 hlow
 rw [← hdq] at hb
 obtain ⟨sq, hsq⟩ : ∃ s, s = decide (cZ dq < 0) := ⟨_, rfl⟩
 obtain ⟨pq, hpq⟩ : ∃ p, p = intsL (dg (cZ dq).natAbs) := ⟨_, rfl⟩
 obtain ⟨eq, heq⟩ : ∃ e, e = cE dq := ⟨_, rfl⟩
 obtain ⟨ex, hex⟩ : ∃ ex, ex = decide (dq = 0 ∨ low ≤ eq) := ⟨_, rfl⟩
 have hd' : d = roundD dq low m := by rw [hd, hdq, div_law low m h2]
 have hquot := fun (P' : Program) (C' : Cx P' gl) => l4quot_fs C' hs1 hp he1 hs2 hq he2 h2 hdq hsq hpq heq (by omega) (by omega) (by omega) (by omega) (by omega)
 have hround := fun (P' : Program) (C' : Cx P' gl) => l4round_fs C' hsq hpq heq hd' hu hr hg hex h0 h1 (by omega) (by omega) (by omega)
 clear hs1 hp he1 hs2 hq he2 h2 f1 f2 hd hu hr hg hdq hsq hpq heq hex hd' hb
 refine gS C func73 rfl rfl rfl fun A hA hI => ?_
 iterate 2 all_goals try cbv; with_reducible repeat' first | exact ⟨⟩ | apply And.intro | intro _
 all_goals try exact pG
 refine callS hA rfl (hquot P C) ?_; rintro _ rfl
 iterate 2 all_goals try cbv; with_reducible repeat' first | exact ⟨⟩ | apply And.intro | intro _
 all_goals try exact pG
 refine callS hA rfl (hround P C) ?_; rintro _ rfl
 iterate 2 all_goals try cbv; with_reducible repeat' first | exact ⟨⟩ | apply And.intro | intro _
 all_goals try exact pG

theorem xOverX {a b : Dyadic} {y1 y2 : Cell3} {L E L2 E2 : Nat} {low m : Int} (h1 : X a L E y1) (h2 : X b L2 E2 y2) (h0 : b ≠ 0) (hb : low.natAbs ≤ 300) (hL : L ≤ 400000) (hE : E ≤ 50000) (hL2 : L2 ≤ 400000) (hE2 : E2 ≤ 50000) :
  ∃ (y : Cell3) (ex : Bool), X (divD a b low m) 410000 300 y ∧
   ∀ (P : Program) (gl : List (Nat × Obj)) (p q r : List PV), Cx P gl → p = intsL y1.2.1 → q = intsL y2.2.1 → r = intsL y.2.1 → FS P gl 110 [.agg [B y1.1, .lst p, I y1.2.2], .agg [B y2.1, .lst q, I y2.2.2], I low, I m] (· = .tup [.agg [B y.1, .lst r, I y.2.2], B ex]) := by
 obtain ⟨z1, a1, a2, a3, a4, a5⟩ := h1
 obtain ⟨z2, b1, b2, b3, b4, b5⟩ := h2
 have hz2 : z2 ≠ 0 := fun h => h0 (by rw [b3, h, mk_zero])
 obtain ⟨z, hz⟩ : ∃ z, z = zover z1 z2 (y1.2.2 - y2.2.2 - low) m := ⟨_, rfl⟩
 have h3 := zover_len z1 z2 (y1.2.2 - y2.2.2 - low) m
 rw [← hz] at h3
 have hd : mk z low = divD a b low m := by
  unfold divD
  by_cases h : z1 = 0
  ·have e : a = 0 := by rw [a3, h, mk_zero]
   rw [hz, h, zoverN, e, cZ_zero, zoverN]
  ·rw [hz, a3, b3, (zover_form h hz2).1]
 refine ⟨(decide (z < 0), dg z.natAbs, low), decide (z1.natAbs * 2 ^ (y1.2.2 - y2.2.2 - low).toNat % (z2.natAbs * 2 ^ (-(y1.2.2 - y2.2.2 - low)).toNat) = 0), ⟨z, rfl, rfl, hd.symm, by omega, hb⟩, ?_⟩
 intro P gl p q r C hp hq hr
 exact over_fs C (by rw [hp, a2]) (by rw [hq, b2]) a1 b1 hz2 hz hr rfl rfl (by omega) (by omega) (by omega) (by omega) (by omega)

theorem spanOverX_ex {a b : Dyadic} {y1 y2 : Cell3} {L E L2 E2 : Nat} {low : Int} (h1 : X a L E y1) (h2 : X b L2 E2 y2) (h0 : b ≠ 0) (hb : low.natAbs ≤ 300) (hL : L ≤ 400000) (hE : E ≤ 50000) (hL2 : L2 ≤ 400000) (hE2 : E2 ≤ 50000) :
  ∃ u1 u2 : Cell3, X (divD a b low 3) 410000 300 u1 ∧ X (divD a b low 2) 410000 300 u2 ∧
   ∀ (P : Program) (gl : List (Nat × Obj)) (p q r x : List PV), Cx P gl → p = intsL y1.2.1 → q = intsL y2.2.1 → r = intsL u1.2.1 → x = intsL u2.2.1 →
    FS P gl 85 [.agg [B y1.1, .lst p, I y1.2.2, B y1.1, .lst p, I y1.2.2], .agg [B y2.1, .lst q, I y2.2.2, B y2.1, .lst q, I y2.2.2], I low]
     (· = .agg [B u1.1, .lst r, I u1.2.2, B u2.1, .lst x, I u2.2.2]) := by
 obtain ⟨u1, x1, k1, c1⟩ := xOverX (low := low) (m := 3) h1 h2 h0 hb hL hE hL2 hE2
 obtain ⟨u2, x2, k2, c2⟩ := xOverX (low := low) (m := 2) h1 h2 h0 hb hL hE hL2 hE2
 have four : ∀ (u : Cell3), ∀ k, k < 4 → [u, u, u, u].getD k noY = u := by
  intro u k hk
  rcases (by omega : k = 0 ∨ k = 1 ∨ k = 2 ∨ k = 3) with rfl | rfl | rfl | rfl <;> rfl
 refine ⟨u1, u2, k1, k2, ?_⟩
 intro P gl p q r x C hp hq hr hx
 obtain ⟨l3, hl3⟩ : ∃ l, l = cells3 [u1, u1, u1, u1] := ⟨_, rfl⟩
 obtain ⟨l2, hl2⟩ : ∃ l, l = cells3 [u2, u2, u2, u2] := ⟨_, rfl⟩
 have xl1 : XL (fun _ => divD a b low 3) 410000 300 [u1, u1, u1, u1] := fun k hk => by rw [four u1 k hk]; exact k1
 have xl2 : XL (fun _ => divD a b low 2) 410000 300 [u2, u2, u2, u2] := fun k hk => by rw [four u2 k hk]; exact k2
 have m1 := amin_le (fun _ => divD a b low 3) 3
 have m2 := amax_le (fun _ => divD a b low 2) 3
 have g1 := four u1 (amin (fun _ => divD a b low 3) 3) (by omega)
 have g2 := four u2 (amax (fun _ => divD a b low 2) 3) (by omega)
 have w3 := fun (P' : Program) (C' : Cx P' gl) => over1_fs C' (m := 3) (l := l3) (fun P2 C2 => by
  have h := ends2_fs C2 (f := 161) (a0 := [I low]) (a1 := [I 3]) (h0 := fun P3 C3 => over11_fs C3 (fun P4 C4 => c1 P4 gl _ _ _ C4 hp hq rfl)) (h1 := fun P3 C3 => over11_fs C3 (fun P4 C4 => c1 P4 gl _ _ _ C4 hp hq rfl))
   (h2 := fun P3 C3 => over11_fs C3 (fun P4 C4 => c1 P4 gl _ _ _ C4 hp hq rfl)) (h3 := fun P3 C3 => over11_fs C3 (fun P4 C4 => c1 P4 gl _ _ _ C4 hp hq rfl))
  rw [hl3]
  exact h)
 have w2 := fun (P' : Program) (C' : Cx P' gl) => over1_fs C' (m := 2) (l := l2) (fun P2 C2 => by
  have h := ends2_fs C2 (f := 161) (a0 := [I low]) (a1 := [I 2]) (h0 := fun P3 C3 => over11_fs C3 (fun P4 C4 => c2 P4 gl _ _ _ C4 hp hq rfl)) (h1 := fun P3 C3 => over11_fs C3 (fun P4 C4 => c2 P4 gl _ _ _ C4 hp hq rfl))
   (h2 := fun P3 C3 => over11_fs C3 (fun P4 C4 => c2 P4 gl _ _ _ C4 hp hq rfl)) (h3 := fun P3 C3 => over11_fs C3 (fun P4 C4 => c2 P4 gl _ _ _ C4 hp hq rfl))
  rw [hl2]
  exact h)
 exact spanOver_fs C w3 w2
  (fun P' C' => leastN_fs C' hl3 xl1 (by omega) (by omega) (show 1 ≤ 4 by omega) (show 4 ≤ 1000 by omega) (by show _ = ([u1, u1, u1, u1].getD (amin (fun _ => divD a b low 3) 3) noY).1; rw [g1]) (by show _ = intsL ([u1, u1, u1, u1].getD (amin (fun _ => divD a b low 3) 3) noY).2.1; rw [g1]; exact hr) (by show _ = ([u1, u1, u1, u1].getD (amin (fun _ => divD a b low 3) 3) noY).2.2; rw [g1]))
  (fun P' C' => mostN_fs C' hl2 xl2 (by omega) (by omega) (show 1 ≤ 4 by omega) (show 4 ≤ 1000 by omega) (by show _ = ([u2, u2, u2, u2].getD (amax (fun _ => divD a b low 2) 3) noY).1; rw [g2]) (by show _ = intsL ([u2, u2, u2, u2].getD (amax (fun _ => divD a b low 2) 3) noY).2.1; rw [g2]; exact hx) (by show _ = ([u2, u2, u2, u2].getD (amax (fun _ => divD a b low 2) 3) noY).2.2; rw [g2]))

end Tryz
end Go.Proofs

set_option maxHeartbeats 1000000
set_option maxRecDepth 100000
namespace Go.Proofs
open Go Go.Pe Go.Dg
namespace Tryz
set_option linter.unusedSimpArgs false
set_option linter.unusedVariables false
variable {P : Program} {gl : List (Nat × Obj)}

theorem eqIvS_fs (C : Cx P gl) {vs : List Cell6} {p : List PV} (hp : p = cells6 vs) (hl : vs.length ≤ 2000000) (hy : ∀ v ∈ vs, v.1.2.1.length ≤ 2000000 ∧ v.2.2.1.length ≤ 2000000) : FS P gl 26 [.lst p, .lst p] (· = B true) := by
 refine gS C func26 rfl rfl rfl fun A hA hI => ?_
 iterate 2 all_goals try cbv; with_reducible repeat' first | exact ⟨⟩ | apply And.intro | intro _
 all_goals try exact oI
 refine loopI hA [] (ι := Int) (fun x => [(5, .pv (I x))]) (fun x => []) (fun x => (vs.length - x).toNat) (fun x => 0 ≤ x ∧ x ≤ vs.length) 0 (by rfl) ?_ ?_ ?_
 all_goals try exact tI
 ·omega
 rintro i ⟨hi0, hi1⟩
 iterate 2 all_goals try cbv; with_reducible repeat' first | exact ⟨⟩ | apply And.intro | intro _
 all_goals try exact oI
 ·rename_i g
  have gi : i < vs.length := by (subst hA; subst_vars; simp only [AR.std, natCast_eq, sI, reduceCtorEq] at *; try simp (disch := omega) only [AR.std, natCast_eq, sI, reduceCtorEq] at *); omega
  obtain ⟨hyl, hym⟩ := hy _ (getV_mem (show i.toNat < vs.length by omega))
  have h1l : A.gl (A.el p (A.nat i)) 1 = intsL (vs.getD i.toNat noV).1.2.1 := by (subst hA; subst_vars; simp only [AR.std, natCast_eq, sI, reduceCtorEq] at *; try simp (disch := omega) only [AR.std, natCast_eq, sI, reduceCtorEq] at *)
  have h1b : A.gb (A.el p (A.nat i)) 0 = (vs.getD i.toNat noV).1.1 := by clear h1l; (subst hA; subst_vars; simp only [AR.std, natCast_eq, sI, reduceCtorEq] at *; try simp (disch := omega) only [AR.std, natCast_eq, sI, reduceCtorEq] at *)
  have h1e : A.gi (A.el p (A.nat i)) 2 = (vs.getD i.toNat noV).1.2.2 := by clear h1l h1b; (subst hA; subst_vars; simp only [AR.std, natCast_eq, sI, reduceCtorEq] at *; try simp (disch := omega) only [AR.std, natCast_eq, sI, reduceCtorEq] at *)
  have h2l : A.gl (A.el p (A.nat i)) 4 = intsL (vs.getD i.toNat noV).2.2.1 := by clear h1l h1b h1e; (subst hA; subst_vars; simp only [AR.std, natCast_eq, sI, reduceCtorEq] at *; try simp (disch := omega) only [AR.std, natCast_eq, sI, reduceCtorEq] at *)
  have h2b : A.gb (A.el p (A.nat i)) 3 = (vs.getD i.toNat noV).2.1 := by clear h1l h1b h1e h2l; (subst hA; subst_vars; simp only [AR.std, natCast_eq, sI, reduceCtorEq] at *; try simp (disch := omega) only [AR.std, natCast_eq, sI, reduceCtorEq] at *)
  have h2e : A.gi (A.el p (A.nat i)) 5 = (vs.getD i.toNat noV).2.2.2 := by clear h1l h1b h1e h2l h2b; (subst hA; subst_vars; simp only [AR.std, natCast_eq, sI, reduceCtorEq] at *; try simp (disch := omega) only [AR.std, natCast_eq, sI, reduceCtorEq] at *)
  refine callS hA rfl (eqIv_fs C h1l h2l hyl hym) ?_; rintro _ rfl
  clear h1l h1b h1e h2l h2b h2e
  iterate 2 all_goals try cbv; with_reducible repeat' first | exact ⟨⟩ | apply And.intro | intro _
  all_goals try exact oI
  obtain ⟨y1, hy1⟩ : ∃ y, y = i + 1 := ⟨_, rfl⟩
  refine ⟨⟨y1, ?_⟩, ?_, ?_⟩
  rotate_left
  ·cbv
   exact nI
  ·(subst hA; subst_vars; simp only [AR.std, natCast_eq, sI, reduceCtorEq] at *; try simp (disch := omega) only [AR.std, natCast_eq, sI, reduceCtorEq] at *); omega
  ·rw [hy1]; (subst hA; subst_vars; simp only [AR.std, natCast_eq, sI, reduceCtorEq] at *; try simp (disch := omega) only [AR.std, natCast_eq, sI, reduceCtorEq] at *); omega

end Tryz
end Go.Proofs

