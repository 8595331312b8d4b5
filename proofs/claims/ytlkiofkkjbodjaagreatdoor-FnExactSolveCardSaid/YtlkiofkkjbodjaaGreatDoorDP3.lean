/- Contracts: the law's own helpers on lists of intervals: marks. -/
import Derived.Test.YtlkiofkkjbodjaaGreatDoorDM1
import Derived.Test.YtlkiofkkjbodjaaGreatDoorDPeTi
set_option maxHeartbeats 4000000
set_option maxRecDepth 100000
namespace Go.Proofs
open Go Go.Pe Go.Dg
namespace Tryz
set_option linter.unusedSimpArgs false
set_option linter.unusedVariables false
variable {P : Program} {gl : List (Nat × Obj)}

def mk6P (A : AR) (t : List PV) (vs : List Cell6) (i : Int) (v : Cell6) (q r1 r2 r4 r5 : Int) (n m : Nat) (b1 b2 : Bool) : Prop :=
 ∃ t1 t2 t3 t4 t5 l1 l2 : List PV, l1 = intsL (up1 r1 n) ∧ l2 = intsL (up1 r4 m) ∧
   A.valc (A.el t (A.nat i)) 0 1 ∧ A.set t (A.nat i) (A.setc (A.el t (A.nat i)) 0 [.val (.bool b1)]) = t1 ∧
   A.isl (A.el t1 (A.nat i)) 1 ∧ cellAt (t1.getD (A.nat i) D0) 1 = .lst (intsL v.1.2.1) ∧ (v.1.2.1 = [] → t2 = t1) ∧ t2 = t1.set (A.nat i) (setCells (t1.getD (A.nat i) D0) 1 [.lst l1]) ∧
   A.valc (A.el t2 (A.nat i)) 2 1 ∧ A.set t2 (A.nat i) (A.setc (A.el t2 (A.nat i)) 2 [.val (.int .i64 r2)]) = t3 ∧
   A.valc (A.el t3 (A.nat i)) 3 1 ∧ A.set t3 (A.nat i) (A.setc (A.el t3 (A.nat i)) 3 [.val (.bool b2)]) = t4 ∧
   A.isl (A.el t4 (A.nat i)) 4 ∧ cellAt (t4.getD (A.nat i) D0) 4 = .lst (intsL v.2.2.1) ∧ (v.2.2.1 = [] → t5 = t4) ∧ t5 = t4.set (A.nat i) (setCells (t4.getD (A.nat i) D0) 4 [.lst l2]) ∧
   A.valc (A.el t5 (A.nat i)) 5 1 ∧ A.set t5 (A.nat i) (A.setc (A.el t5 (A.nat i)) 5 [.val (.int .i64 r5)]) = t.set i.toNat (cell6 (mark6 q n m)) ∧
   A.len t = vs.length ∧ A.len t1 = A.len t ∧ A.len t2 = A.len t ∧ A.len t3 = A.len t ∧ A.len t4 = A.len t ∧ A.len t5 = A.len t ∧ A.nat i < t1.length ∧ A.nat i < t4.length

theorem mk6_A {A : AR} (hA : A = AR.std) {t : List PV} {vs zs : List Cell6} {i : Int} {v : Cell6} {q r1 r2 r3 r4 r5 : Int} {n m : Nat} (b1 b2 : Bool) (ht : t = cells6 zs) (hz : zs.length = vs.length) (hi0 : 0 ≤ i) (hi : i < vs.length) (hv : zs.getD i.toNat noV = v)
  (h1 : b1 = decide (q % 3 = 0)) (h2 : b2 = decide (r3 % 3 = 0)) (hn : n = v.1.2.1.length) (hm : m = v.2.2.1.length) (hr1 : r1 = q + 1) (hr2 : r2 = r1 + (n : Int)) (hr3 : r3 = r2 + 1) (hr4 : r4 = r3 + 1) (hr5 : r5 = r4 + (m : Int)) :
  mk6P A t vs i v q r1 r2 r4 r5 n m b1 b2 := by
 obtain ⟨t1, t2, t3, t4, t5, l1, l2, e1, e2, ⟨a1, a2⟩, ⟨a3, a4, a5⟩, ⟨a6, a7⟩, ⟨a8, a9⟩, ⟨a10, a11, a12⟩, ⟨a13, a14⟩, y0, y1, y2, y3, y4, y5⟩ := mk6_steps (q := q) b1 b2 ht hz (show i.toNat < vs.length by omega) hv h1 (by rw [h2, hr3, hr2, hr1, hn]; congr 2; omega)
 rw [← hn] at e1 a7 a14 e2
 rw [← hm] at e2 a14
 rw [show q + 1 = r1 from hr1.symm, show r1 + (n : Int) = r2 from hr2.symm] at a7
 rw [show q + 1 = r1 from hr1.symm] at e1
 rw [show q + 2 + (n : Int) + 1 = r4 by omega] at e2 a14
 rw [show r4 + (m : Int) = r5 from hr5.symm] at a14
 refine ⟨t1, t2, t3, t4, t5, l1, l2, e1, e2, ?_⟩
 subst hA
 exact ⟨a1, a2, ⟨_, a3⟩, a3, a4, a5, a6, a7, a8, a9, ⟨_, a10⟩, a10, a11, a12, a13, a14, y0, by rw [show AR.std.len t1 = t1.length from rfl, y1, ← y0]; rfl, by rw [show AR.std.len t2 = t2.length from rfl, y2, ← y0]; rfl, by rw [show AR.std.len t3 = t3.length from rfl, y3, ← y0]; rfl,
  by rw [show AR.std.len t4 = t4.length from rfl, y4, ← y0]; rfl, by rw [show AR.std.len t5 = t5.length from rfl, y5, ← y0]; rfl, by show i.toNat < _; omega, by show i.toNat < _; omega⟩

theorem markIvS_fx (C : Cx P gl) {vs : List Cell6} {p r : List PV} {k z : Int} (hp : p = cells6 vs) (hr : r = cells6 (mkL6 vs k)) (hz : z = k + 4 * vs.length + tot6 vs) (hl : vs.length ≤ 2000000) (ht : tot6 vs ≤ 2000000) (hk0 : 0 ≤ k) (hk : k ≤ 50000000) :
  FX P gl 31 [.tree 110 6 3 p] [.own 0, .pv (I k)] (fun own rr => own = [.tree 110 6 3 r] ∧ rr = .pv (I z)) := by
 refine gX C func31 rfl rfl rfl fun A hA hI => ?_
 iterate 2 all_goals try cbv; with_reducible repeat' first | exact ⟨⟩ | apply And.intro | intro _
 all_goals try exact oI
 refine loopI hA [] (ι := Int × Int × List PV) (fun x => [(0, .own 0), (1, .pv (I x.2.1)), (5, .pv (I x.1))]) (fun x => [(0, .tree 110 6 3 x.2.2)]) (fun x => (vs.length - x.1).toNat) (fun x => mkI6 vs k x.1 x.2.1 x.2.2) (0, k, p) (by rfl) ?_ ?_ ?_
 all_goals try exact tI
 ·rw [hp]; exact mkI6_zero vs k
 rintro ⟨i, q, t⟩ hinv
 simp only at hinv
 have hnext := fun hi => mkI6_next hinv hi
 have hexit := fun hi => mkI6_exit hinv hi
 have hget := fun hi => mkI6_get hinv hi
 obtain ⟨hi0, hi1, hq, _⟩ := id hinv
 obtain ⟨hq1, hq2⟩ := koff6_le (vs := vs) (k := k) (show i.toNat ≤ vs.length by omega)
 rw [← hq] at hq1 hq2
 have htl : t.length = vs.length := by
  rw [hinv.2.2.2, c6len, List.length_append, List.length_take, List.length_drop, mkL6_len]
  omega
 clear hq hinv
 obtain ⟨v, hv⟩ : ∃ v, v = vs.getD i.toNat noV := ⟨_, rfl⟩
 have hnm : v.1.2.1.length ≤ 2000000 ∧ v.2.2.1.length ≤ 2000000 := by
  rcases Nat.lt_or_ge i.toNat vs.length with h | h
  ·have := tot6_get h
   rw [← hv, dig6] at this
   omega
  ·rw [hv, List.getD, List.getElem?_eq_none h]; simp [noV, noY]
 obtain ⟨hnm1, hnm2⟩ := hnm
 simp only [← hv] at hnext hget
 obtain ⟨n, hn⟩ : ∃ n, n = v.1.2.1.length := ⟨_, rfl⟩
 obtain ⟨m, hm⟩ : ∃ n, n = v.2.2.1.length := ⟨_, rfl⟩
 obtain ⟨r1, hr1⟩ : ∃ r1, r1 = q + 1 := ⟨_, rfl⟩
 obtain ⟨r2, hr2⟩ : ∃ r2, r2 = r1 + (n : Int) := ⟨_, rfl⟩
 obtain ⟨r3, hr3⟩ : ∃ r3, r3 = r2 + 1 := ⟨_, rfl⟩
 obtain ⟨r4, hr4⟩ : ∃ r4, r4 = r3 + 1 := ⟨_, rfl⟩
 obtain ⟨r5, hr5⟩ : ∃ r5, r5 = r4 + (m : Int) := ⟨_, rfl⟩
 obtain ⟨r6, hr6⟩ : ∃ r6, r6 = r5 + 1 := ⟨_, rfl⟩
 obtain ⟨b, hb⟩ : ∃ b, b = decide (q % 3 = 0) := ⟨_, rfl⟩
 obtain ⟨b2, hbb2⟩ : ∃ b, b = decide (r3 % 3 = 0) := ⟨_, rfl⟩
 have b5 : 0 ≤ q ∧ q ≤ 60000000 := by omega
 have b6 : 0 ≤ r1 ∧ r1 ≤ 60000001 := by omega
 have b7 : 0 ≤ r2 ∧ r2 ≤ 63000000 ∧ 0 ≤ r3 ∧ r3 ≤ 63000000 := by omega
 have b4 : 0 ≤ r4 := by omega
 have b8 : r4 ≤ 64000000 ∧ 0 ≤ r5 ∧ r5 ≤ 67000000 := by omega
 have e6 : q + 4 + (dig6 v : Int) = r6 := by unfold dig6; omega
 have heq : ∀ x : Int, 0 ≤ x → A.eq (A.rem .i64 x 3) 0 = decide (x % 3 = 0) := by
  intro x hx
  subst hA
  simp only [AR.std]
  rw [Int.tmod_eq_emod_of_nonneg hx]
  by_cases h3 : x % 3 = 0 <;> simp [h3]
 have hbb : A.eq (A.rem .i64 q 3) 0 = b := by rw [hb]; exact heq q b5.1
 have hb2 : A.eq (A.rem .i64 r3 3) 0 = b2 := by rw [hbb2]; exact heq r3 b7.2.2.1
 have hr1' : A.add .i64 q 1 = r1 := by rw [hr1]; subst hA; exact wrapi (by omega) (by omega)
 have he3 : A.add .i64 r2 1 = r3 := by rw [hr3]; subst hA; exact wrapi (by omega) (by omega)
 have he4 : A.add .i64 r3 1 = r4 := by rw [hr4]; subst hA; exact wrapi (by omega) (by omega)
 have he6 : A.add .i64 r5 1 = r6 := by rw [hr6]; subst hA; exact wrapi (by omega) (by omega)
 clear heq
 have hel : ∀ _ : Unit, i < vs.length → mk6P A t vs i v q r1 r2 r4 r5 n m b b2 := by
  intro _ hi
  obtain ⟨zs, y1, y2, y3⟩ := hget hi
  exact mk6_A hA b b2 y1 y2 hi0 hi y3 hb hbb2 hn hm hr1 hr2 hr3 hr4 hr5
 have hi' : ∀ _ : Unit, A.lt i (A.cast (A.len t)) = true → i < vs.length := by
  intro _ h; clear hel hbb hb2 hr1' he3 he4 he6 hb hbb2 hn hm hnext hexit hget; (subst hA; subst_vars; simp only [AR.std, natCast_eq, sI, reduceCtorEq] at *; try simp (disch := omega) only [AR.std, natCast_eq, sI, reduceCtorEq] at *); omega
 have hge : ∀ _ : Unit, A.lt i (A.cast (A.len t)) = false → vs.length ≤ i := by
  intro _ h; clear hel hbb hb2 hr1' he3 he4 he6 hb hbb2 hn hm hnext hexit hget hi'; (subst hA; subst_vars; simp only [AR.std, natCast_eq, sI, reduceCtorEq] at *; try simp (disch := omega) only [AR.std, natCast_eq, sI, reduceCtorEq] at *); omega
 clear hget hb hbb2
 iterate 2 all_goals try cbv; with_reducible repeat' first | exact ⟨⟩ | apply And.intro | intro _
 all_goals try exact oI
 ·rename_i g
  obtain ⟨t1, t2, t3, t4, t5, l1, l2, f1, f2, v0, s0, i1, c1, n1, w1, v2, s2, v3, s3, i4, c4, n4, w4, v5, s5, z0, z1, z2, z3, z4, z5, k1, k4⟩ := hel () (hi' () g)
  exact v0
 ·rename_i g
  obtain ⟨t1, t2, t3, t4, t5, l1, l2, f1, f2, v0, s0, i1, c1, n1, w1, v2, s2, v3, s3, i4, c4, n4, w4, v5, s5, z0, z1, z2, z3, z4, z5, k1, k4⟩ := hel () (hi' () g)
  simp only [hr1', hbb, s0]
  exact i1
 ·rename_i g gn
  obtain ⟨t1, t2, t3, t4, t5, l1, l2, f1, f2, v0, s0, i1, c1, n1, w1, v2, s2, v3, s3, i4, c4, n4, w4, v5, s5, z0, z1, z2, z3, z4, z5, k1, k4⟩ := hel () (hi' () g)
  try simp only [natCast_eq] at hr2
  try simp only [natCast_eq] at hr5
  have hnx := hnext (hi' () g)
  rw [← hn, ← hm, e6, ← s5] at hnx
  obtain ⟨t9, ht9⟩ : ∃ t9, t9 = A.set t5 (A.nat i) (A.setc (A.el t5 (A.nat i)) 5 [.val (.int .i64 r5)]) := ⟨_, rfl⟩
  rw [← ht9] at hnx
  rw [← ht9] at s5
  have s5 := ht9.symm
  simp only [hr1', hbb, s0] at gn ⊢
  have gn' : intsL v.1.2.1 = [] := by
   have : cellAt (t1.getD i.toNat D0) 1 = .lst [] := by subst hA; exact gn
   have c1' : cellAt (t1.getD i.toNat D0) 1 = .lst (intsL v.1.2.1) := by subst hA; exact c1
   rw [c1'] at this
   exact PV.lst.inj this
  have hn0 : n = 0 := by rw [hn, ← ints_len, gn']; rfl
  have e12 : t2 = t1 := n1 (by cases hvv : v.1.2.1 with | nil => rfl | cons x y => rw [hvv] at gn'; cases gn')
  have er2 : r2 = r1 := by omega
  subst e12
  subst er2
  clear gn gn' n1 w1 c1 hn0 hel hi' hge hexit hnext hbb v0 s0 i1 f1
  iterate 2 all_goals try cbv; with_reducible repeat' first | exact ⟨⟩ | apply And.intro | intro _
  all_goals try exact oI
  all_goals try simp only [hr1']
  refine callS hA rfl (markIntS0_fs C) ?_; rintro _ rfl
  iterate 2 all_goals try cbv; with_reducible repeat' first | exact ⟨⟩ | apply And.intro | intro _
  all_goals try exact oI
  all_goals try simp only [s2, he3, hb2, s3, he4]
  all_goals try first | exact v2 | exact v3 | exact i4
  ·rename_i gn
   try simp only [s2, he3, hb2, s3, he4] at gn
   have gn' : intsL v.2.2.1 = [] := by
    have : cellAt (t4.getD i.toNat D0) 4 = .lst [] := by subst hA; exact gn
    have c4' : cellAt (t4.getD i.toNat D0) 4 = .lst (intsL v.2.2.1) := by subst hA; exact c4
    rw [c4'] at this
    exact PV.lst.inj this
   have hm0 : m = 0 := by rw [hm, ← ints_len, gn']; rfl
   have e45 : t5 = t4 := n4 (by cases hvv : v.2.2.1 with | nil => rfl | cons x y => rw [hvv] at gn'; cases gn')
   try simp only [natCast_eq] at hr5
   have er5 : r5 = r4 := by omega
   subst e45
   subst er5
   clear gn gn' n4 w4 c4 v2 s2 v3 s3 i4 hm hm0
   iterate 2 all_goals try cbv; with_reducible repeat' first | exact ⟨⟩ | apply And.intro | intro _
   all_goals try exact oI
   all_goals try simp only [he4]
   refine callS hA rfl (markIntS0_fs C) ?_; rintro _ rfl
   iterate 2 all_goals try cbv; with_reducible repeat' first | exact ⟨⟩ | apply And.intro | intro _
   all_goals try exact oI
   all_goals try simp only [s5, he6]
   all_goals try exact v5
   clear v5 s5 he3 he4 hb2
   obtain ⟨y1, hy1⟩ : ∃ y, y = i + 1 := ⟨_, rfl⟩
   obtain ⟨y2, hy2⟩ : ∃ y, y = r6 := ⟨_, rfl⟩
   obtain ⟨y3, hy3⟩ : ∃ y, y = t9 := ⟨_, rfl⟩
   refine ⟨⟨(y1, y2, y3), ?_⟩, ?_, ?_⟩
   rotate_left
   ·cbv
    exact nI
   ·(subst hA; subst_vars; simp only [AR.std, natCast_eq, sI, reduceCtorEq] at *; try simp (disch := omega) only [AR.std, natCast_eq, sI, reduceCtorEq] at *); omega
   ·rw [hy1, hy2, hy3]; exact hnx
  ·rename_i gn
   try simp only [s2, he3, hb2, s3, he4] at gn
   have gn' : intsL v.2.2.1 ≠ [] := by
    have : ∃ l, l ≠ [] ∧ cellAt (t4.getD i.toNat D0) 4 = .lst l := by subst hA; exact gn
    obtain ⟨l, h1, h2⟩ := this
    have c4' : cellAt (t4.getD i.toNat D0) 4 = .lst (intsL v.2.2.1) := by subst hA; exact c4
    rw [c4'] at h2
    rw [PV.lst.inj h2]; exact h1
   have hv1 : valsL l2 := by rw [f2]; exact vals_ints
   have hmk := fun (P' : Program) (C' : Cx P' gl) => markIntS_fx C' (rfl : intsL v.2.2.1 = _) (by rw [f2, hm] : l2 = intsL (up1 r4 v.2.2.1.length)) (by rw [hr5, hm] : r5 = r4 + (v.2.2.1.length : Int)) hnm2 b4 (by omega)
   obtain ⟨l9, hl9⟩ : ∃ l9, l9 = intsL v.2.2.1 := ⟨_, rfl⟩
   rw [← hl9] at gn' c4 hmk
   clear gn hm hl9 v2 s2 v3 s3 i4 f2 n4
   iterate 2 all_goals try cbv; with_reducible repeat' first | exact ⟨⟩ | apply And.intro | intro _
   all_goals try exact oI
   all_goals try simp only [he4]
   refine callT hA (els' := t5) (l := l9) (l' := l2) (v := .int .i64 r5) rfl rfl (by decide) (by simp only [mapO, renSub, and_self, if_true]) k4 c4 gn' hv1 w4 (hmk P C) ?_
   clear k4 c4 gn' hv1 w4 hmk
   iterate 2 all_goals try cbv; with_reducible repeat' first | exact ⟨⟩ | apply And.intro | intro _
   all_goals try exact oI
   all_goals try simp only [s5, he6]
   all_goals try exact v5
   clear v5 s5 he3 he4 hb2
   obtain ⟨y1, hy1⟩ : ∃ y, y = i + 1 := ⟨_, rfl⟩
   obtain ⟨y2, hy2⟩ : ∃ y, y = r6 := ⟨_, rfl⟩
   obtain ⟨y3, hy3⟩ : ∃ y, y = t9 := ⟨_, rfl⟩
   refine ⟨⟨(y1, y2, y3), ?_⟩, ?_, ?_⟩
   rotate_left
   ·cbv
    exact nI
   ·(subst hA; subst_vars; simp only [AR.std, natCast_eq, sI, reduceCtorEq] at *; try simp (disch := omega) only [AR.std, natCast_eq, sI, reduceCtorEq] at *); omega
   ·rw [hy1, hy2, hy3]; exact hnx
 ·rename_i g gn
  obtain ⟨t1, t2, t3, t4, t5, l1, l2, f1, f2, v0, s0, i1, c1, n1, w1, v2, s2, v3, s3, i4, c4, n4, w4, v5, s5, z0, z1, z2, z3, z4, z5, k1, k4⟩ := hel () (hi' () g)
  try simp only [natCast_eq] at hr2
  try simp only [natCast_eq] at hr5
  have hnx := hnext (hi' () g)
  rw [← hn, ← hm, e6, ← s5] at hnx
  obtain ⟨t9, ht9⟩ : ∃ t9, t9 = A.set t5 (A.nat i) (A.setc (A.el t5 (A.nat i)) 5 [.val (.int .i64 r5)]) := ⟨_, rfl⟩
  rw [← ht9] at hnx
  rw [← ht9] at s5
  have s5 := ht9.symm
  simp only [hr1', hbb, s0] at gn ⊢
  have gn' : intsL v.1.2.1 ≠ [] := by
   have : ∃ l, l ≠ [] ∧ cellAt (t1.getD i.toNat D0) 1 = .lst l := by subst hA; exact gn
   obtain ⟨l, h1, h2⟩ := this
   have c1' : cellAt (t1.getD i.toNat D0) 1 = .lst (intsL v.1.2.1) := by subst hA; exact c1
   rw [c1'] at h2
   rw [PV.lst.inj h2]; exact h1
  have hv1 : valsL l1 := by rw [f1]; exact vals_ints
  have hmk := fun (P' : Program) (C' : Cx P' gl) => markIntS_fx C' (rfl : intsL v.1.2.1 = _) (by rw [f1, hn] : l1 = intsL (up1 r1 v.1.2.1.length)) (by rw [hr2, hn] : r2 = r1 + (v.1.2.1.length : Int)) hnm1 b6.1 (by omega)
  obtain ⟨l8, hl8⟩ : ∃ l8, l8 = intsL v.1.2.1 := ⟨_, rfl⟩
  rw [← hl8] at gn' c1 hmk
  clear gn hl8 n1 hel hi' hge hexit hnext hbb v0 s0 i1 f1
  iterate 2 all_goals try cbv; with_reducible repeat' first | exact ⟨⟩ | apply And.intro | intro _
  all_goals try exact oI
  all_goals try simp only [hr1']
  refine callT hA (els' := t2) (l := l8) (l' := l1) (v := .int .i64 r2) rfl rfl (by decide) (by simp only [mapO, renSub, and_self, if_true]) k1 c1 gn' hv1 w1 (hmk P C) ?_
  clear k1 c1 gn' hv1 w1 hmk
  iterate 2 all_goals try cbv; with_reducible repeat' first | exact ⟨⟩ | apply And.intro | intro _
  all_goals try exact oI
  all_goals try simp only [s2, he3, hb2, s3, he4]
  all_goals try first | exact v2 | exact v3 | exact i4
  ·rename_i gn
   try simp only [s2, he3, hb2, s3, he4] at gn
   have gn' : intsL v.2.2.1 = [] := by
    have : cellAt (t4.getD i.toNat D0) 4 = .lst [] := by subst hA; exact gn
    have c4' : cellAt (t4.getD i.toNat D0) 4 = .lst (intsL v.2.2.1) := by subst hA; exact c4
    rw [c4'] at this
    exact PV.lst.inj this
   have hm0 : m = 0 := by rw [hm, ← ints_len, gn']; rfl
   have e45 : t5 = t4 := n4 (by cases hvv : v.2.2.1 with | nil => rfl | cons x y => rw [hvv] at gn'; cases gn')
   try simp only [natCast_eq] at hr5
   have er5 : r5 = r4 := by omega
   subst e45
   subst er5
   clear gn gn' n4 w4 c4 v2 s2 v3 s3 i4 hm hm0
   iterate 2 all_goals try cbv; with_reducible repeat' first | exact ⟨⟩ | apply And.intro | intro _
   all_goals try exact oI
   all_goals try simp only [he4]
   refine callS hA rfl (markIntS0_fs C) ?_; rintro _ rfl
   iterate 2 all_goals try cbv; with_reducible repeat' first | exact ⟨⟩ | apply And.intro | intro _
   all_goals try exact oI
   all_goals try simp only [s5, he6]
   all_goals try exact v5
   clear v5 s5 he3 he4 hb2
   obtain ⟨y1, hy1⟩ : ∃ y, y = i + 1 := ⟨_, rfl⟩
   obtain ⟨y2, hy2⟩ : ∃ y, y = r6 := ⟨_, rfl⟩
   obtain ⟨y3, hy3⟩ : ∃ y, y = t9 := ⟨_, rfl⟩
   refine ⟨⟨(y1, y2, y3), ?_⟩, ?_, ?_⟩
   rotate_left
   ·cbv
    exact nI
   ·(subst hA; subst_vars; simp only [AR.std, natCast_eq, sI, reduceCtorEq] at *; try simp (disch := omega) only [AR.std, natCast_eq, sI, reduceCtorEq] at *); omega
   ·rw [hy1, hy2, hy3]; exact hnx
  ·rename_i gn
   try simp only [s2, he3, hb2, s3, he4] at gn
   have gn' : intsL v.2.2.1 ≠ [] := by
    have : ∃ l, l ≠ [] ∧ cellAt (t4.getD i.toNat D0) 4 = .lst l := by subst hA; exact gn
    obtain ⟨l, h1, h2⟩ := this
    have c4' : cellAt (t4.getD i.toNat D0) 4 = .lst (intsL v.2.2.1) := by subst hA; exact c4
    rw [c4'] at h2
    rw [PV.lst.inj h2]; exact h1
   have hv1 : valsL l2 := by rw [f2]; exact vals_ints
   have hmk := fun (P' : Program) (C' : Cx P' gl) => markIntS_fx C' (rfl : intsL v.2.2.1 = _) (by rw [f2, hm] : l2 = intsL (up1 r4 v.2.2.1.length)) (by rw [hr5, hm] : r5 = r4 + (v.2.2.1.length : Int)) hnm2 b4 (by omega)
   obtain ⟨l9, hl9⟩ : ∃ l9, l9 = intsL v.2.2.1 := ⟨_, rfl⟩
   rw [← hl9] at gn' c4 hmk
   clear gn hm hl9 v2 s2 v3 s3 i4 f2 n4
   iterate 2 all_goals try cbv; with_reducible repeat' first | exact ⟨⟩ | apply And.intro | intro _
   all_goals try exact oI
   all_goals try simp only [he4]
   refine callT hA (els' := t5) (l := l9) (l' := l2) (v := .int .i64 r5) rfl rfl (by decide) (by simp only [mapO, renSub, and_self, if_true]) k4 c4 gn' hv1 w4 (hmk P C) ?_
   clear k4 c4 gn' hv1 w4 hmk
   iterate 2 all_goals try cbv; with_reducible repeat' first | exact ⟨⟩ | apply And.intro | intro _
   all_goals try exact oI
   all_goals try simp only [s5, he6]
   all_goals try exact v5
   clear v5 s5 he3 he4 hb2
   obtain ⟨y1, hy1⟩ : ∃ y, y = i + 1 := ⟨_, rfl⟩
   obtain ⟨y2, hy2⟩ : ∃ y, y = r6 := ⟨_, rfl⟩
   obtain ⟨y3, hy3⟩ : ∃ y, y = t9 := ⟨_, rfl⟩
   refine ⟨⟨(y1, y2, y3), ?_⟩, ?_, ?_⟩
   rotate_left
   ·cbv
    exact nI
   ·(subst hA; subst_vars; simp only [AR.std, natCast_eq, sI, reduceCtorEq] at *; try simp (disch := omega) only [AR.std, natCast_eq, sI, reduceCtorEq] at *); omega
   ·rw [hy1, hy2, hy3]; exact hnx
 ·rename_i g
  have e := hexit (hge () g)
  have e1 : t = r := by rw [hr]; exact e.1
  have e2 : q = z := by rw [hz]; exact e.2
  simp only [e1, e2]
  subst hA
  exact ⟨[0], _, _, by decide, Nat.le_refl _, rfl, rfl, rfl, rfl, rfl, rfl⟩

theorem markIvS0_fs (C : Cx P gl) {k : Int} : FS P gl 31 [.lst [], I k] (· = I k) := by
 refine gS C func31 rfl rfl rfl fun A hA hI => ?_
 iterate 2 all_goals try cbv; with_reducible repeat' first | exact ⟨⟩ | apply And.intro | intro _
 all_goals try exact oI
 refine loopI hA [] (ι := Int) (fun x => [(1, .pv (I k)), (5, .pv (I x))]) (fun x => []) (fun x => 0) (fun x => x = 0) 0 (by rfl) ?_ ?_ ?_
 all_goals try exact tI
 rintro i rfl
 iterate 2 all_goals try cbv; with_reducible repeat' first | exact ⟨⟩ | apply And.intro | intro _
 all_goals try exact oI
 iterate 2 all_goals try cbv; with_reducible repeat' first | exact ⟨⟩ | apply And.intro | intro _
 all_goals try exact oI

end Tryz
end Go.Proofs
