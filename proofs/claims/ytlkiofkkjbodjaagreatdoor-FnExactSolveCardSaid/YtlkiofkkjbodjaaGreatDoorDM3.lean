/- Contracts: the law's own helpers on lists of dyadic numbers: marks. -/
import Derived.Test.YtlkiofkkjbodjaaGreatDoorDM1
import Derived.Test.YtlkiofkkjbodjaaGreatDoorDEvD
set_option maxHeartbeats 1000000
set_option maxRecDepth 100000
namespace Go.Proofs
open Go Go.Pe Go.Dg
namespace Tryz
set_option linter.unusedSimpArgs false
set_option linter.unusedVariables false
variable {P : Program} {gl : List (Nat × Obj)}

theorem markDyS_fx (C : Cx P gl) {ys : List Cell3} {p r : List PV} {k z : Int} (hp : p = cells3 ys) (hr : r = cells3 (mkL3 ys k)) (hz : z = k + 2 * ys.length + tot ys) (hl : ys.length ≤ 2000000) (ht : tot ys ≤ 2000000) (hk0 : 0 ≤ k) (hk : k ≤ 100000000) :
  FX P gl 30 [.tree 64 3 3 p] [.own 0, .pv (I k)] (fun own rr => own = [.tree 64 3 3 r] ∧ rr = .pv (I z)) := by
 refine gX C func30 rfl rfl rfl fun A hA hI => ?_
 iterate 2 all_goals try cbv; with_reducible repeat' first | exact ⟨⟩ | apply And.intro | intro _
 all_goals try exact oG
 refine loopI hA [] (ι := Int × Int × List PV) (fun x => [(0, .own 0), (1, .pv (I x.2.1)), (5, .pv (I x.1))]) (fun x => [(0, .tree 64 3 3 x.2.2)]) (fun x => (ys.length - x.1).toNat) (fun x => mkI3 ys k x.1 x.2.1 x.2.2) (0, k, p) (by rfl) ?_ ?_ ?_
 all_goals try exact tG
 ·rw [hp]; exact mkI3_zero ys k
 rintro ⟨i, q, t⟩ hinv
 simp only at hinv
 have hnext := fun hi => mkI3_next hinv hi
 have hexit := fun hi => mkI3_exit hinv hi
 have hget := fun hi => mkI3_get hinv hi
 obtain ⟨hi0, hi1, hq, _⟩ := id hinv
 obtain ⟨hq1, hq2⟩ := koff_le (ys := ys) (k := k) (show i.toNat ≤ ys.length by omega)
 rw [← hq] at hq1 hq2
 have htl : t.length = ys.length := by
  rw [hinv.2.2.2, cells3_len, List.length_append, List.length_take, List.length_drop, mkL3_len]
  omega
 clear hq hinv
 obtain ⟨r1, hr1⟩ : ∃ r1, r1 = q + 1 := ⟨_, rfl⟩
 obtain ⟨b, hb⟩ : ∃ b, b = decide (q % 3 = 0) := ⟨_, rfl⟩
 have b5 : 0 ≤ q := by omega
 have b6 : 0 ≤ r1 := by omega
 have b7 : r1 ≤ 500000000 := by omega
 have hn : ∀ _ : Unit, i < ys.length → (ys.getD i.toNat noY).2.1.length ≤ 2000000 := by
  intro _ hi
  have := tot_get (show i.toNat < ys.length by omega)
  omega
 have hbb : A.eq (A.rem .i64 q 3) 0 = b := by
  rw [hb]
  subst hA
  simp only [AR.std]
  rw [Int.tmod_eq_emod_of_nonneg b5]
  by_cases h3 : q % 3 = 0 <;> simp [h3]
 have hr1' : A.add .i64 q 1 = r1 := by clear hn; (subst hA; subst_vars; simp only [AR.std, natCast_eq, sG, reduceCtorEq] at *; try simp (disch := omega) only [AR.std, natCast_eq, sG, reduceCtorEq] at *)
 have hel : ∀ _ : Unit, i < ys.length → ∃ (t1 t2 : List PV) (l2 : List PV) (n : Nat) (r2 r3 : Int), n = (ys.getD i.toNat noY).2.1.length ∧ r2 = r1 + n ∧ r3 = r2 + 1 ∧ l2 = intsL (up1 r1 n) ∧
   t.set i.toNat (setCells (t.getD i.toNat D0) 0 [.val (.bool b)]) = t1 ∧ valCells (t.getD i.toNat D0) 0 1 ∧ cellAt (t1.getD i.toNat D0) 1 = .lst (intsL (ys.getD i.toNat noY).2.1) ∧ i.toNat < t1.length ∧
   t2 = t1.set i.toNat (setCells (t1.getD i.toNat D0) 1 [.lst l2]) ∧ (∀ u, (n = 0 ∧ u = t1) ∨ u = t2 → valCells (u.getD i.toNat D0) 2 1 ∧ u.set i.toNat (setCells (u.getD i.toNat D0) 2 [.val (.int .i64 r2)]) = t.set i.toNat (cell3 (mark1 q n)) ∧ u.length = ys.length) := by
  intro _ hi
  obtain ⟨zs, z1, z2, z3⟩ := hget hi
  have hz : i.toNat < zs.length := by omega
  refine ⟨_, _, _, _, _, _, rfl, rfl, rfl, rfl, rfl, c3val0 z1 hz, ?_, ?_, rfl, fun u hu => ?_⟩
  ·rw [c3set0 b z1 hz z3, c3el (by rw [List.length_set]; exact hz), getD_set_self _ hz]; rfl
  ·rw [List.length_set, z1, cells3_len]; exact hz
  ·have e1 := c3set0 b z1 hz z3
   have hz1 : i.toNat < (zs.set i.toNat (b, (ys.getD i.toNat noY).2)).length := by rw [List.length_set]; exact hz
   have e2 := (c3set1 (up1 r1 (ys.getD i.toNat noY).2.1.length) e1 hz1 (getD_set_self _ hz)).trans (congrArg cells3 (List.set_set _))
   have hm : ∀ (y' : Cell3), y'.1 = b → y'.2.1 = up1 r1 (ys.getD i.toNat noY).2.1.length → u = cells3 (zs.set i.toNat y') → valCells (u.getD i.toNat D0) 2 1 ∧
     u.set i.toNat (setCells (u.getD i.toNat D0) 2 [.val (.int .i64 (r1 + ((ys.getD i.toNat noY).2.1.length : Int)))]) = t.set i.toNat (cell3 (mark1 q (ys.getD i.toNat noY).2.1.length)) ∧ u.length = ys.length := by
    intro y' h1 h2 h3
    have hz2 : i.toNat < (zs.set i.toNat y').length := by rw [List.length_set]; exact hz
    refine ⟨c3val2 h3 hz2, ?_, by rw [h3, cells3_len, List.length_set, z2]⟩
    rw [c3set2 _ h3 hz2 (getD_set_self _ hz), List.set_set, z1, c3set, h1, h2, hb, hr1]
    rfl
   rcases hu with ⟨h0, rfl⟩ | rfl
   ·refine hm (b, (ys.getD i.toNat noY).2) rfl ?_ e1
    rw [h0, show (ys.getD i.toNat noY).2.1 = [] from List.eq_nil_of_length_eq_zero h0]; rfl
   ·exact hm _ rfl rfl e2
 have hi' : ∀ _ : Unit, A.lt i (A.cast (A.len t)) = true → i < ys.length := by
  intro _ h; clear hel hn hbb hr1'; exact eG
 clear hget
 iterate 2 all_goals try cbv; with_reducible repeat' first | exact ⟨⟩ | apply And.intro | intro _
 all_goals try exact oG
 ·rename_i g
  obtain ⟨t1, t2, l2, n, r2, r3, f1, f2, f3, f4, f5, f6, f7, f8, f9, f10⟩ := hel () (hi' () g)
  exact valc_of hA (by subst hA; exact f6)
 ·rename_i g
  obtain ⟨t1, t2, l2, n, r2, r3, f1, f2, f3, f4, f5, f6, f7, f8, f9, f10⟩ := hel () (hi' () g)
  have f5' : A.set t (A.nat i) (A.setc (A.el t (A.nat i)) 0 [.val (.bool (A.eq (A.rem .i64 q 3) 0))]) = t1 := by rw [hbb]; subst hA; exact f5
  simp only [f5']
  exact isl_of hA ⟨_, by subst hA; exact f7⟩
 ·rename_i g gn
  have hi := hi' () g
  obtain ⟨t1, t2, l2, n, r2, r3, f1, f2, f3, f4, f5, f6, f7, f8, f9, f10⟩ := hel () hi
  try simp only [natCast_eq] at f2
  have f5' : A.set t (A.nat i) (A.setc (A.el t (A.nat i)) 0 [.val (.bool (A.eq (A.rem .i64 q 3) 0))]) = t1 := by rw [hbb]; subst hA; exact f5
  simp only [f5'] at gn ⊢
  have gn' : intsL (ys.getD i.toNat noY).2.1 = [] := by
   have : cellAt (t1.getD i.toNat D0) 1 = .lst [] := by subst hA; exact gn
   rw [f7] at this
   exact PV.lst.inj this
  have hn0 : n = 0 := by
   rw [f1, ← ints_len, gn']; rfl
  obtain ⟨f11, f12, f13⟩ := f10 t1 (.inl ⟨hn0, rfl⟩)
  have er : r2 = r1 := by omega
  have hnx := hnext hi
  rw [← f1] at hnx
  have e13 : q + 2 + (n : Int) = r1 + 1 := by omega
  have f11' : A.valc (A.el t1 (A.nat i)) 2 1 := valc_of hA (by subst hA; exact f11)
  have f12' : A.set t1 (A.nat i) (A.setc (A.el t1 (A.nat i)) 2 [.val (.int .i64 r1)]) = t.set i.toNat (cell3 (mark1 q n)) := by rw [← er]; subst hA; exact f12
  rw [e13] at hnx
  obtain ⟨t9, ht9⟩ : ∃ t9, t9 = t.set i.toNat (cell3 (mark1 q n)) := ⟨_, rfl⟩
  rw [← ht9] at hnx f12'
  have hl1 : A.len t1 = A.len t := by subst hA; exact f13.trans htl.symm
  clear hel hi' hn hnext hexit f1 f2 f3 f4 f5 f5' f6 f7 f8 f9 f10 f11 f12 er gn gn' e13 ht9 hbb
  iterate 2 all_goals try cbv; with_reducible repeat' first | exact ⟨⟩ | apply And.intro | intro _
  all_goals try exact oG
  simp only [hr1']
  refine callS hA rfl (markIntS0_fs C) ?_; rintro _ rfl
  iterate 2 all_goals try cbv; with_reducible repeat' first | exact ⟨⟩ | apply And.intro | intro _
  all_goals try exact oG
  ·exact f11'
  ·simp only [f12']
   clear f12' hr1' hl1 f11'
   obtain ⟨y1, hy1⟩ : ∃ y, y = i + 1 := ⟨_, rfl⟩
   obtain ⟨y2, hy2⟩ : ∃ y, y = r1 + 1 := ⟨_, rfl⟩
   obtain ⟨y3, hy3⟩ : ∃ y, y = t9 := ⟨_, rfl⟩
   refine ⟨⟨(y1, y2, y3), ?_⟩, ?_, ?_⟩
   rotate_left
   ·cbv
    exact nG
   ·exact eG
   ·rw [hy1, hy2, hy3]; exact hnx
 ·rename_i g gn
  have hi := hi' () g
  obtain ⟨t1, t2, l2, n, r2, r3, f1, f2, f3, f4, f5, f6, f7, f8, f9, f10⟩ := hel () hi
  try simp only [natCast_eq] at f2
  have f5' : A.set t (A.nat i) (A.setc (A.el t (A.nat i)) 0 [.val (.bool (A.eq (A.rem .i64 q 3) 0))]) = t1 := by rw [hbb]; subst hA; exact f5
  simp only [f5'] at gn ⊢
  have gn' : intsL (ys.getD i.toNat noY).2.1 ≠ [] := by
   have : ∃ l, l ≠ [] ∧ cellAt (t1.getD i.toNat D0) 1 = .lst l := by subst hA; exact gn
   obtain ⟨l, h1, h2⟩ := this
   rw [f7] at h2
   rw [PV.lst.inj h2]; exact h1
  have hnl : n ≤ 2000000 := by rw [f1]; exact hn () hi
  obtain ⟨f11, f12, f13⟩ := f10 t2 (.inr rfl)
  have hnx := hnext hi
  rw [← f1] at hnx
  have e13 : q + 2 + (n : Int) = r2 + 1 := by omega
  have f11' : A.valc (A.el t2 (A.nat i)) 2 1 := valc_of hA (by subst hA; exact f11)
  have f12' : A.set t2 (A.nat i) (A.setc (A.el t2 (A.nat i)) 2 [.val (.int .i64 r2)]) = t.set i.toNat (cell3 (mark1 q n)) := by subst hA; exact f12
  rw [e13] at hnx
  obtain ⟨t9, ht9⟩ : ∃ t9, t9 = t.set i.toNat (cell3 (mark1 q n)) := ⟨_, rfl⟩
  rw [← ht9] at hnx f12'
  have hl2 : A.len t2 = A.len t := by subst hA; exact f13.trans htl.symm
  have hk1 : A.nat i < t1.length := by subst hA; exact f8
  have hc1 : cellAt (t1.getD (A.nat i) D0) 1 = .lst (intsL (ys.getD i.toNat noY).2.1) := by subst hA; exact f7
  have he1 : t2 = t1.set (A.nat i) (setCells (t1.getD (A.nat i) D0) 1 [.lst l2]) := by subst hA; exact f9
  have hv1 : valsL l2 := by rw [f4]; exact vals_ints
  have hmk := fun (P' : Program) (C' : Cx P' gl) => markIntS_fx C' (rfl : intsL (ys.getD i.toNat noY).2.1 = _) (by rw [f4, f1] : l2 = intsL (up1 r1 (ys.getD i.toNat noY).2.1.length)) (by rw [f2, f1] : r2 = r1 + ((ys.getD i.toNat noY).2.1.length : Int)) (hn () hi) b6 (by omega)
  have hr2b : r2 ≤ 1000000000 := by omega
  have hr2c : 0 ≤ r2 := by omega
  obtain ⟨l1, hl1⟩ : ∃ l1, l1 = intsL (ys.getD i.toNat noY).2.1 := ⟨_, rfl⟩
  rw [← hl1] at gn' hc1 hmk
  clear hel hi' hn hnext hexit f1 f2 f3 f4 f5 f5' f6 f7 f8 f9 f10 f11 f12 gn e13 ht9 hbb hl1
  iterate 2 all_goals try cbv; with_reducible repeat' first | exact ⟨⟩ | apply And.intro | intro _
  all_goals try exact oG
  simp only [hr1']
  refine callT hA (els' := t2) (l := l1) (l' := l2) (v := .int .i64 r2) rfl rfl (by decide) (by simp only [mapO, renSub, and_self, if_true]) hk1 hc1 gn' hv1 he1 (hmk P C) ?_
  clear hk1 hc1 gn' hv1 he1 hmk
  iterate 2 all_goals try cbv; with_reducible repeat' first | exact ⟨⟩ | apply And.intro | intro _
  all_goals try exact oG
  ·exact f11'
  ·simp only [f12']
   clear f12' hr1' hl2 f11'
   obtain ⟨y1, hy1⟩ : ∃ y, y = i + 1 := ⟨_, rfl⟩
   obtain ⟨y2, hy2⟩ : ∃ y, y = r2 + 1 := ⟨_, rfl⟩
   obtain ⟨y3, hy3⟩ : ∃ y, y = t9 := ⟨_, rfl⟩
   refine ⟨⟨(y1, y2, y3), ?_⟩, ?_, ?_⟩
   rotate_left
   ·cbv
    exact nG
   ·exact eG
   ·rw [hy1, hy2, hy3]; exact hnx
 ·rename_i g
  have e := hexit (by clear hel hn hbb hr1' hi' hnext hexit; exact eG)
  have e1 : t = r := by rw [hr]; exact e.1
  have e2 : q = z := by rw [hz]; exact e.2
  simp only [e1, e2]
  subst hA
  exact ⟨[0], _, _, by decide, Nat.le_refl _, rfl, rfl, rfl, rfl, rfl, rfl⟩

theorem markMat_fx (C : Cx P gl) {ys : List Cell3} {p r : List PV} {k z n : Int} (hp : p = cells3 ys) (hr : r = cells3 (mkL3 ys k)) (hz : z = k + 2 * ys.length + tot ys) (hl : ys.length ≤ 2000000) (ht : tot ys ≤ 2000000) (hk0 : 0 ≤ k) (hk : k ≤ 100000000) :
  FX P gl 29 [.tree 64 3 3 p] [.agg [.pv (I n), .own 0], .pv (I k)] (fun own rr => own = [.tree 64 3 3 r] ∧ rr = .pv (I z)) := by
 refine gX C func29 rfl rfl rfl fun A hA hI => ?_
 iterate 2 all_goals try cbv; with_reducible repeat' first | exact ⟨⟩ | apply And.intro | intro _
 all_goals try exact oG
 refine callX hA [0] (by decide) rfl rfl rfl (markDyS_fx C hp hr hz hl ht hk0 hk) ?_
 rintro _ _ ⟨rfl, rfl⟩
 refine ⟨rfl, ?_⟩
 iterate 2 all_goals try cbv; with_reducible repeat' first | exact ⟨⟩ | apply And.intro | intro _
 all_goals try exact oG
 subst hA
 exact ⟨[0], _, _, by decide, Nat.le_refl _, rfl, rfl, rfl, rfl, rfl, rfl⟩

end Tryz
end Go.Proofs
