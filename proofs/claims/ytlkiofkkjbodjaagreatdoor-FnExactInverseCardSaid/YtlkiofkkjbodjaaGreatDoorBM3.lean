/- Contracts: the law's own helpers on lists of dyadic numbers: marks. -/
import Derived.Test.YtlkiofkkjbodjaaGreatDoorBM2
import Derived.Test.YtlkiofkkjbodjaaGreatDoorBEvD
set_option maxHeartbeats 1000000
set_option maxRecDepth 100000
namespace Go.Proofs
open Go Go.Pe Go.Dg
namespace Tryz

theorem gX6 {P : Program} {gl : List (Nat × Obj)} (C : Tryz.Cx P gl) {f : FuncId} {fn : Func} {c : Code} {own : List Blk} {args : List FV} {R : List Blk → FV → Prop} (hf : Tryz.prog.funcs[f]? = some fn) (hb : fn.body = some c) (hm : (fn.name == "runtime.NumGoroutine") = false) (hn : Nat.ble args.length fn.ntmps = true)
 (hv : ∀ A, A = AR.std → aA = A.ints → iU P Tryz.T A gl .any c (aT1 Tryz.T A fn.results.toList own.length R) ⟨cS 0 args, own, fn.ntmps, own.length⟩) : FX P gl f own args R := by
 obtain ⟨rfl, hG⟩ := C
 exact aNL (own := fun _ => own) (args := fun _ => args) (R := fun _ => R) Tryz.hT Tryz.mix hf hb hm (Nat.le_of_ble_eq_true hn) fun A hA => hv A hA (by subst hA; rfl)

set_option linter.unusedSimpArgs false
set_option linter.unusedVariables false
variable {P : Program} {gl : List (Nat × Obj)}

theorem aIS (C : Cx P gl) {ys : List aC} {p : List PV} {k z : Int} (hp : p = aB (oE ys k)) (hz : z = k + 2 * ys.length + tot ys) (hl : ys.length ≤ 2000000) (ht : tot ys ≤ 2000000) (hk0 : 0 ≤ k) (hk : k ≤ 100000000) :
  FS P gl 102 [.lst p, I k] (· = I z) := by
 obtain ⟨zs, hzs⟩ : ∃ zs, zs = oE ys k := ⟨_, rfl⟩
 have hzl : zs.length = ys.length := by rw [hzs, fE]
 have hzg : ∀ j : Nat, j < ys.length → zs.getD j noY = qY (qQ ys k j) (ys.getD j noY).2.1.length := fun j hj => by rw [hzs]; exact aFW hj
 rw [← hzs] at hp
 clear hzs
 refine gS C func102 rfl rfl rfl fun A hA hI => ?_
 iterate 2 all_goals try cbv; with_reducible repeat' first | exact ⟨⟩ | apply And.intro | intro _
 all_goals try exact oG
 refine aZ hA [] (ι := Int × Int) (fun x => [(1, .pv (I x.2)), (5, .pv (I x.1))]) (fun x => []) (fun x => (ys.length - x.1).toNat) (fun x => 0 ≤ x.1 ∧ x.1 ≤ ys.length ∧ x.2 = qQ ys k x.1.toNat) (0, k) (by rfl) ?_ ?_ ?_
 all_goals try exact tG
 ·exact ⟨Int.le_refl _, by omega, (aCC ys k).symm⟩
 rintro ⟨i, q⟩ ⟨hi0, hi1, hq⟩
 simp only at hi0 hi1 hq
 obtain ⟨hq1, hq2⟩ := aKD (ys := ys) (k := k) (show i.toNat ≤ ys.length by omega)
 rw [← hq] at hq1 hq2
 obtain ⟨n, hn⟩ : ∃ n, n = (ys.getD i.toNat noY).2.1.length := ⟨_, rfl⟩
 have hnb : n ≤ 2000000 := by
  by_cases hi : i < ys.length
  ·have := wY (show i.toNat < ys.length by omega); omega
  ·rw [hn, List.getD, List.getElem?_eq_none (by omega)]; simp [noY]
 obtain ⟨r1, hq1'⟩ : ∃ r1, r1 = q + 1 := ⟨_, rfl⟩
 obtain ⟨r2, hq2'⟩ : ∃ r2, r2 = r1 + (n : Int) := ⟨_, rfl⟩
 obtain ⟨u, hu⟩ : ∃ u, u = aA (up1 r1 n) := ⟨_, rfl⟩
 have b1 : 0 ≤ r1 := by omega
 have b2 : r1 ≤ 1000000000 := by omega
 have b3 : 0 ≤ r2 := by omega
 have b4 : r2 ≤ 1000000000 := by omega
 have b5 : 0 ≤ q := by omega
 have hin : ∀ _ : Unit, i < ys.length → zs.getD i.toNat noY = (decide (q % 3 = 0), up1 r1 n, r2) ∧ qQ ys k (i + 1).toNat = r2 + 1 := by
  intro _ hi
  refine ⟨by rw [hzg _ (by omega), ← hq, ← hn, hq2', hq1']; rfl, by rw [show (i + 1).toNat = i.toNat + 1 by omega, aCB (by omega), ← hq, ← hn]; omega⟩
 have hex : ys.length ≤ i → q = z := by
  intro hi
  rw [hq, hz, show i.toNat = ys.length by omega, aFX]
 clear hzg hz hq hn hq1 hq2
 iterate 2 all_goals try cbv; with_reducible repeat' first | exact ⟨⟩ | apply And.intro | intro _
 all_goals try exact oG
 ·rename_i g g2
  exfalso
  have hi : i < ys.length := by clear hin hex hu hq2' g2; exact eG
  have e : A.gb (A.el p (A.nat i)) 0 = decide (q % 3 = 0) := by
   have e2 : A.gb (A.el p (A.nat i)) 0 = (zs.getD i.toNat noY).1 := by clear hin hex hu hq2' g2; (subst hA; subst_vars; simp only [AR.std, bBG, sG, reduceCtorEq] at *; try simp (disch := omega) only [AR.std, bBG, sG, reduceCtorEq] at *)
   rw [e2, (hin () hi).1]
  simp only [e] at g2
  clear hin hex hu hq2' e
  subst hA
  simp only [AR.std] at g2
  rw [Int.tmod_eq_emod_of_nonneg b5] at g2
  by_cases h3 : q % 3 = 0 <;> simp [h3] at g2
 ·rename_i g g2
  clear g2
  iterate 2 all_goals try cbv; with_reducible repeat' first | exact ⟨⟩ | apply And.intro | intro _
  all_goals try exact oG
  have hi : i < ys.length := by clear hin hex hu hq2'; exact eG
  have hgl : A.gl (A.el p (A.nat i)) 1 = u := by
   have e2 : A.gl (A.el p (A.nat i)) 1 = aA (zs.getD i.toNat noY).2.1 := by clear hin hex hu hq2'; (subst hA; subst_vars; simp only [AR.std, bBG, sG, reduceCtorEq] at *; try simp (disch := omega) only [AR.std, bBG, sG, reduceCtorEq] at *)
   rw [e2, (hin () hi).1, hu]
  have hge : A.ne (A.gi (A.el p (A.nat i)) 2) r2 = false := by
   have e2 : A.gi (A.el p (A.nat i)) 2 = (zs.getD i.toNat noY).2.2 := by clear hin hex hu hq2' hgl; (subst hA; subst_vars; simp only [AR.std, bBG, sG, reduceCtorEq] at *; try simp (disch := omega) only [AR.std, bBG, sG, reduceCtorEq] at *)
   rw [e2, (hin () hi).1]
   subst hA; simp [AR.std]
  have he1 : A.add .i64 q 1 = r1 := by clear hin hex hu hq2' hgl hge; (subst hA; subst_vars; simp only [AR.std, bBG, sG, reduceCtorEq] at *; try simp (disch := omega) only [AR.std, bBG, sG, reduceCtorEq] at *)
  simp only [hgl, he1]
  refine aD hA rfl (wG C hu hq2' hnb b1 b2) ?_; rintro _ rfl
  have pQ := (hin () hi).2
  clear hin hu hq2' hex he1 hq1' hgl
  iterate 2 all_goals try cbv; with_reducible repeat' first | exact ⟨⟩ | apply And.intro | intro _
  all_goals try exact oG
  iterate 2 all_goals try cbv; with_reducible repeat' first | exact ⟨⟩ | apply And.intro | intro _
  all_goals try exact oG
  iterate 2 all_goals try cbv; with_reducible repeat' first | exact ⟨⟩ | apply And.intro | intro _
  all_goals try exact oG
  all_goals clear hge
  obtain ⟨y1, hy1⟩ : ∃ y, y = i + 1 := ⟨_, rfl⟩
  obtain ⟨y2, hy2⟩ : ∃ y, y = r2 + 1 := ⟨_, rfl⟩
  refine ⟨⟨(y1, y2), ?_⟩, ?_, ?_⟩
  rotate_left
  ·cbv
   exact nG
  ·exact eG
  ·rw [hy1, hy2]; exact ⟨by simp only; omega, by simp only; omega, pQ.symm⟩
 ·rename_i g
  have e : q = z := hex (by clear hin hex hu hq2'; exact eG)
  rw [e]

theorem rQ (C : Cx P gl) {ys : List aC} {p : List PV} {k z n : Int} (hp : p = aB (oE ys k)) (hz : z = k + 2 * ys.length + tot ys) (hl : ys.length ≤ 2000000) (ht : tot ys ≤ 2000000) (hk0 : 0 ≤ k) (hk : k ≤ 100000000) :
  FS P gl 37 [.agg [I n, .lst p], I k] (· = I z) := by
 have hz0 : 0 ≤ z := by omega
 refine gS C func37 rfl rfl rfl fun A hA hI => ?_
 iterate 2 all_goals try cbv; with_reducible repeat' first | exact ⟨⟩ | apply And.intro | intro _
 all_goals try exact oG
 refine aD hA rfl (aIS C hp hz hl ht hk0 hk) ?_; rintro _ rfl
 iterate 2 all_goals try cbv; with_reducible repeat' first | exact ⟨⟩ | apply And.intro | intro _
 all_goals try exact oG

theorem aIT (C : Cx P gl) {ys : List aC} {p r : List PV} {k z : Int} (hp : p = aB ys) (hr : r = aB (oE ys k)) (hz : z = k + 2 * ys.length + tot ys) (hl : ys.length ≤ 2000000) (ht : tot ys ≤ 2000000) (hk0 : 0 ≤ k) (hk : k ≤ 100000000) :
  FX P gl 30 [.tree 64 3 3 p] [.own 0, .pv (I k)] (fun own rr => own = [.tree 64 3 3 r] ∧ rr = .pv (I z)) := by
 refine gX6 C func30 rfl rfl rfl fun A hA hI => ?_
 iterate 2 all_goals try cbv; with_reducible repeat' first | exact ⟨⟩ | apply And.intro | intro _
 all_goals try exact oG
 refine aZ hA [] (ι := Int × Int × List PV) (fun x => [(0, .own 0), (1, .pv (I x.2.1)), (5, .pv (I x.1))]) (fun x => [(0, .tree 64 3 3 x.2.2)]) (fun x => (ys.length - x.1).toNat) (fun x => aL8 ys k x.1 x.2.1 x.2.2) (0, k, p) (by rfl) ?_ ?_ ?_
 all_goals try exact tG
 ·rw [hp]; exact aMA ys k
 rintro ⟨i, q, t⟩ hinv
 simp only at hinv
 have aJ := fun hi => aL9 hinv hi
 have aN := fun hi => aMB hinv hi
 have cM := fun hi => aPU hinv hi
 obtain ⟨hi0, hi1, hq, _⟩ := id hinv
 obtain ⟨hq1, hq2⟩ := aKD (ys := ys) (k := k) (show i.toNat ≤ ys.length by omega)
 rw [← hq] at hq1 hq2
 have htl : t.length = ys.length := by
  rw [hinv.2.2.2, aV, List.length_append, List.length_take, List.length_drop, fE]
  omega
 clear hq hinv
 obtain ⟨r1, hr1⟩ : ∃ r1, r1 = q + 1 := ⟨_, rfl⟩
 obtain ⟨b, hb⟩ : ∃ b, b = decide (q % 3 = 0) := ⟨_, rfl⟩
 have b5 : 0 ≤ q := by omega
 have b6 : 0 ≤ r1 := by omega
 have b7 : r1 ≤ 500000000 := by omega
 have hn : ∀ _ : Unit, i < ys.length → (ys.getD i.toNat noY).2.1.length ≤ 2000000 := by
  intro _ hi
  have := wY (show i.toNat < ys.length by omega)
  omega
 have hbb : A.eq (A.rem .i64 q 3) 0 = b := by
  rw [hb]
  subst hA
  simp only [AR.std]
  rw [Int.tmod_eq_emod_of_nonneg b5]
  by_cases h3 : q % 3 = 0 <;> simp [h3]
 have hr1' : A.add .i64 q 1 = r1 := by clear hn; (subst hA; subst_vars; simp only [AR.std, bBG, sG, reduceCtorEq] at *; try simp (disch := omega) only [AR.std, bBG, sG, reduceCtorEq] at *)
 have hel : ∀ _ : Unit, i < ys.length → ∃ (t1 t2 : List PV) (l2 : List PV) (n : Nat) (r2 r3 : Int), n = (ys.getD i.toNat noY).2.1.length ∧ r2 = r1 + n ∧ r3 = r2 + 1 ∧ l2 = aA (up1 r1 n) ∧
   t.set i.toNat (setCells (t.getD i.toNat D0) 0 [.val (.bool b)]) = t1 ∧ gZ (t.getD i.toNat D0) 0 1 ∧ cellAt (t1.getD i.toNat D0) 1 = .lst (aA (ys.getD i.toNat noY).2.1) ∧ i.toNat < t1.length ∧
   t2 = t1.set i.toNat (setCells (t1.getD i.toNat D0) 1 [.lst l2]) ∧ (∀ u, (n = 0 ∧ u = t1) ∨ u = t2 → gZ (u.getD i.toNat D0) 2 1 ∧ u.set i.toNat (setCells (u.getD i.toNat D0) 2 [.val (.int .i64 r2)]) = t.set i.toNat (aW (qY q n)) ∧ u.length = ys.length) := by
  intro _ hi
  obtain ⟨zs, z1, z2, z3⟩ := cM hi
  have hz : i.toNat < zs.length := by omega
  refine ⟨_, _, _, _, _, _, rfl, rfl, rfl, rfl, rfl, aVH z1 hz, ?_, ?_, rfl, fun u hu => ?_⟩
  ·rw [aPR b z1 hz z3, aFU (by rw [List.length_set]; exact hz), lW _ hz]; rfl
  ·rw [List.length_set, z1, aV]; exact hz
  ·have e1 := aPR b z1 hz z3
   have hz1 : i.toNat < (zs.set i.toNat (b, (ys.getD i.toNat noY).2)).length := by rw [List.length_set]; exact hz
   have e2 := (aVF (up1 r1 (ys.getD i.toNat noY).2.1.length) e1 hz1 (lW _ hz)).trans (congrArg aB (List.set_set _))
   have hm : ∀ (y' : aC), y'.1 = b → y'.2.1 = up1 r1 (ys.getD i.toNat noY).2.1.length → u = aB (zs.set i.toNat y') → gZ (u.getD i.toNat D0) 2 1 ∧
     u.set i.toNat (setCells (u.getD i.toNat D0) 2 [.val (.int .i64 (r1 + ((ys.getD i.toNat noY).2.1.length : Int)))]) = t.set i.toNat (aW (qY q (ys.getD i.toNat noY).2.1.length)) ∧ u.length = ys.length := by
    intro y' h1 h2 h3
    have hz2 : i.toNat < (zs.set i.toNat y').length := by rw [List.length_set]; exact hz
    refine ⟨aVI h3 hz2, ?_, by rw [h3, aV, List.length_set, z2]⟩
    rw [aVG _ h3 hz2 (lW _ hz), List.set_set, z1, oA, h1, h2, hb, hr1]
    rfl
   rcases hu with ⟨h0, rfl⟩ | rfl
   ·refine hm (b, (ys.getD i.toNat noY).2) rfl ?_ e1
    rw [h0, show (ys.getD i.toNat noY).2.1 = [] from List.eq_nil_of_length_eq_zero h0]; rfl
   ·exact hm _ rfl rfl e2
 have hi' : ∀ _ : Unit, A.lt i (A.cast (A.len t)) = true → i < ys.length := by
  intro _ h; clear hel hn hbb hr1'; exact eG
 clear cM
 iterate 2 all_goals try cbv; with_reducible repeat' first | exact ⟨⟩ | apply And.intro | intro _
 all_goals try exact oG
 ·rename_i g
  obtain ⟨t1, t2, l2, n, r2, r3, f1, f2, f3, f4, f5, f6, f7, f8, f9, f10⟩ := hel () (hi' () g)
  exact aDG hA (by subst hA; exact f6)
 ·rename_i g
  obtain ⟨t1, t2, l2, n, r2, r3, f1, f2, f3, f4, f5, f6, f7, f8, f9, f10⟩ := hel () (hi' () g)
  have f5' : A.set t (A.nat i) (A.setc (A.el t (A.nat i)) 0 [.val (.bool (A.eq (A.rem .i64 q 3) 0))]) = t1 := by rw [hbb]; subst hA; exact f5
  simp only [f5']
  exact aU4 hA ⟨_, by subst hA; exact f7⟩
 ·rename_i g gn
  have hi := hi' () g
  obtain ⟨t1, t2, l2, n, r2, r3, f1, f2, f3, f4, f5, f6, f7, f8, f9, f10⟩ := hel () hi
  try simp only [bBG] at f2
  have f5' : A.set t (A.nat i) (A.setc (A.el t (A.nat i)) 0 [.val (.bool (A.eq (A.rem .i64 q 3) 0))]) = t1 := by rw [hbb]; subst hA; exact f5
  simp only [f5'] at gn ⊢
  have gn' : aA (ys.getD i.toNat noY).2.1 = [] := by
   have : cellAt (t1.getD i.toNat D0) 1 = .lst [] := by subst hA; exact gn
   rw [f7] at this
   exact PV.lst.inj this
  have hn0 : n = 0 := by
   rw [f1, ← bC, gn']; rfl
  obtain ⟨f11, f12, f13⟩ := f10 t1 (.inl ⟨hn0, rfl⟩)
  have er : r2 = r1 := by omega
  have hnx := aJ hi
  rw [← f1] at hnx
  have e13 : q + 2 + (n : Int) = r1 + 1 := by omega
  have f11' : A.valc (A.el t1 (A.nat i)) 2 1 := aDG hA (by subst hA; exact f11)
  have f12' : A.set t1 (A.nat i) (A.setc (A.el t1 (A.nat i)) 2 [.val (.int .i64 r1)]) = t.set i.toNat (aW (qY q n)) := by rw [← er]; subst hA; exact f12
  rw [e13] at hnx
  obtain ⟨t9, ht9⟩ : ∃ t9, t9 = t.set i.toNat (aW (qY q n)) := ⟨_, rfl⟩
  rw [← ht9] at hnx f12'
  have hl1 : A.len t1 = A.len t := by subst hA; exact f13.trans htl.symm
  clear hel hi' hn aJ aN f1 f2 f3 f4 f5 f5' f6 f7 f8 f9 f10 f11 f12 er gn gn' e13 ht9 hbb
  iterate 2 all_goals try cbv; with_reducible repeat' first | exact ⟨⟩ | apply And.intro | intro _
  all_goals try exact oG
  simp only [hr1']
  refine aD hA rfl (tJ C) ?_; rintro _ rfl
  iterate 2 all_goals try cbv; with_reducible repeat' first | exact ⟨⟩ | apply And.intro | intro _
  all_goals try exact oG
  ·exact f11'
  ·simp only [f12']
   clear f12' hr1' hl1 f11'
   obtain ⟨y1, hy1⟩ : ∃ y, y = i + 1 := ⟨_, rfl⟩
   obtain ⟨y2, hy2⟩ : ∃ y, y = r1 + 1 := ⟨_, rfl⟩
   obtain ⟨y3, hy3⟩ : ∃ y, y = t9 := ⟨_, rfl⟩
   refine ⟨⟨(y1, y2, y3), ?_⟩, ?_, ?_⟩
   rotate_left
   ·cbv
    exact nG
   ·exact eG
   ·rw [hy1, hy2, hy3]; exact hnx
 ·rename_i g gn
  have hi := hi' () g
  obtain ⟨t1, t2, l2, n, r2, r3, f1, f2, f3, f4, f5, f6, f7, f8, f9, f10⟩ := hel () hi
  try simp only [bBG] at f2
  have f5' : A.set t (A.nat i) (A.setc (A.el t (A.nat i)) 0 [.val (.bool (A.eq (A.rem .i64 q 3) 0))]) = t1 := by rw [hbb]; subst hA; exact f5
  simp only [f5'] at gn ⊢
  have gn' : aA (ys.getD i.toNat noY).2.1 ≠ [] := by
   have : ∃ l, l ≠ [] ∧ cellAt (t1.getD i.toNat D0) 1 = .lst l := by subst hA; exact gn
   obtain ⟨l, h1, h2⟩ := this
   rw [f7] at h2
   rw [PV.lst.inj h2]; exact h1
  have hnl : n ≤ 2000000 := by rw [f1]; exact hn () hi
  obtain ⟨f11, f12, f13⟩ := f10 t2 (.inr rfl)
  have hnx := aJ hi
  rw [← f1] at hnx
  have e13 : q + 2 + (n : Int) = r2 + 1 := by omega
  have f11' : A.valc (A.el t2 (A.nat i)) 2 1 := aDG hA (by subst hA; exact f11)
  have f12' : A.set t2 (A.nat i) (A.setc (A.el t2 (A.nat i)) 2 [.val (.int .i64 r2)]) = t.set i.toNat (aW (qY q n)) := by subst hA; exact f12
  rw [e13] at hnx
  obtain ⟨t9, ht9⟩ : ∃ t9, t9 = t.set i.toNat (aW (qY q n)) := ⟨_, rfl⟩
  rw [← ht9] at hnx f12'
  have hl2 : A.len t2 = A.len t := by subst hA; exact f13.trans htl.symm
  have hk1 : A.nat i < t1.length := by subst hA; exact f8
  have hc1 : cellAt (t1.getD (A.nat i) D0) 1 = .lst (aA (ys.getD i.toNat noY).2.1) := by subst hA; exact f7
  have he1 : t2 = t1.set (A.nat i) (setCells (t1.getD (A.nat i) D0) 1 [.lst l2]) := by subst hA; exact f9
  have hv1 : qT l2 := by rw [f4]; exact vA
  have hmk := fun (P' : Program) (C' : Cx P' gl) => wF C' (rfl : aA (ys.getD i.toNat noY).2.1 = _) (by rw [f4, f1] : l2 = aA (up1 r1 (ys.getD i.toNat noY).2.1.length)) (by rw [f2, f1] : r2 = r1 + ((ys.getD i.toNat noY).2.1.length : Int)) (hn () hi) b6 (by omega)
  have bA1 : r2 ≤ 1000000000 := by omega
  have bA2 : 0 ≤ r2 := by omega
  obtain ⟨l1, hl1⟩ : ∃ l1, l1 = aA (ys.getD i.toNat noY).2.1 := ⟨_, rfl⟩
  rw [← hl1] at gn' hc1 hmk
  clear hel hi' hn aJ aN f1 f2 f3 f4 f5 f5' f6 f7 f8 f9 f10 f11 f12 gn e13 ht9 hbb hl1
  iterate 2 all_goals try cbv; with_reducible repeat' first | exact ⟨⟩ | apply And.intro | intro _
  all_goals try exact oG
  simp only [hr1']
  refine aXE hA (els' := t2) (l := l1) (l' := l2) (v := .int .i64 r2) rfl rfl (by decide) (by simp only [fQ, xN, and_self, if_true]) hk1 hc1 gn' hv1 he1 (hmk P C) ?_
  clear hk1 hc1 gn' hv1 he1 hmk
  iterate 2 all_goals try cbv; with_reducible repeat' first | exact ⟨⟩ | apply And.intro | intro _
  all_goals try exact oG
  ·exact f11'
  ·simp only [f12']
   clear f12' hr1' hl2 f11'
   obtain ⟨y1, hy1⟩ : ∃ y, y = i + 1 := ⟨_, rfl⟩
   obtain ⟨y2, hy2⟩ : ∃ y, y = r2 + 1 := ⟨_, rfl⟩
   obtain ⟨y3, hy3⟩ : ∃ y, y = t9 := ⟨_, rfl⟩
   refine ⟨⟨(y1, y2, y3), ?_⟩, ?_, ?_⟩
   rotate_left
   ·cbv
    exact nG
   ·exact eG
   ·rw [hy1, hy2, hy3]; exact hnx
 ·rename_i g
  have e := aN (by clear hel hn hbb hr1' hi' aJ aN; exact eG)
  have e1 : t = r := by rw [hr]; exact e.1
  have e2 : q = z := by rw [hz]; exact e.2
  simp only [e1, e2]
  subst hA
  exact ⟨[0], _, _, by decide, Nat.le_refl _, rfl, rfl, rfl, rfl, rfl, rfl⟩

theorem kU (C : Cx P gl) {ys : List aC} {p r : List PV} {k z n : Int} (hp : p = aB ys) (hr : r = aB (oE ys k)) (hz : z = k + 2 * ys.length + tot ys) (hl : ys.length ≤ 2000000) (ht : tot ys ≤ 2000000) (hk0 : 0 ≤ k) (hk : k ≤ 100000000) :
  FX P gl 29 [.tree 64 3 3 p] [.agg [.pv (I n), .own 0], .pv (I k)] (fun own rr => own = [.tree 64 3 3 r] ∧ rr = .pv (I z)) := by
 refine gX6 C func29 rfl rfl rfl fun A hA hI => ?_
 iterate 2 all_goals try cbv; with_reducible repeat' first | exact ⟨⟩ | apply And.intro | intro _
 all_goals try exact oG
 refine gO hA [0] (by decide) rfl rfl rfl (aIT C hp hr hz hl ht hk0 hk) ?_
 rintro _ _ ⟨rfl, rfl⟩
 refine ⟨rfl, ?_⟩
 iterate 2 all_goals try cbv; with_reducible repeat' first | exact ⟨⟩ | apply And.intro | intro _
 all_goals try exact oG
 subst hA
 exact ⟨[0], _, _, by decide, Nat.le_refl _, rfl, rfl, rfl, rfl, rfl, rfl⟩

theorem aF6 (C : Cx P gl) {k : Int} : FS P gl 30 [.lst [], I k] (· = I k) := by
 refine gS C func30 rfl rfl rfl fun A hA hI => ?_
 iterate 2 all_goals try cbv; with_reducible repeat' first | exact ⟨⟩ | apply And.intro | intro _
 all_goals try exact oG
 refine aZ hA [] (ι := Int) (fun x => [(1, .pv (I k)), (5, .pv (I x))]) (fun x => []) (fun x => 0) (fun x => x = 0) 0 (by rfl) ?_ ?_ ?_
 all_goals try exact tG
 rintro i rfl
 iterate 2 all_goals try cbv; with_reducible repeat' first | exact ⟨⟩ | apply And.intro | intro _
 all_goals try exact oG
 iterate 2 all_goals try cbv; with_reducible repeat' first | exact ⟨⟩ | apply And.intro | intro _
 all_goals try exact oG

theorem aF7 (C : Cx P gl) {k n : Int} : FS P gl 29 [.agg [I n, .lst []], I k] (· = I k) := by
 refine gS C func29 rfl rfl rfl fun A hA hI => ?_
 iterate 2 all_goals try cbv; with_reducible repeat' first | exact ⟨⟩ | apply And.intro | intro _
 all_goals try exact oG
 refine aD hA rfl (aF6 C) ?_; rintro _ rfl
 iterate 2 all_goals try cbv; with_reducible repeat' first | exact ⟨⟩ | apply And.intro | intro _
 all_goals try exact oG

end Tryz
end Go.Proofs
