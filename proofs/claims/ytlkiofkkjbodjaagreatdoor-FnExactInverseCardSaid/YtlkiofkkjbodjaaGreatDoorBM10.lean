/- Contracts: sums of matrices in the reference. -/
import Derived.Test.YtlkiofkkjbodjaaGreatDoorBN29
import Derived.Test.YtlkiofkkjbodjaaGreatDoorBM7
set_option maxHeartbeats 1000000
set_option maxRecDepth 100000
namespace Go.Proofs
open Go Go.Pe Go.Dg
namespace Tryz

theorem gX4 {P : Program} {gl : List (Nat × Obj)} (C : Tryz.Cx P gl) {f : FuncId} {fn : Func} {c : Code} {own : List Blk} {args : List FV} {R : List Blk → FV → Prop} (hf : Tryz.prog.funcs[f]? = some fn) (hb : fn.body = some c) (hm : (fn.name == "runtime.NumGoroutine") = false) (hn : Nat.ble args.length fn.ntmps = true)
 (hv : ∀ A, A = AR.std → aA = A.ints → iU P Tryz.T A gl .any c (aT1 Tryz.T A fn.results.toList own.length R) ⟨cS 0 args, own, fn.ntmps, own.length⟩) : FX P gl f own args R := by
 obtain ⟨rfl, hG⟩ := C
 exact aNL (own := fun _ => own) (args := fun _ => args) (R := fun _ => R) Tryz.hT Tryz.mix hf hb hm (Nat.le_of_ble_eq_true hn) fun A hA => hv A hA (by subst hA; rfl)

set_option linter.unusedSimpArgs false
set_option linter.unusedVariables false
variable {P : Program} {gl : List (Nat × Obj)}

theorem aCG (C : Cx P gl) {z e : Int} {p : List PV} {s : Bool} (hp : p = aA (dg z.natAbs)) (hs : s = decide (z < 0)) (hl : (dg z.natAbs).length ≤ 1000000000) : FS P gl 93 [.agg [B s, .lst p, I e]] (· = .agg [B s, .lst p, I e]) := by
 have hs' : s = (s && decide (z.natAbs ≠ 0)) := by
  rw [hs, Bool.eq_iff_iff, Bool.and_eq_true, decide_eq_true_eq, decide_eq_true_eq]
  omega
 have hm := fun (P' : Program) (C' : Cx P' gl) => dG C' hp hs' hl
 clear hp hs hs'
 refine gS C func93 rfl rfl rfl fun A hA hI => ?_
 iterate 2 all_goals try cbv; with_reducible repeat' first | exact ⟨⟩ | apply And.intro | intro _
 all_goals try exact oG
 refine ⟨_, hm P C, ?_⟩
 iterate 2 all_goals try cbv; with_reducible repeat' first | exact ⟨⟩ | apply And.intro | intro _
 all_goals try exact oG

theorem aQC (C : Cx P gl) {ys : List aC} {L : Nat} {p : List PV} {n : Int} (hp : p = aB ys) (hx : XW L ys) (hL : L ≤ 1000000) (hl : ys.length ≤ 1000000) :
  FS P gl 92 [.agg [I n, .lst p]] (· = .agg [I n, .lst p]) := by
 refine gS C func92 rfl rfl rfl fun A hA hI => ?_
 iterate 2 all_goals try cbv; with_reducible repeat' first | exact ⟨⟩ | apply And.intro | intro _
 all_goals try exact oG
 refine aZ hA [.cell 2 1 64 3] (ι := Int × List PV) (fun x => [(4, .pv (I x.1))]) (fun x => [(3, .row 64 3 x.2)]) (fun x => (ys.length - x.1).toNat) (fun x => 0 ≤ x.1 ∧ x.1 ≤ ys.length ∧ x.2 = aB (ys.take x.1.toNat)) (0, []) (by rfl) ?_ ?_ ?_
 all_goals try exact tG
 ·exact ⟨Int.le_refl _, by omega, rfl⟩
 rintro ⟨i, q⟩ ⟨hi0, hi1, hq⟩
 simp only at hi0 hi1 hq
 have hql : q.length ≤ 1000000 := by rw [hq, aV, List.length_take]; omega
 have hxi := hx i.toNat
 have fH : i.toNat = ys.length → q = p := by intro h; rw [hq, hp, h, List.take_length]
 have hq2 : ∀ _ : Unit, i < ys.length → q ++ [aW (ys.getD i.toNat noY)] = aB (ys.take (i.toNat + 1)) := fun _ h => by rw [hq, aPS (by omega)]
 clear hx hq
 iterate 2 all_goals try cbv; with_reducible repeat' first | exact ⟨⟩ | apply And.intro | intro _
 all_goals try exact oG
 ·rename_i g
  have gi : i < ys.length := by clear fH hxi hq2; exact eG
  have hlt : i.toNat < ys.length := by omega
  have aF1 : i + 1 ≤ ys.length := by omega
  have hq3 := hq2 () gi
  obtain ⟨z, a1, a2, a4⟩ := hxi hlt
  have hgl : A.gl (A.el p (A.nat i)) 1 = aA (dg z.natAbs) := by rw [← a2]; clear fH hxi hq2 hq3 a1 a2 a4; (subst hA; subst_vars; simp only [AR.std, bBG, sG, reduceCtorEq] at *; try simp (disch := omega) only [AR.std, bBG, sG, reduceCtorEq] at *)
  have hgb : A.gb (A.el p (A.nat i)) 0 = decide (z < 0) := by rw [← a1]; clear fH hxi hq2 hq3 a1 a2 a4 hgl; (subst hA; subst_vars; simp only [AR.std, bBG, sG, reduceCtorEq] at *; try simp (disch := omega) only [AR.std, bBG, sG, reduceCtorEq] at *)
  have hra : A.app q [.agg [B (A.gb (A.el p (A.nat i)) 0), .lst (A.gl (A.el p (A.nat i)) 1), I (A.gi (A.el p (A.nat i)) 2)]] = q ++ [aW (ys.getD i.toNat noY)] := by clear fH hxi hq2 hq3 a1 a2 a4 hgl hgb; (subst hA; subst_vars; simp only [AR.std, bBG, sG, reduceCtorEq] at *; try simp (disch := omega) only [AR.std, bBG, sG, reduceCtorEq] at *)
  obtain ⟨r', hr'⟩ : ∃ r', r' = q ++ [aW (ys.getD i.toNat noY)] := ⟨_, rfl⟩
  rw [← hr'] at hra hq3
  refine ⟨_, aCG C hgl hgb (by omega), ?_⟩
  clear hgl hgb fH hxi hq2 a1 a2 a4 hr'
  iterate 2 all_goals try cbv; with_reducible repeat' first | exact ⟨⟩ | apply And.intro | intro _
  all_goals try exact oG
  all_goals try exact kP hA (by intro x hx; rw [List.mem_singleton.1 hx]; exact ⟨rfl, rfl⟩)
  all_goals try exact lU hA (by simp only [List.length_singleton]; omega)
  simp only [hra]
  clear hra
  obtain ⟨y1, hy1⟩ : ∃ y, y = i + 1 := ⟨_, rfl⟩
  obtain ⟨y2, hy2⟩ : ∃ y, y = r' := ⟨_, rfl⟩
  refine ⟨⟨(y1, y2), ?_⟩, ?_, ?_⟩
  rotate_left
  ·cbv
   exact nG
  ·exact eG
  ·rw [hy1, hy2]
   refine ⟨by simp only; omega, aF1, ?_⟩
   simp only
   rw [show (i + 1).toNat = i.toNat + 1 by omega]; exact hq3
 ·rename_i g
  have e := fH (by clear fH hxi hq2; exact eG)
  simp only [e]

theorem aQD (C : Cx P gl) {n : Int} {u : List PV} (hn : 0 ≤ n) (hn4 : n ≤ 100) (hu : u = aB (List.replicate (n * n).toNat noY)) :
  FX P gl 142 [] [.pv (I n)] (fun own rr => own = [.row 64 3 u] ∧ rr = .agg [.pv (I n), .own 0]) := by
 have hnn : 0 ≤ n * n ∧ n * n ≤ 10000 := by
  have h3 : n * n ≤ 100 * n := Int.mul_le_mul_of_nonneg_right hn4 hn
  have h4 := Int.mul_nonneg hn hn
  omega
 obtain ⟨k, hk⟩ : ∃ k, k = n * n := ⟨_, rfl⟩
 rw [← hk] at hu hnn
 refine gX4 C func142 rfl rfl rfl fun A hA hI => ?_
 have ek : A.mul .i64 n n = k := by
  clear hu
  subst hA
  simp only [AR.std]
  rw [← hk, aX (by omega) (by omega)]
 iterate 2 all_goals try cbv; with_reducible repeat' first | exact ⟨⟩ | apply And.intro | intro _
 all_goals try exact oG
 all_goals simp only [ek]
 ·have e0 : A.rep k (.agg [B false, .lst [], I 0]) = u := by
   rw [hu]; subst hA
   show List.replicate k.toNat (aW noY) = _
   rw [aPQ]
  simp only [e0]
  subst hA
  exact ⟨[1], _, _, by decide, Nat.zero_le _, rfl, rfl, rfl, rfl, rfl, rfl⟩

theorem pN (C : Cx P gl) {n : Int} {u : List PV} (hn : 0 ≤ n) (hn4 : n ≤ 100) (hu : u = aB (List.replicate (n * n).toNat noY)) :
  FN P gl 142 [I n] (fun own rr => own = [.row 64 3 u] ∧ rr = .agg [.pv (I n), .own 0]) :=
 kO (aQD C hn hn4 hu) (by rintro _ _ ⟨rfl, rfl⟩; exact ⟨by simpa using aFV hu _ _, rfl⟩)

theorem aF2 (C : Cx P gl) {ys zs : List aC} {d1 d2 : Nat → Dyadic} {L E : Nat} {p q r : List PV} {n m : Int} (hp : p = aB ys) (hq : q = aB zs) (h1 : XL d1 L E ys) (h2 : XL d2 L E zs) (hL : L ≤ 100000) (hE : E ≤ 90000) (hn : 0 ≤ n) (hn4 : n ≤ 100)
  (hyl : (ys.length : Int) = n * n) (hzl : (zs.length : Int) = n * n) (hr : r = aB (cW (fun k => d1 k - d2 k) ys.length)) :
  FS P gl 165 [.agg [I n, .lst p], .agg [I m, .lst q], B true] (· = .agg [I n, .lst r]) := by
 have hnn : 0 ≤ n * n ∧ n * n ≤ 10000 := by
  have h3 : n * n ≤ 100 * n := Int.mul_le_mul_of_nonneg_right hn4 hn
  have h4 := Int.mul_nonneg hn hn
  omega
 have aDM : ys.length ≤ 10000 := by omega
 obtain ⟨u0, hu0⟩ : ∃ u, u = aB (List.replicate ys.length noY) := ⟨_, rfl⟩
 have cR := fun (P' : Program) (C' : Cx P' gl) => pN C' hn hn4 (by rw [hu0, show ys.length = (n * n).toNat by omega] : u0 = aB (List.replicate (n * n).toNat noY))
 have hzy : zs.length = ys.length := by omega
 clear hyl hzl hnn
 refine gS C func165 rfl rfl rfl fun A hA hI => ?_
 iterate 2 all_goals try cbv; with_reducible repeat' first | exact ⟨⟩ | apply And.intro | intro _
 all_goals try exact oG
 refine dE hA rfl (cR P C) ?_; rintro _ _ ⟨rfl, rfl⟩; refine ⟨rfl, ?_⟩
 clear cR
 iterate 2 all_goals try cbv; with_reducible repeat' first | exact ⟨⟩ | apply And.intro | intro _
 all_goals try exact oG
 refine aZ hA [] (ι := Int × List PV) (fun x => [(8, .pv (I x.1))]) (fun x => [(3, .row 64 3 x.2)]) (fun x => (ys.length - x.1).toNat) (fun x => 0 ≤ x.1 ∧ x.1 ≤ ys.length ∧ x.2 = aB (cW (fun k => d1 k - d2 k) x.1.toNat ++ List.replicate (ys.length - x.1.toNat) noY)) (0, u0) (by rfl) ?_ ?_ ?_
 all_goals try exact tG
 ·exact ⟨Int.le_refl _, by omega, by rw [hu0]; rfl⟩
 rintro ⟨i, t⟩ ⟨hi0, hi1, ht⟩
 simp only at hi0 hi1 ht
 have htl : t.length = ys.length := by
  rw [ht, aV, List.length_append, bU, List.length_replicate]; omega
 have hy1' := h1 i.toNat
 have hz1' := h2 i.toNat
 have hex : i.toNat = ys.length → t = r := by
  intro h
  rw [ht, hr, h, Nat.sub_self, List.replicate_zero, List.append_nil]
 have hnx : ∀ _ : Unit, i < ys.length → t.set i.toNat (aW (aG (d1 i.toNat - d2 i.toNat))) = aB (cW (fun k => d1 k - d2 k) (i.toNat + 1) ++ List.replicate (ys.length - (i.toNat + 1)) noY) := by
  intro _ h
  rw [ht, oA, vB, List.append_assoc]
  congr 1
  rw [List.set_append_right _ _ (by rw [bU]; exact Nat.le_refl _), bU, Nat.sub_self, show ys.length - i.toNat = (ys.length - (i.toNat + 1)) + 1 by omega, List.replicate_succ]
  rfl
 clear h1 h2 ht hr hu0
 iterate 2 all_goals try cbv; with_reducible repeat' first | exact ⟨⟩ | apply And.intro | intro _
 all_goals try exact oG
 ·rename_i g
  have gi : i < ys.length := by clear hnx hex hy1' hz1'; exact eG
  have hlt : i.toNat < ys.length := by omega
  have aF1 : i + 1 ≤ ys.length := by omega
  have tK := hnx () gi
  obtain ⟨z1, a1, a2, a3, a4, a5⟩ := hy1' hlt
  obtain ⟨z2, b1, b2, b3, b4, b5⟩ := hz1' (by omega)
  have aIP : A.gl (A.el p (A.nat i)) 1 = aA (dg z1.natAbs) := by rw [← a2]; clear hnx hex hy1' hz1' tK a1 a2 a3 a4 a5 b1 b2 b3 b4 b5; (subst hA; subst_vars; simp only [AR.std, bBG, sG, reduceCtorEq] at *; try simp (disch := omega) only [AR.std, bBG, sG, reduceCtorEq] at *)
  have aMI : A.gb (A.el p (A.nat i)) 0 = decide (z1 < 0) := by rw [← a1]; clear hnx hex hy1' hz1' tK a1 a2 a3 a4 a5 b1 b2 b3 b4 b5 aIP; (subst hA; subst_vars; simp only [AR.std, bBG, sG, reduceCtorEq] at *; try simp (disch := omega) only [AR.std, bBG, sG, reduceCtorEq] at *)
  have aMJ : A.gi (A.el p (A.nat i)) 2 = (ys.getD i.toNat noY).2.2 := by clear hnx hex hy1' hz1' tK a1 a2 a3 a4 a5 b1 b2 b3 b4 b5 aIP aMI; (subst hA; subst_vars; simp only [AR.std, bBG, sG, reduceCtorEq] at *; try simp (disch := omega) only [AR.std, bBG, sG, reduceCtorEq] at *)
  have aQE : A.gl (A.el q (A.nat i)) 1 = aA (dg z2.natAbs) := by rw [← b2]; clear hnx hex hy1' hz1' tK a1 a2 a3 a4 a5 b1 b2 b3 b4 b5 aIP aMI aMJ; (subst hA; subst_vars; simp only [AR.std, bBG, sG, reduceCtorEq] at *; try simp (disch := omega) only [AR.std, bBG, sG, reduceCtorEq] at *)
  have aVM : A.gb (A.el q (A.nat i)) 0 = decide (z2 < 0) := by rw [← b1]; clear hnx hex hy1' hz1' tK a1 a2 a3 a4 a5 b1 b2 b3 b4 b5 aIP aMI aMJ aQE; (subst hA; subst_vars; simp only [AR.std, bBG, sG, reduceCtorEq] at *; try simp (disch := omega) only [AR.std, bBG, sG, reduceCtorEq] at *)
  have aVN : A.gi (A.el q (A.nat i)) 2 = (zs.getD i.toNat noY).2.2 := by clear hnx hex hy1' hz1' tK a1 a2 a3 a4 a5 b1 b2 b3 b4 b5 aIP aMI aMJ aQE aVM; (subst hA; subst_vars; simp only [AR.std, bBG, sG, reduceCtorEq] at *; try simp (disch := omega) only [AR.std, bBG, sG, reduceCtorEq] at *)
  have hg1e' : (A.gi (A.el p (A.nat i)) 2).natAbs ≤ 100000 := by rw [aMJ]; omega
  have hg2e' : (A.gi (A.el q (A.nat i)) 2).natAbs ≤ 100000 := by rw [aVN]; omega
  obtain ⟨d, hd⟩ : ∃ d, d = d1 i.toNat - d2 i.toNat := ⟨_, rfl⟩
  have hd' : d = mk z1 (A.gi (A.el p (A.nat i)) 2) + mk (-z2) (A.gi (A.el q (A.nat i)) 2) := by rw [aMJ, aVN, ← a3, ← uR, ← b3, hd]; grind
  obtain ⟨rr, hrr⟩ : ∃ rr, rr = aA (dg (cZ d).natAbs) := ⟨_, rfl⟩
  obtain ⟨u, hu⟩ : ∃ u, u = decide (cZ d < 0) := ⟨_, rfl⟩
  obtain ⟨f, hf⟩ : ∃ f, f = cE d := ⟨_, rfl⟩
  have aXO : t.set i.toNat (.agg [B u, .lst rr, I f]) = aB (cW (fun k => d1 k - d2 k) (i.toNat + 1) ++ List.replicate (ys.length - (i.toNat + 1)) noY) := by rw [← tK, ← hd, hrr, hu, hf]; rfl
  obtain ⟨t9, ht9⟩ : ∃ t9, t9 = t.set i.toNat (.agg [B u, .lst rr, I f]) := ⟨_, rfl⟩
  have hst : A.set t (A.nat i) (.agg [B u, .lst rr, I f]) = t9 := by rw [ht9]; subst hA; rfl
  rw [← ht9] at aXO
  obtain ⟨sn, hsn⟩ : ∃ sn, sn = decide (0 < z2) := ⟨_, rfl⟩
  iterate 2 all_goals try cbv; with_reducible repeat' first | exact ⟨⟩ | apply And.intro | intro _
  all_goals try exact oG
  refine aD hA rfl (zL C (z := z2) aQE aVM hsn (by omega)) ?_; rintro _ rfl
  iterate 2 all_goals try cbv; with_reducible repeat' first | exact ⟨⟩ | apply And.intro | intro _
  all_goals try exact oG
  iterate 2 all_goals try cbv; with_reducible repeat' first | exact ⟨⟩ | apply And.intro | intro _
  all_goals try exact oG
  refine ⟨_, pO C aIP aMI (show A.gl (A.el q (A.nat i)) 1 = aA (dg (-z2).natAbs) by rw [aQE, Int.natAbs_neg]) (show sn = decide (-z2 < 0) by rw [hsn, decide_eq_decide]; omega) hd' hrr hu hf hg1e' hg2e' (by omega) (by rw [Int.natAbs_neg]; omega), ?_⟩
  clear hnx hex hy1' hz1' tK a1 a2 a3 a4 a5 b1 b2 b3 b4 b5 aIP aMI aMJ aQE aVM aVN hg1e' hg2e' hd hd' hrr hu hf ht9
  iterate 2 all_goals try cbv; with_reducible repeat' first | exact ⟨⟩ | apply And.intro | intro _
  all_goals try exact oG
  simp only [hst]
  clear hst
  obtain ⟨y1, hy1⟩ : ∃ y, y = i + 1 := ⟨_, rfl⟩
  obtain ⟨y2, hy2⟩ : ∃ y, y = t9 := ⟨_, rfl⟩
  refine ⟨⟨(y1, y2), ?_⟩, ?_, ?_⟩
  rotate_left
  ·cbv
   exact nG
  ·exact eG
  ·rw [hy1, hy2]
   refine ⟨by simp only; omega, aF1, ?_⟩
   simp only
   rw [show (i + 1).toNat = i.toNat + 1 by omega]; exact aXO
 ·rename_i g
  have e := hex (by clear hnx hex hy1' hz1'; exact eG)
  rw [e]

end Tryz
end Go.Proofs
