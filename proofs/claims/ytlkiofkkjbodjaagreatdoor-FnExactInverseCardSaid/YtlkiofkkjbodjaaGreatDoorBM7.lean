/- Contracts: lists of numbers, each in a canonical form in memory of its own. -/
import Derived.Test.YtlkiofkkjbodjaaGreatDoorBM5
import Derived.Test.YtlkiofkkjbodjaaGreatDoorBN29
import Derived.Test.YtlkiofkkjbodjaaGreatDoorBEvD
set_option maxHeartbeats 1000000
set_option maxRecDepth 100000
namespace Go.Proofs
open Go Go.Pe Go.Dg
namespace Tryz

theorem gX7 {P : Program} {gl : List (Nat × Obj)} (C : Tryz.Cx P gl) {f : FuncId} {fn : Func} {c : Code} {own : List Blk} {args : List FV} {R : List Blk → FV → Prop} (hf : Tryz.prog.funcs[f]? = some fn) (hb : fn.body = some c) (hm : (fn.name == "runtime.NumGoroutine") = false) (hn : Nat.ble args.length fn.ntmps = true)
 (hv : ∀ A, A = AR.std → aA = A.ints → iU P Tryz.T A gl .any c (aT1 Tryz.T A fn.results.toList own.length R) ⟨cS 0 args, own, fn.ntmps, own.length⟩) : FX P gl f own args R := by
 obtain ⟨rfl, hG⟩ := C
 exact aNL (own := fun _ => own) (args := fun _ => args) (R := fun _ => R) Tryz.hT Tryz.mix hf hb hm (Nat.le_of_ble_eq_true hn) fun A hA => hv A hA (by subst hA; rfl)

set_option linter.unusedSimpArgs false
set_option linter.unusedVariables false
variable {P : Program} {gl : List (Nat × Obj)}

theorem aGC (C : Cx P gl) {xs : List aC} {dd : Nat → Dyadic} {L E : Nat} {p r : List PV} {w : Bool} (hp : p = aB xs) (hx : ∀ k, k < xs.length → X (dd k) L E (xs.getD k noY)) (hL : L ≤ 1000000) (hE : E ≤ 100000)
  (hw : w = true ↔ ∀ k, k < xs.length → fits (dd k)) (hr : r = aB (cW dd xs.length)) (hn : xs.length ≤ 1000000) :
  FX P gl 230 [] [.pv (.lst p)] (fun own rr => (w = true ∧ own = [.tree 64 3 3 r] ∧ rr = .tup [.own 0, .pv (B true)]) ∨ (w = false ∧ own = [] ∧ rr = .tup [.pv (.val (.slice none 0 0)), .pv (B false)])) := by
 refine gX7 C func230 rfl rfl rfl fun A hA hI => ?_
 iterate 2 all_goals try cbv; with_reducible repeat' first | exact ⟨⟩ | apply And.intro | intro _
 all_goals try exact oG
 refine aO9 hA [.slot 4 64 3, .tree 0 3] (ι := Int × List PV) (fun x => [(4, .own 0), (11, .pv (I x.1))]) (fun x => [(0, .tree 64 3 3 x.2)]) (fun x => (xs.length - x.1).toNat) (fun x => 0 ≤ x.1 ∧ x.1 ≤ xs.length ∧ x.2 = aB (cW dd x.1.toNat) ∧ ∀ k, k < x.1.toNat → fits (dd k)) (0, []) (by rfl) ?_ ?_ ?_ ?_
 all_goals try exact tG
 ·exact ⟨trivial, ⟨Nat.zero_le _, fun x hx => by cases hx⟩, trivial⟩
 ·exact ⟨Int.le_refl _, by omega, rfl, fun k hk => by simp at hk⟩
 rintro ⟨i, q⟩ ⟨hi0, hi1, hq, hf⟩
 simp only at hi0 hi1 hq hf
 have hql : q.length ≤ 1000000 := by rw [hq, aV, bU]; omega
 have hxi := hx i.toNat
 have hnx : fits (dd i.toNat) → ∀ k, k < i.toNat + 1 → fits (dd k) := by
  intro h k hk
  by_cases hki : k = i.toNat
  ·rw [hki]; exact h
  ·exact hf k (by omega)
 have fH : i.toNat = xs.length → w = true := fun h => hw.2 (by rw [← h]; exact hf)
 have iD : i.toNat < xs.length → ¬fits (dd i.toNat) → w = false := by
  intro h1 h2
  cases hwc : w with
  | false => rfl
  | true => exact absurd (hw.1 hwc _ h1) h2
 have hq2 : q ++ [aW (aG (dd i.toNat))] = aB (cW dd (i.toNat + 1)) := by rw [hq, vB, ← tF]; rfl
 clear hx hf hw
 iterate 2 all_goals try cbv; with_reducible repeat' first | exact ⟨⟩ | apply And.intro | intro _
 all_goals try exact oG
 ·rename_i g
  have gi : i < xs.length := by clear hq hr hq2 iD fH hnx hxi; exact eG
  have hlt : i.toNat < xs.length := by omega
  have aF1 : i + 1 ≤ xs.length := by omega
  obtain ⟨z, h1, h2, h3, h4, h5⟩ := hxi hlt
  obtain ⟨d, hd⟩ : ∃ d, d = dd i.toNat := ⟨_, rfl⟩
  rw [← hd] at h3 hnx iD hq2
  obtain ⟨e, he⟩ : ∃ e, e = (xs.getD i.toNat noY).2.2 := ⟨_, rfl⟩
  rw [← he] at h3 h5
  have hgl : A.gl (A.el p (A.nat i)) 1 = aA (dg z.natAbs) := by rw [← h2]; clear hq hr hq2 iD fH hnx hxi h1 h2 h3 h4 h5 hd he; (subst hA; subst_vars; simp only [AR.std, bBG, sG, reduceCtorEq] at *; try simp (disch := omega) only [AR.std, bBG, sG, reduceCtorEq] at *)
  have hgb : A.gb (A.el p (A.nat i)) 0 = decide (z < 0) := by rw [← h1]; clear hq hr hq2 iD fH hnx hxi h1 h2 h3 h4 h5 hd he hgl; (subst hA; subst_vars; simp only [AR.std, bBG, sG, reduceCtorEq] at *; try simp (disch := omega) only [AR.std, bBG, sG, reduceCtorEq] at *)
  have hge : A.gi (A.el p (A.nat i)) 2 = e := by rw [he]; clear hq hr hq2 iD fH hnx hxi h1 h2 h3 h4 h5 hd he hgl hgb; (subst hA; subst_vars; simp only [AR.std, bBG, sG, reduceCtorEq] at *; try simp (disch := omega) only [AR.std, bBG, sG, reduceCtorEq] at *)
  by_cases hz : z = 0
  ·have hd0 : d = 0 := by rw [h3, hz, mk_zero]
   have aXV : A.gl (A.el p (A.nat i)) 1 = [] := by rw [hgl, hz, show Int.natAbs 0 = 0 from rfl, aO]; rfl
   have tP : fits d := by rw [hd0]; exact ⟨by rw [dT, show Int.natAbs 0 = 0 from rfl, aO]; exact Nat.zero_le _, by decide, by decide⟩
   have tK := hnx tP
   have hq3 : q ++ [.agg [B false, .lst [], I 0]] = aB (cW dd (i.toNat + 1)) := by rw [← hq2, hd0, gJ]; rfl
   obtain ⟨r', hr'⟩ : ∃ r', r' = q ++ [.agg [B false, .lst [], I 0]] := ⟨_, rfl⟩
   have hra : A.app q [.agg [B false, .lst [], I 0]] = r' := by rw [hr']; subst hA; rfl
   rw [← hr'] at hq3
   simp only [aXV]
   clear hq hr hq2 iD fH hnx hxi h1 h2 h3 h4 h5 hd he hgl hgb hge aXV hd0 tP hr'
   refine aD hA rfl (aI1 C) ?_; rintro _ rfl
   iterate 2 all_goals try cbv; with_reducible repeat' first | exact ⟨⟩ | apply And.intro | intro _
   all_goals try exact oG
   all_goals try exact kP hA (by intro x hx; rw [List.mem_singleton.1 hx]; exact ⟨rfl, rfl⟩)
   all_goals try exact aU5 hA (by intro x hx; rw [List.mem_singleton.1 hx]; rfl)
   all_goals try exact lU hA (by simp only [List.length_singleton]; omega)
   simp only [hra]
   clear hra
   obtain ⟨y1, hy1⟩ : ∃ y, y = i + 1 := ⟨_, rfl⟩
   obtain ⟨y2, hy2⟩ : ∃ y, y = r' := ⟨_, rfl⟩
   refine ⟨⟨(y1, y2), ?_⟩, ?_, ?_⟩
   rotate_left
   ·cbv
    exact nG
   ·exact eG
   ·rw [hy1, hy2]
    refine ⟨by simp only; omega, aF1, ?_, ?_⟩ <;> simp only <;> rw [show (i + 1).toNat = i.toNat + 1 by omega]
    ·exact hq3
    ·exact tK
  ·by_cases tP : fits d
   ·obtain ⟨rr, hrr⟩ : ∃ rr, rr = aA (dg (cZ d).natAbs) := ⟨_, rfl⟩
    obtain ⟨u, hu⟩ : ∃ u, u = decide (cZ d < 0) := ⟨_, rfl⟩
    obtain ⟨f, hf⟩ : ∃ f, f = cE d := ⟨_, rfl⟩
    have tK := hnx tP
    have hq3 : q ++ [.agg [B u, .lst rr, I f]] = aB (cW dd (i.toNat + 1)) := by rw [← hq2, hrr, hu, hf]; rfl
    obtain ⟨r', hr'⟩ : ∃ r', r' = q ++ [.agg [B u, .lst rr, I f]] := ⟨_, rfl⟩
    have hra : A.app q [.agg [B u, .lst rr, I f]] = r' := by rw [hr']; subst hA; rfl
    rw [← hr'] at hq3
    have hva : A.aHD rr := aJ4 hA (by rw [hrr]; exact vA)
    refine dE hA rfl (aQ1 C hgl hgb (by simp only [hge]; exact h3) hrr hu hf (by simp only [hge]; omega) (by omega) hz tP) ?_; rintro _ _ ⟨rfl, rfl⟩; refine ⟨rfl, ?_⟩
    clear hq hr hq2 iD fH hnx hxi h1 h2 h3 h4 h5 hd he hgl hgb hge hrr hu hf tP hr'
    iterate 2 all_goals try cbv; with_reducible repeat' first | exact ⟨⟩ | apply And.intro | intro _
    all_goals try exact oG
    all_goals try exact hva
    all_goals try exact lU hA (by simp only [List.length_singleton]; omega)
    simp only [hra]
    clear hra hva
    obtain ⟨y1, hy1⟩ : ∃ y, y = i + 1 := ⟨_, rfl⟩
    obtain ⟨y2, hy2⟩ : ∃ y, y = r' := ⟨_, rfl⟩
    refine ⟨⟨(y1, y2), ?_⟩, ?_, ?_⟩
    rotate_left
    ·cbv
     exact nG
    ·exact eG
    ·rw [hy1, hy2]
     refine ⟨by simp only; omega, aF1, ?_, ?_⟩ <;> simp only <;> rw [show (i + 1).toNat = i.toNat + 1 by omega]
     ·exact hq3
     ·exact tK
   ·have hwf := iD hlt tP
    refine aD hA rfl (aI2 C hgl hgb (by simp only [hge]; omega) (by omega) hz (by simp only [hge]; rw [← h3]; exact tP)) ?_; rintro _ rfl
    clear hq hr hq2 iD fH hnx hxi h1 h2 h3 h4 h5 hd he hgl hgb hge tP
    iterate 2 all_goals try cbv; with_reducible repeat' first | exact ⟨⟩ | apply And.intro | intro _
    all_goals try exact oG
    all_goals subst hA
    all_goals exact ⟨[], [], _, by decide, Nat.zero_le _, rfl, rfl, rfl, rfl, .inr ⟨hwf, rfl, rfl⟩⟩
 ·rename_i g
  have gi : i.toNat = xs.length := by clear hq hr hq2 iD fH hnx hxi; exact eG
  have hwt := fH gi
  have e : q = r := by rw [hq, hr, gi]
  simp only [e]
  subst hA
  exact ⟨[0], _, _, by decide, Nat.zero_le _, rfl, rfl, rfl, rfl, .inl ⟨hwt, rfl, rfl⟩⟩

theorem aQ2 (C : Cx P gl) {xs : List aC} {dd : Nat → Dyadic} {L E : Nat} {p r : List PV} (hp : p = aB xs) (hx : ∀ k, k < xs.length → X (dd k) L E (xs.getD k noY)) (hL : L ≤ 1000000) (hE : E ≤ 100000)
  (hw : ∀ k, k < xs.length → fits (dd k)) (hr : r = aB (cW dd xs.length)) (hn : xs.length ≤ 1000000) :
  FN P gl 230 [.lst p] (fun own rr => own = [.tree 64 3 3 r] ∧ rr = .tup [.own 0, .pv (B true)]) :=
 kO ((aGC C hp hx hL hE (w := true) ⟨fun _ => hw, fun _ => rfl⟩ hr hn).mono (by
  rintro o r (⟨_, h1, h2⟩ | ⟨h, _⟩)
  ·exact ⟨h1, h2⟩
  ·cases h)) (by rintro _ _ ⟨rfl, rfl⟩; exact ⟨by simp [fU], rfl⟩)

theorem aQ3 (C : Cx P gl) {xs : List aC} {dd : Nat → Dyadic} {L E : Nat} {p : List PV} (hp : p = aB xs) (hx : ∀ k, k < xs.length → X (dd k) L E (xs.getD k noY)) (hL : L ≤ 1000000) (hE : E ≤ 100000)
  (hw : ¬∀ k, k < xs.length → fits (dd k)) (hn : xs.length ≤ 1000000) :
  FS P gl 230 [.lst p] (· = .tup [.lst [], B false]) :=
 wX (R := fun own rr => own = [] ∧ rr = .tup [.pv (.val (.slice none 0 0)), .pv (B false)]) (kO ((aGC C hp hx hL hE (w := false) ⟨fun h => absurd h (by decide), fun h => absurd h hw⟩ rfl hn).mono (by
  rintro o r (⟨h, _⟩ | ⟨_, h1, h2⟩)
  ·cases h
  ·exact ⟨h1, h2⟩)) (by rintro _ _ ⟨rfl, rfl⟩; exact ⟨by simp, rfl⟩)) (by rintro _ _ ⟨rfl, rfl⟩; rfl)

theorem aI3 (C : Cx P gl) {xs : List aC} {dd : Nat → Dyadic} {L E : Nat} {p r : List PV} {n : Int} (hp : p = aB xs) (hx : ∀ k, k < xs.length → X (dd k) L E (xs.getD k noY)) (hL : L ≤ 1000000) (hE : E ≤ 100000)
  (hw : ∀ k, k < xs.length → fits (dd k)) (hr : r = aB (cW dd xs.length)) (hn : xs.length ≤ 1000000) :
  FX P gl 171 [] [.pv (.agg [I n, .lst p])] (fun own rr => own = [.tree 64 3 3 r] ∧ rr = .tup [.agg [.pv (I n), .own 0], .pv (B true)]) := by
 have fL := fun (P' : Program) (C' : Cx P' gl) => aQ2 C' hp hx hL hE hw hr hn
 clear hp hx hw hr
 refine gX7 C func171 rfl rfl rfl fun A hA hI => ?_
 iterate 2 all_goals try cbv; with_reducible repeat' first | exact ⟨⟩ | apply And.intro | intro _
 all_goals try exact oG
 refine dE hA rfl (fL P C) ?_; rintro _ _ ⟨rfl, rfl⟩; refine ⟨rfl, ?_⟩
 iterate 2 all_goals try cbv; with_reducible repeat' first | exact ⟨⟩ | apply And.intro | intro _
 all_goals try exact oG
 iterate 2 all_goals try cbv; with_reducible repeat' first | exact ⟨⟩ | apply And.intro | intro _
 all_goals try exact oG
 subst hA
 exact ⟨[2], _, _, by decide, Nat.zero_le _, rfl, rfl, rfl, rfl, rfl, rfl⟩

theorem rR (C : Cx P gl) {xs : List aC} {dd : Nat → Dyadic} {L E : Nat} {p r : List PV} {n : Int} (hp : p = aB xs) (hx : ∀ k, k < xs.length → X (dd k) L E (xs.getD k noY)) (hL : L ≤ 1000000) (hE : E ≤ 100000)
  (hw : ∀ k, k < xs.length → fits (dd k)) (hr : r = aB (cW dd xs.length)) (hn : xs.length ≤ 1000000) :
  FN P gl 171 [.agg [I n, .lst p]] (fun own rr => own = [.tree 64 3 3 r] ∧ rr = .tup [.agg [.pv (I n), .own 0], .pv (B true)]) :=
 kO (aI3 C hp hx hL hE hw hr hn) (by rintro _ _ ⟨rfl, rfl⟩; exact ⟨by simp [fU], rfl⟩)

theorem aI4 (C : Cx P gl) {xs : List aC} {dd : Nat → Dyadic} {L E : Nat} {p : List PV} {n : Int} (hp : p = aB xs) (hx : ∀ k, k < xs.length → X (dd k) L E (xs.getD k noY)) (hL : L ≤ 1000000) (hE : E ≤ 100000)
  (hw : ¬∀ k, k < xs.length → fits (dd k)) (hn : xs.length ≤ 1000000) :
  FS P gl 171 [.agg [I n, .lst p]] (· = .tup [.agg [I 0, .lst []], B false]) := by
 have fL := fun (P' : Program) (C' : Cx P' gl) => aQ3 C' hp hx hL hE hw hn
 clear hp hx hw
 refine gS C func171 rfl rfl rfl fun A hA hI => ?_
 iterate 2 all_goals try cbv; with_reducible repeat' first | exact ⟨⟩ | apply And.intro | intro _
 all_goals try exact oG
 refine aD hA rfl (fL P C) ?_; rintro _ rfl
 iterate 2 all_goals try cbv; with_reducible repeat' first | exact ⟨⟩ | apply And.intro | intro _
 all_goals try exact oG
 iterate 2 all_goals try cbv; with_reducible repeat' first | exact ⟨⟩ | apply And.intro | intro _
 all_goals try exact oG

end Tryz
end Go.Proofs
