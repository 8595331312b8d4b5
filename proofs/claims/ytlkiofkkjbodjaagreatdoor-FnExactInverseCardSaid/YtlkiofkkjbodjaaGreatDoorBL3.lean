/- Contracts: the law's own helpers: marks. -/
import Derived.Test.YtlkiofkkjbodjaaGreatDoorBL2
set_option maxHeartbeats 1000000
set_option maxRecDepth 100000
namespace Go.Proofs
open Go Go.Pe Go.Dg
namespace Tryz

theorem gX3 {P : Program} {gl : List (Nat × Obj)} (C : Tryz.Cx P gl) {f : FuncId} {fn : Func} {c : Code} {own : List Blk} {args : List FV} {R : List Blk → FV → Prop} (hf : Tryz.prog.funcs[f]? = some fn) (hb : fn.body = some c) (hm : (fn.name == "runtime.NumGoroutine") = false) (hn : Nat.ble args.length fn.ntmps = true)
 (hv : ∀ A, A = AR.std → aA = A.ints → iU P Tryz.T A gl .any c (aT1 Tryz.T A fn.results.toList own.length R) ⟨cS 0 args, own, fn.ntmps, own.length⟩) : FX P gl f own args R := by
 obtain ⟨rfl, hG⟩ := C
 exact aNL (own := fun _ => own) (args := fun _ => args) (R := fun _ => R) Tryz.hT Tryz.mix hf hb hm (Nat.le_of_ble_eq_true hn) fun A hA => hv A hA (by subst hA; rfl)

set_option linter.unusedSimpArgs false
set_option linter.unusedVariables false
variable {P : Program} {gl : List (Nat × Obj)}

def mkI (l : List Int) (k : Int) (i q : Int) (o : List Int) : Prop := 0 ≤ i ∧ i ≤ l.length ∧ q = k + i ∧ o.length = l.length ∧ ∀ j : Nat, j < i.toNat → o.getD j 0 = k + j

theorem aP6 (l : List Int) (k : Int) : mkI l k 0 k l := ⟨Int.le_refl _, by omega, by omega, rfl, fun j hj => by simp at hj⟩

theorem aP7 {l : List Int} {k i q : Int} {o : List Int} (h : mkI l k i q o) (hi : i < l.length) : mkI l k (i + 1) (q + 1) (o.set i.toNat q) := by
 obtain ⟨a, b, c, d, e⟩ := h
 refine ⟨by omega, by omega, by omega, by rw [List.length_set]; exact d, fun j hj => ?_⟩
 by_cases he : j = i.toNat
 ·subst he; rw [Go.Dg.gE (by omega)]; omega
 ·rw [Go.Dg.getD_set_ne (by omega)]; exact e j (by omega)

theorem aP8 {l : List Int} {k i q : Int} {o : List Int} (h : mkI l k i q o) (hi : l.length ≤ i) : o = up1 k l.length ∧ q = k + l.length := by
 obtain ⟨a, b, c, d, e⟩ := h
 refine ⟨?_, by omega⟩
 apply yQ (by rw [qJ]; exact d)
 intro j hj
 rw [aDC k _ j (by omega)]
 exact e j (by omega)

theorem wF (C : Cx P gl) {l : List Int} {p r : List PV} {k z : Int} (hp : p = aA l) (hr : r = aA (up1 k l.length)) (hz : z = k + l.length) (hl : l.length ≤ 2000000) (hk0 : 0 ≤ k) (hk : k ≤ 1000000000) :
  FX P gl 88 [.row 3 1 p] [.own 0, .pv (I k)] (fun own rr => own = [.row 3 1 r] ∧ rr = .pv (I z)) := by
 refine gX3 C func88 rfl rfl rfl fun A hA hI => ?_
 iterate 2 all_goals try cbv; with_reducible repeat' first | exact ⟨⟩ | apply And.intro | intro _
 all_goals try exact oH
 refine aZ hA [] (ι := Int × Int × List Int) (fun x => [(0, .own 0), (1, .pv (I x.2.1)), (5, .pv (I x.1))]) (fun x => [(0, .row 3 1 (A.ints x.2.2))]) (fun x => (l.length - x.1).toNat) (fun x => mkI l k x.1 x.2.1 x.2.2) (0, k, l) (by rfl) ?_ ?_ ?_
 all_goals try exact tH
 ·exact aP6 l k
 rintro ⟨i, q, o⟩ hinv
 simp only at hinv
 have aJ := fun hi => aP7 hinv hi
 have aN := fun hi => aP8 hinv hi
 obtain ⟨hi0, hi1, hq, hol, _⟩ := id hinv
 clear hinv
 iterate 2 all_goals try cbv; with_reducible repeat' first | exact ⟨⟩ | apply And.intro | intro _
 all_goals try exact oH
 iterate 2 all_goals try cbv; with_reducible repeat' first | exact ⟨⟩ | apply And.intro | intro _
 all_goals try exact oH
 ·obtain ⟨y1, hy1⟩ : ∃ y, y = i + 1 := ⟨_, rfl⟩
  obtain ⟨y2, hy2⟩ : ∃ y, y = q + 1 := ⟨_, rfl⟩
  obtain ⟨y3, hy3⟩ : ∃ y, y = o.set i.toNat q := ⟨_, rfl⟩
  refine ⟨⟨(y1, y2, y3), ?_⟩, ?_, ?_⟩
  rotate_left
  ·cbv
   exact nH
  ·exact eH
  ·rw [hy1, hy2, hy3]; exact aJ (by clear aJ aN; exact eH)
 ·have e := aN (by clear aJ aN; exact eH)
  have e1 : A.ints o = r := by rw [hr, ← e.1]; subst hA; rfl
  have e2 : q = z := by rw [hz]; exact e.2
  simp only [e1, e2]
  subst hA
  exact ⟨[0], _, _, by decide, Nat.le_refl _, rfl, rfl, rfl, rfl, rfl, rfl⟩

theorem aIN (C : Cx P gl) {l : List Int} {p r : List PV} {k z : Int} (hp : p = aA l) (hr : r = aA (up1 k l.length)) (hz : z = k + l.length) (hl : l.length ≤ 2000000) (hk0 : 0 ≤ k) (hk : k ≤ 1000000000) :
  FX P gl 178 [.row 3 1 p] [.agg [.own 0], .pv (I k)] (fun own rr => own = [.row 3 1 r] ∧ rr = .pv (I z)) := by
 refine gX3 C func178 rfl rfl rfl fun A hA hI => ?_
 iterate 2 all_goals try cbv; with_reducible repeat' first | exact ⟨⟩ | apply And.intro | intro _
 all_goals try exact oH
 refine gO hA [0] (by decide) rfl rfl rfl (wF C hp hr hz hl hk0 hk) ?_
 rintro _ _ ⟨rfl, rfl⟩
 refine ⟨rfl, ?_⟩
 iterate 2 all_goals try cbv; with_reducible repeat' first | exact ⟨⟩ | apply And.intro | intro _
 all_goals try exact oH
 subst hA
 exact ⟨[0], _, _, by decide, Nat.le_refl _, rfl, rfl, rfl, rfl, rfl, rfl⟩

theorem aDK (C : Cx P gl) {l : List Int} {p r : List PV} {k z : Int} {s : Bool} (hp : p = aA l) (hr : r = aA (up1 k l.length)) (hz : z = k + l.length) (hl : l.length ≤ 2000000) (hk0 : 0 ≤ k) (hk : k ≤ 1000000000) :
  FX P gl 101 [.row 3 1 p] [.agg [.pv (B s), .own 0], .pv (I k)] (fun own rr => own = [.row 3 1 r] ∧ rr = .pv (I z)) := by
 refine gX3 C func101 rfl rfl rfl fun A hA hI => ?_
 iterate 2 all_goals try cbv; with_reducible repeat' first | exact ⟨⟩ | apply And.intro | intro _
 all_goals try exact oH
 refine gO hA [0] (by decide) rfl rfl rfl (aIN C hp hr hz hl hk0 hk) ?_
 rintro _ _ ⟨rfl, rfl⟩
 refine ⟨rfl, ?_⟩
 iterate 2 all_goals try cbv; with_reducible repeat' first | exact ⟨⟩ | apply And.intro | intro _
 all_goals try exact oH
 subst hA
 exact ⟨[0], _, _, by decide, Nat.le_refl _, rfl, rfl, rfl, rfl, rfl, rfl⟩

theorem aMH (C : Cx P gl) {l : List Int} {p r : List PV} {k z : Int} {s : Bool} {e : Int} (hp : p = aA l) (hr : r = aA (up1 k l.length)) (hz : z = k + l.length) (hl : l.length ≤ 2000000) (hk0 : 0 ≤ k) (hk : k ≤ 1000000000) :
  FX P gl 36 [.row 3 1 p] [.agg [.pv (B s), .own 0, .pv (I e)], .pv (I k)] (fun own rr => own = [.row 3 1 r] ∧ rr = .pv (I z)) := by
 refine gX3 C func36 rfl rfl rfl fun A hA hI => ?_
 iterate 2 all_goals try cbv; with_reducible repeat' first | exact ⟨⟩ | apply And.intro | intro _
 all_goals try exact oH
 refine gO hA [0] (by decide) rfl rfl rfl (aDK C hp hr hz hl hk0 hk) ?_
 rintro _ _ ⟨rfl, rfl⟩
 refine ⟨rfl, ?_⟩
 iterate 2 all_goals try cbv; with_reducible repeat' first | exact ⟨⟩ | apply And.intro | intro _
 all_goals try exact oH
 subst hA
 exact ⟨[0], _, _, by decide, Nat.le_refl _, rfl, rfl, rfl, rfl, rfl, rfl⟩

theorem wG (C : Cx P gl) {n : Nat} {p : List PV} {k z : Int} (hp : p = aA (up1 k n)) (hz : z = k + n) (hn : n ≤ 2000000) (hk0 : 0 ≤ k) (hk : k ≤ 1000000000) : FS P gl 89 [.lst p, I k] (· = I z) := by
 obtain ⟨u, hu⟩ : ∃ u, u = up1 k n := ⟨_, rfl⟩
 have hg : ∀ j : Nat, j < n → u.getD j 0 = k + j := by rw [hu]; exact aDC k n
 have hul : u.length = n := by rw [hu]; exact qJ k n
 rw [← hu] at hp
 clear hu
 refine gS C func89 rfl rfl rfl fun A hA hI => ?_
 iterate 2 all_goals try cbv; with_reducible repeat' first | exact ⟨⟩ | apply And.intro | intro _
 all_goals try exact oH
 refine aZ hA [] (ι := Int × Int) (fun x => [(1, .pv (I x.2)), (5, .pv (I x.1))]) (fun x => []) (fun x => (n - x.1).toNat) (fun x => 0 ≤ x.1 ∧ x.1 ≤ n ∧ x.2 = k + x.1) (0, k) (by rfl) ?_ ?_ ?_
 all_goals try exact tH
 ·simp only; omega
 rintro ⟨i, q⟩ ⟨hi0, hi1, hq⟩
 simp only at hi0 hi1 hq
 have hgi : i < n → u.getD i.toNat 0 = q := fun h => by have h2 := hg i.toNat (by omega); simp only [bBG] at h2 hi1; omega
 clear hg
 have hlt : A.lt i (A.cast (A.len p)) = true → A.ne (A.gi (A.el p (A.nat i)) 0) q = false := by
  intro h
  have h1 : A.gi (A.el p (A.nat i)) 0 = q := by
   have e : A.gi (A.el p (A.nat i)) 0 = u.getD i.toNat 0 := by clear hgi; (subst hA; subst_vars; simp only [AR.std, bBG, sH, reduceCtorEq] at *; try simp (disch := omega) only [AR.std, bBG, sH, reduceCtorEq] at *)
   rw [e, hgi (by clear hgi e; exact eH)]
  rw [h1]; subst hA; simp [AR.std]
 clear hgi
 iterate 2 all_goals try cbv; with_reducible repeat' first | exact ⟨⟩ | apply And.intro | intro _
 all_goals try exact oH
 iterate 2 all_goals try cbv; with_reducible repeat' first | exact ⟨⟩ | apply And.intro | intro _
 all_goals try exact oH
 ·clear hlt
  obtain ⟨y1, hy1⟩ : ∃ y, y = i + 1 := ⟨_, rfl⟩
  obtain ⟨y2, hy2⟩ : ∃ y, y = q + 1 := ⟨_, rfl⟩
  refine ⟨⟨(y1, y2), ?_⟩, ?_, ?_⟩
  rotate_left
  ·cbv
   exact nH
  ·exact eH
  ·rw [hy1, hy2]; simp only; exact eH
 ·have e : q = z := by clear hlt; exact eH
  simp only [e]

theorem aIO (C : Cx P gl) {n : Nat} {p : List PV} {k z : Int} (hp : p = aA (up1 k n)) (hz : z = k + n) (hn : n ≤ 2000000) (hk0 : 0 ≤ k) (hk : k ≤ 1000000000) : FS P gl 179 [.agg [.lst p], I k] (· = I z) := by
 have hz0 : 0 ≤ z := by omega
 refine gS C func179 rfl rfl rfl fun A hA hI => ?_
 iterate 2 all_goals try cbv; with_reducible repeat' first | exact ⟨⟩ | apply And.intro | intro _
 all_goals try exact oH
 refine aD hA rfl (wG C hp hz hn hk0 hk) ?_; rintro _ rfl
 iterate 2 all_goals try cbv; with_reducible repeat' first | exact ⟨⟩ | apply And.intro | intro _
 all_goals try exact oH

theorem aDL (C : Cx P gl) {n : Nat} {p : List PV} {k z : Int} {s : Bool} (hp : p = aA (up1 k n)) (hz : z = k + n) (hn : n ≤ 2000000) (hk0 : 0 ≤ k) (hk : k ≤ 1000000000) : FS P gl 103 [.agg [B s, .lst p], I k] (· = I z) := by
 have hz0 : 0 ≤ z := by omega
 refine gS C func103 rfl rfl rfl fun A hA hI => ?_
 iterate 2 all_goals try cbv; with_reducible repeat' first | exact ⟨⟩ | apply And.intro | intro _
 all_goals try exact oH
 refine aD hA rfl (aIO C hp hz hn hk0 hk) ?_; rintro _ rfl
 iterate 2 all_goals try cbv; with_reducible repeat' first | exact ⟨⟩ | apply And.intro | intro _
 all_goals try exact oH

theorem vC (C : Cx P gl) {n : Nat} {p : List PV} {k z : Int} {s : Bool} {e : Int} (hp : p = aA (up1 k n)) (hz : z = k + n) (hn : n ≤ 2000000) (hk0 : 0 ≤ k) (hk : k ≤ 1000000000) : FS P gl 38 [.agg [B s, .lst p, I e], I k] (· = I z) := by
 have hz0 : 0 ≤ z := by omega
 refine gS C func38 rfl rfl rfl fun A hA hI => ?_
 iterate 2 all_goals try cbv; with_reducible repeat' first | exact ⟨⟩ | apply And.intro | intro _
 all_goals try exact oH
 refine aD hA rfl (aDL C hp hz hn hk0 hk) ?_; rintro _ rfl
 iterate 2 all_goals try cbv; with_reducible repeat' first | exact ⟨⟩ | apply And.intro | intro _
 all_goals try exact oH

end Tryz
end Go.Proofs
