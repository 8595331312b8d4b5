/- Contracts: the reference's bits, orders, sums, differences, quotients by a digit. -/
import Derived.Test.YtlkiofkkjbodjaaGreatDoorBD1
set_option maxHeartbeats 1000000
set_option maxRecDepth 100000
namespace Go.Proofs
open Go Go.Pe Go.Dg
namespace Tryz
set_option linter.unusedSimpArgs false
set_option linter.unusedVariables false
variable {P : Program} {gl : List (Nat × Obj)}

theorem tR (C : Cx P gl) {n : Nat} {i b : Int} {p : List PV} (hp : p = aA (dg n)) (h0 : 0 ≤ i) (h1 : i ≤ 1000000000000) (hb : b = ((n / 2 ^ i.toNat % 2 : Nat) : Int)) :
  FS P gl 168 [.agg [.lst p], I i] (· = I b) := by
 have hd := pX (i.toNat / 16) n
 have hbv := aJ5 n i.toNat
 have hs : (i % 16).toNat < 16 := by omega
 have hsk : (i % 16).toNat = i.toNat % 16 := by omega
 have hik : (i / 16).toNat = i.toNat / 16 := by omega
 have hg := (aI n).get (i / 16).toNat
 have hpw := lB hs
 have hq1 : 0 ≤ (dg n).getD (i / 16).toNat 0 / 2 ^ (i % 16).toNat := Int.ediv_nonneg hg.1 (by omega)
 have hq2 : (dg n).getD (i / 16).toNat 0 / 2 ^ (i % 16).toNat < 65536 := Int.lt_of_le_of_lt (Int.ediv_le_self _ hg.1) hg.2
 have hbb : b = (dg n).getD (i / 16).toNat 0 / 2 ^ (i % 16).toNat % 2 := by
  rw [hb, ← hbv, hik, hd, hsk, Int.natCast_emod, Int.natCast_ediv, Int.natCast_pow]
  rfl
 clear hb
 refine gS C func168 rfl rfl rfl fun A hA hI => ?_
 iterate 2 all_goals try cbv; with_reducible repeat' first | exact ⟨⟩ | apply And.intro | intro _
 all_goals try exact oH
 ·have hz : (dg n).getD (i / 16).toNat 0 = 0 := dU (by exact eH)
  rw [hbb, hz, Int.zero_ediv]
  rfl
 ·have e1 : A.shr .i64 (A.gi (A.el p (A.nat (A.quo .i64 i 16))) 0) (A.rem .i64 i 16) = (dg n).getD (i / 16).toNat 0 / 2 ^ (i % 16).toNat := by (subst hA; subst_vars; simp only [AR.std, bBG, sH, reduceCtorEq] at *; try simp (disch := omega) only [AR.std, bBG, sH, reduceCtorEq] at *)
  have e2 : A.band .i64 ((dg n).getD (i / 16).toNat 0 / 2 ^ (i % 16).toNat) 1 = (dg n).getD (i / 16).toNat 0 / 2 ^ (i % 16).toNat % 2 := by
   subst hA; exact aT9 hq1 (by omega)
  simp only [e1, e2, hbb]

theorem tQ (C : Cx P gl) {x y : Nat} {p q : List PV} {c : Int} (hp : p = aA (dg x)) (hq : q = aA (dg y)) (hc : c = dJ x y) (hx : (dg x).length ≤ 1000000000) (hy : (dg y).length ≤ 1000000000) :
  FS P gl 209 [.agg [.lst p], .agg [.lst q]] (· = I c) := by
 have hl1 : (dg x).length < (dg y).length → c = -1 := fun h => by rw [hc]; exact gP (jT h)
 have hl2 : (dg y).length < (dg x).length → c = 1 := fun h => by rw [hc]; exact gQ (jT h)
 have hv1 : val (dg x) < val (dg y) → c = -1 := fun h => by rw [hc]; rw [aQ, aQ] at h; exact gP (by omega)
 have hv2 : val (dg y) < val (dg x) → c = 1 := fun h => by rw [hc]; rw [aQ, aQ] at h; exact gQ (by omega)
 have hv3 : dg x = dg y → c = 0 := fun h => by rw [hc]; exact lC (yT h)
 have ha := aI x
 have hb := aI y
 clear hc
 generalize dg x = a at *
 generalize dg y = b at *
 refine gS C func209 rfl rfl rfl fun A hA hI => ?_
 iterate 2 all_goals try cbv; with_reducible repeat' first | exact ⟨⟩ | apply And.intro | intro _
 all_goals try exact oH
 iterate 2 all_goals try cbv; with_reducible repeat' first | exact ⟨⟩ | apply And.intro | intro _
 all_goals try exact oH
 ·rw [hl1 (by exact eH)]
 ·rw [hl2 (by exact eH)]
 have hl : a.length = b.length := by exact eH
 refine aZ hA [] (ι := Int) (fun x => [(5, .pv (I x))]) (fun x => []) (fun x => (x + 1).toNat) (fun x => aH9 a b x) (a.length - 1) (by rfl) ?_ ?_ ?_
 all_goals try exact tH
 ·exact aLU hl
 rintro i hinv
 try simp only at hinv
 have aJ := aLV hinv hl
 have aN := aLW hinv
 have hlt := aSP ha hb hinv hl
 have hgt := aSQ ha hb hinv hl
 obtain ⟨hi0, hi1, _⟩ := id hinv
 iterate 2 all_goals try cbv; with_reducible repeat' first | exact ⟨⟩ | apply And.intro | intro _
 all_goals try exact oH
 iterate 2 all_goals try cbv; with_reducible repeat' first | exact ⟨⟩ | apply And.intro | intro _
 all_goals try exact oH
 ·rw [hv1 (hlt (by exact eH) (by exact eH))]
 ·rw [hv2 (hgt (by exact eH) (by exact eH))]
 ·obtain ⟨y1, hy1⟩ : ∃ y, y = i - 1 := ⟨_, rfl⟩
  refine ⟨⟨y1, ?_⟩, ?_, ?_⟩
  rotate_left
  ·cbv
   exact nH
  ·exact eH
  ·(subst hA; subst_vars; simp only [AR.std, bBG, sH, reduceCtorEq] at *; try simp (disch := omega) only [AR.std, bBG, sH, reduceCtorEq] at *); exact aJ (by omega) (by omega)
 ·rw [hv3 (aN (by exact eH))]

theorem zZ (C : Cx P gl) {a b : List Int} {n : Nat} {p q r : List PV} (hp : p = aA a) (hq : q = aA b) (ha : Valid a) (hb : Valid b) (hv : val a + val b = n) (hr : r = aA (dg n))
  (hla : a.length ≤ 100000000) (hlb : b.length ≤ 100000000) : FS P gl 202 [.agg [.lst p], .agg [.lst q]] (· = .agg [.lst r]) := by
 refine gS C func202 rfl rfl rfl fun A hA hI => ?_
 iterate 2 all_goals try cbv; with_reducible repeat' first | exact ⟨⟩ | apply And.intro | intro _
 all_goals try exact oH
 refine aZ hA [.slot 5 3 1] (ι := Int × Int × List Int) (fun x => [(5, .own 3), (6, .pv (I x.2.1)), (7, .pv (I x.1))]) (fun x => [(3, .row 3 1 (A.ints x.2.2))]) (fun x => (a.length + b.length + 1 - x.1).toNat) (fun x => aFJ a b x.1 x.2.1 x.2.2) (0, 0, []) (by rfl) ?_ ?_ ?_
 all_goals try exact tH
 ·exact aH6 a b
 rintro ⟨i, c, o⟩ hinv
 simp only at hinv
 have hx := ha.get i.toNat
 have hy := hb.get i.toNat
 have aJ := fun {s : Int} => aH7 (s := s) ha hb hinv
 have aN := fun h1 h2 h3 => aH8 hinv h1 h2 h3 hv
 obtain ⟨hi0, hi1, hiz, hol, hov, hc0, hc1, cB⟩ := id hinv
 iterate 2 all_goals try cbv; with_reducible repeat' first | exact ⟨⟩ | apply And.intro | intro _
 all_goals try exact oH
 iterate 2 all_goals try cbv; with_reducible repeat' first | exact ⟨⟩ | apply And.intro | intro _
 all_goals try exact oH
 iterate 2 all_goals try cbv; with_reducible repeat' first | exact ⟨⟩ | apply And.intro | intro _
 all_goals try exact oH
 ·obtain ⟨y1, hy1⟩ : ∃ y, y = i + 1 := ⟨_, rfl⟩
  obtain ⟨y2, hy2⟩ : ∃ y, y = (c + a.getD i.toNat 0 + b.getD i.toNat 0) / 65536 := ⟨_, rfl⟩
  obtain ⟨y3, hy3⟩ : ∃ y, y = o ++ [(c + a.getD i.toNat 0 + b.getD i.toNat 0) % 65536] := ⟨_, rfl⟩
  refine ⟨⟨(y1, y2, y3), ?_⟩, ?_, ?_⟩
  rotate_left
  ·cbv
   exact nH
  ·exact eH
  ·(subst hA; subst_vars; simp only [AR.std, bBG, sH, reduceCtorEq] at *; try simp (disch := omega) only [AR.std, bBG, sH, reduceCtorEq] at *); exact aJ rfl (by omega)
 ·obtain ⟨y1, hy1⟩ : ∃ y, y = i + 1 := ⟨_, rfl⟩
  obtain ⟨y2, hy2⟩ : ∃ y, y = (c + a.getD i.toNat 0) / 65536 := ⟨_, rfl⟩
  obtain ⟨y3, hy3⟩ : ∃ y, y = o ++ [(c + a.getD i.toNat 0) % 65536] := ⟨_, rfl⟩
  refine ⟨⟨(y1, y2, y3), ?_⟩, ?_, ?_⟩
  rotate_left
  ·cbv
   exact nH
  ·exact eH
  ·(subst hA; subst_vars; simp only [AR.std, bBG, sH, reduceCtorEq] at *; try simp (disch := omega) only [AR.std, bBG, sH, reduceCtorEq] at *); exact aJ (by rw [dU (l := b) (by omega)]; omega) (by omega)
 ·obtain ⟨y1, hy1⟩ : ∃ y, y = i + 1 := ⟨_, rfl⟩
  obtain ⟨y2, hy2⟩ : ∃ y, y = (c + b.getD i.toNat 0) / 65536 := ⟨_, rfl⟩
  obtain ⟨y3, hy3⟩ : ∃ y, y = o ++ [(c + b.getD i.toNat 0) % 65536] := ⟨_, rfl⟩
  refine ⟨⟨(y1, y2, y3), ?_⟩, ?_, ?_⟩
  rotate_left
  ·cbv
   exact nH
  ·exact eH
  ·(subst hA; subst_vars; simp only [AR.std, bBG, sH, reduceCtorEq] at *; try simp (disch := omega) only [AR.std, bBG, sH, reduceCtorEq] at *); exact aJ (by rw [dU (l := a) (by omega)]; omega) (by omega)
 ·obtain ⟨y1, hy1⟩ : ∃ y, y = i + 1 := ⟨_, rfl⟩
  obtain ⟨y2, hy2⟩ : ∃ y, y = c / 65536 := ⟨_, rfl⟩
  obtain ⟨y3, hy3⟩ : ∃ y, y = o ++ [c % 65536] := ⟨_, rfl⟩
  refine ⟨⟨(y1, y2, y3), ?_⟩, ?_, ?_⟩
  rotate_left
  ·cbv
   exact nH
  ·exact eH
  ·(subst hA; subst_vars; simp only [AR.std, bBG, sH, reduceCtorEq] at *; try simp (disch := omega) only [AR.std, bBG, sH, reduceCtorEq] at *); exact aJ (by rw [dU (l := a) (by omega), dU (l := b) (by omega)]; omega) (by omega)
 ·refine aD hA rfl (jX C (l := o) (p := A.ints o) (r := r) (by subst hA; rfl) (by rw [hr, aN (by exact eH) (by exact eH) (by exact eH)]) (by exact eH)) ?_; rintro _ rfl
  iterate 2 all_goals try cbv; with_reducible repeat' first | exact ⟨⟩ | apply And.intro | intro _
  all_goals try exact oH

theorem zX (C : Cx P gl) {a b : List Int} {n : Nat} {p q r : List PV} (hp : p = aA a) (hq : q = aA b) (ha : Valid a) (hb : Valid b) (hv : val a - val b = n) (hr : r = aA (dg n))
  (hla : a.length ≤ 100000000) (hlb : b.length ≤ a.length) : FS P gl 210 [.agg [.lst p], .agg [.lst q]] (· = .agg [.lst r]) := by
 refine gS C func210 rfl rfl rfl fun A hA hI => ?_
 iterate 2 all_goals try cbv; with_reducible repeat' first | exact ⟨⟩ | apply And.intro | intro _
 all_goals try exact oH
 refine aZ hA [.slot 5 3 1] (ι := Int × Int × List Int) (fun x => [(5, .own 3), (6, .pv (I x.2.1)), (7, .pv (I x.1))]) (fun x => [(3, .row 3 1 (A.ints x.2.2))]) (fun x => (a.length - x.1).toNat) (fun x => uU a b x.1 x.2.1 x.2.2) (0, 0, []) (by rfl) ?_ ?_ ?_
 all_goals try exact tH
 ·exact vY a b
 rintro ⟨i, w, o⟩ hinv
 simp only at hinv
 have hx := ha.get i.toNat
 have hy := hb.get i.toNat
 have aJ := fun {x d w' : Int} => vZ (x := x) (d := d) (w' := w') ha hb hinv
 have aN := fun h1 h2 => wA hinv h1 h2 hv
 obtain ⟨hi0, hi1, hol, hov, hc0, hc1, cB⟩ := id hinv
 iterate 2 all_goals try cbv; with_reducible repeat' first | exact ⟨⟩ | apply And.intro | intro _
 all_goals try exact oH
 iterate 2 all_goals try cbv; with_reducible repeat' first | exact ⟨⟩ | apply And.intro | intro _
 all_goals try exact oH
 iterate 2 all_goals try cbv; with_reducible repeat' first | exact ⟨⟩ | apply And.intro | intro _
 all_goals try exact oH
 ·obtain ⟨y1, hy1⟩ : ∃ y, y = i + 1 := ⟨_, rfl⟩
  obtain ⟨y2, hy2⟩ : ∃ y, y = 1 := ⟨_, rfl⟩
  obtain ⟨y3, hy3⟩ : ∃ y, y = o ++ [a.getD i.toNat 0 - w - b.getD i.toNat 0 + 65536] := ⟨_, rfl⟩
  refine ⟨⟨(y1, y2, y3), ?_⟩, ?_, ?_⟩
  rotate_left
  ·cbv
   exact nH
  ·exact eH
  ·(subst hA; subst_vars; simp only [AR.std, bBG, sH, reduceCtorEq] at *; try simp (disch := omega) only [AR.std, bBG, sH, reduceCtorEq] at *); exact aJ rfl (by omega) (by omega)
 ·obtain ⟨y1, hy1⟩ : ∃ y, y = i + 1 := ⟨_, rfl⟩
  obtain ⟨y2, hy2⟩ : ∃ y, y = 0 := ⟨_, rfl⟩
  obtain ⟨y3, hy3⟩ : ∃ y, y = o ++ [a.getD i.toNat 0 - w - b.getD i.toNat 0] := ⟨_, rfl⟩
  refine ⟨⟨(y1, y2, y3), ?_⟩, ?_, ?_⟩
  rotate_left
  ·cbv
   exact nH
  ·exact eH
  ·(subst hA; subst_vars; simp only [AR.std, bBG, sH, reduceCtorEq] at *; try simp (disch := omega) only [AR.std, bBG, sH, reduceCtorEq] at *); exact aJ rfl (by omega) (by omega)
 ·obtain ⟨y1, hy1⟩ : ∃ y, y = i + 1 := ⟨_, rfl⟩
  obtain ⟨y2, hy2⟩ : ∃ y, y = 1 := ⟨_, rfl⟩
  obtain ⟨y3, hy3⟩ : ∃ y, y = o ++ [a.getD i.toNat 0 - w + 65536] := ⟨_, rfl⟩
  refine ⟨⟨(y1, y2, y3), ?_⟩, ?_, ?_⟩
  rotate_left
  ·cbv
   exact nH
  ·exact eH
  ·(subst hA; subst_vars; simp only [AR.std, bBG, sH, reduceCtorEq] at *; try simp (disch := omega) only [AR.std, bBG, sH, reduceCtorEq] at *); exact aJ (x := a.getD i.toNat 0 - w) (by rw [dU (l := b) (by omega)]; omega) (by omega) (by omega)
 ·obtain ⟨y1, hy1⟩ : ∃ y, y = i + 1 := ⟨_, rfl⟩
  obtain ⟨y2, hy2⟩ : ∃ y, y = 0 := ⟨_, rfl⟩
  obtain ⟨y3, hy3⟩ : ∃ y, y = o ++ [a.getD i.toNat 0 - w] := ⟨_, rfl⟩
  refine ⟨⟨(y1, y2, y3), ?_⟩, ?_, ?_⟩
  rotate_left
  ·cbv
   exact nH
  ·exact eH
  ·(subst hA; subst_vars; simp only [AR.std, bBG, sH, reduceCtorEq] at *; try simp (disch := omega) only [AR.std, bBG, sH, reduceCtorEq] at *); exact aJ (x := a.getD i.toNat 0 - w) (by rw [dU (l := b) (by omega)]; omega) (by omega) (by omega)
 ·refine aD hA rfl (jX C (l := o) (p := A.ints o) (r := r) (by subst hA; rfl) (by rw [hr, aN (by exact eH) (by exact eH)]) (by exact eH)) ?_; rintro _ rfl
  iterate 2 all_goals try cbv; with_reducible repeat' first | exact ⟨⟩ | apply And.intro | intro _
  all_goals try exact oH

theorem zW (C : Cx P gl) {a : List Int} {n e : Nat} {d : Int} {p r : List PV} {q : Int} (hp : p = aA a) (ha : Valid a) (hv : val a = n) (hd : d = e) (he0 : 0 < e) (he1 : e < 65536)
  (hr : r = aA (dg (n / e))) (hq : q = ((n % e : Nat) : Int)) (hl : a.length ≤ 100000000) : FS P gl 250 [.agg [.lst p], I d] (· = .tup [.agg [.lst r], I q]) := by
 have hd0 : 0 < d := by omega
 have hd1 : d < 65536 := by omega
 refine gS C func250 rfl rfl rfl fun A hA hI => ?_
 iterate 2 all_goals try cbv; with_reducible repeat' first | exact ⟨⟩ | apply And.intro | intro _
 all_goals try exact oH
 refine aZ hA [] (ι := Int × Int × List Int) (fun x => [(6, .own 2), (7, .pv (I x.2.1)), (8, .pv (I x.1))]) (fun x => [(2, .row 3 1 (A.ints x.2.2))]) (fun x => (x.1 + 1).toNat) (fun x => dsI a d x.1 x.2.1 x.2.2) (a.length - 1, 0, List.replicate a.length 0) (by rfl) ?_ ?_ ?_
 all_goals try exact tH
 ·exact aFF a hd0
 rintro ⟨i, t, o⟩ hinv
 simp only at hinv
 have aJ := fun {x : Int} hi => aFG (x := x) ha hd0 hd1 hinv hi
 have aN := fun hi => aFH hinv hi hv hd
 have hx := ha.get i.toNat
 obtain ⟨hi0, hi1, hol, hov, ht, cB⟩ := id hinv
 have ht0 : 0 ≤ t := by rw [ht]; exact Int.emod_nonneg _ (by omega)
 have ht1 : t < d := by rw [ht]; exact Int.emod_lt_of_pos _ (by omega)
 have hx2 : 0 ≤ (t * 65536 + a.getD i.toNat 0) / d := Int.ediv_nonneg (by omega) (by omega)
 have hx3 : (t * 65536 + a.getD i.toNat 0) / d ≤ t * 65536 + a.getD i.toNat 0 := Int.ediv_le_self _ (by omega)
 clear ht cB
 iterate 2 all_goals try cbv; with_reducible repeat' first | exact ⟨⟩ | apply And.intro | intro _
 all_goals try exact oH
 iterate 2 all_goals try cbv; with_reducible repeat' first | exact ⟨⟩ | apply And.intro | intro _
 all_goals try exact oH
 ·obtain ⟨y1, hy1⟩ : ∃ y, y = i - 1 := ⟨_, rfl⟩
  obtain ⟨y2, hy2⟩ : ∃ y, y = (t * 65536 + a.getD i.toNat 0) % d := ⟨_, rfl⟩
  obtain ⟨y3, hy3⟩ : ∃ y, y = o.set i.toNat ((t * 65536 + a.getD i.toNat 0) / d) := ⟨_, rfl⟩
  refine ⟨⟨(y1, y2, y3), ?_⟩, ?_, ?_⟩
  rotate_left
  ·cbv
   exact nH
  ·exact eH
  ·(subst hA; subst_vars; simp only [AR.std, bBG, sH, reduceCtorEq] at *; try simp (disch := omega) only [AR.std, bBG, sH, reduceCtorEq] at *); exact (aJ (by omega) rfl).1
 ·refine aD hA rfl (jX C (l := o) (p := A.ints o) (r := r) (by subst hA; rfl) (by rw [hr, (aN (by exact eH)).1]) (by exact eH)) ?_; rintro _ rfl
  iterate 2 all_goals try cbv; with_reducible repeat' first | exact ⟨⟩ | apply And.intro | intro _
  all_goals try exact oH
  rw [hq, ← (aN (by exact eH)).2]

end Tryz
end Go.Proofs
