/- Contracts: the reference's bits, orders, sums, differences, quotients by a digit. -/
import Derived.Test.YtlkiofkkjbodjaaGreatDoorDD1
set_option maxHeartbeats 1000000
set_option maxRecDepth 100000
namespace Go.Proofs
open Go Go.Pe Go.Dg
namespace Tryz
set_option linter.unusedSimpArgs false
set_option linter.unusedVariables false
variable {P : Program} {gl : List (Nat × Obj)}

theorem l2bit_fs (C : Cx P gl) {n : Nat} {i b : Int} {p : List PV} (hp : p = intsL (dg n)) (h0 : 0 ≤ i) (h1 : i ≤ 1000000000000) (hb : b = ((n / 2 ^ i.toNat % 2 : Nat) : Int)) :
  FS P gl 168 [.agg [.lst p], I i] (· = I b) := by
 have hd := dg_getD (i.toNat / 16) n
 have hbv := bit_val n i.toNat
 have hs : (i % 16).toNat < 16 := by omega
 have hsk : (i % 16).toNat = i.toNat % 16 := by omega
 have hik : (i / 16).toNat = i.toNat / 16 := by omega
 have hg := (valid_dg n).get (i / 16).toNat
 have hpw := pow2_le hs
 have hq1 : 0 ≤ (dg n).getD (i / 16).toNat 0 / 2 ^ (i % 16).toNat := Int.ediv_nonneg hg.1 (by omega)
 have hq2 : (dg n).getD (i / 16).toNat 0 / 2 ^ (i % 16).toNat < 65536 := Int.lt_of_le_of_lt (Int.ediv_le_self _ hg.1) hg.2
 have hbb : b = (dg n).getD (i / 16).toNat 0 / 2 ^ (i % 16).toNat % 2 := by
  rw [hb, ← hbv, hik, hd, hsk, Int.natCast_emod, Int.natCast_ediv, Int.natCast_pow]
  rfl
 clear hb
 refine gS C func168 rfl rfl rfl fun A hA hI => ?_
 iterate 2 all_goals try cbv; with_reducible repeat' first | exact ⟨⟩ | apply And.intro | intro _
 all_goals try exact oH
 ·have hz : (dg n).getD (i / 16).toNat 0 = 0 := getD_ge (by exact eH)
  rw [hbb, hz, Int.zero_ediv]
  rfl
 ·have e1 : A.shr .i64 (A.gi (A.el p (A.nat (A.quo .i64 i 16))) 0) (A.rem .i64 i 16) = (dg n).getD (i / 16).toNat 0 / 2 ^ (i % 16).toNat := by (subst hA; subst_vars; simp only [AR.std, natCast_eq, sH, reduceCtorEq] at *; try simp (disch := omega) only [AR.std, natCast_eq, sH, reduceCtorEq] at *)
  have e2 : A.band .i64 ((dg n).getD (i / 16).toNat 0 / 2 ^ (i % 16).toNat) 1 = (dg n).getD (i / 16).toNat 0 / 2 ^ (i % 16).toNat % 2 := by
   subst hA; exact band1 hq1 (by omega)
  simp only [e1, e2, hbb]

theorem l2cmp_fs (C : Cx P gl) {x y : Nat} {p q : List PV} {c : Int} (hp : p = intsL (dg x)) (hq : q = intsL (dg y)) (hc : c = cmpN x y) (hx : (dg x).length ≤ 1000000000) (hy : (dg y).length ≤ 1000000000) :
  FS P gl 209 [.agg [.lst p], .agg [.lst q]] (· = I c) := by
 have hl1 : (dg x).length < (dg y).length → c = -1 := fun h => by rw [hc]; exact cmpN_lt (dg_len_lt h)
 have hl2 : (dg y).length < (dg x).length → c = 1 := fun h => by rw [hc]; exact cmpN_gt (dg_len_lt h)
 have hv1 : val (dg x) < val (dg y) → c = -1 := fun h => by rw [hc]; rw [val_dg, val_dg] at h; exact cmpN_lt (by omega)
 have hv2 : val (dg y) < val (dg x) → c = 1 := fun h => by rw [hc]; rw [val_dg, val_dg] at h; exact cmpN_gt (by omega)
 have hv3 : dg x = dg y → c = 0 := fun h => by rw [hc]; exact cmpN_eq (dg_inj h)
 have ha := valid_dg x
 have hb := valid_dg y
 clear hc
 generalize dg x = a at *
 generalize dg y = b at *
 refine gS C func209 rfl rfl rfl fun A hA hI => ?_
 iterate 2 all_goals try cbv; with_reducible repeat' first | exact ⟨⟩ | apply And.intro | intro _
 all_goals try exact oH
 iterate 2 all_goals try cbv; with_reducible repeat' first | exact ⟨⟩ | apply And.intro | intro _
 all_goals try exact oH
 ·rw [hl1 (by exact eH)]
 ·rw [hl2 (by exact eH)]
 have hl : a.length = b.length := by exact eH
 refine loopI hA [] (ι := Int) (fun x => [(5, .pv (I x))]) (fun x => []) (fun x => (x + 1).toNat) (fun x => cmpI a b x) (a.length - 1) (by rfl) ?_ ?_ ?_
 all_goals try exact tH
 ·exact cmpI_zero hl
 rintro i hinv
 try simp only at hinv
 have hnext := cmpI_next hinv hl
 have hexit := cmpI_exit hinv
 have hlt := cmpI_lt ha hb hinv hl
 have hgt := cmpI_gt ha hb hinv hl
 obtain ⟨hi0, hi1, _⟩ := id hinv
 iterate 2 all_goals try cbv; with_reducible repeat' first | exact ⟨⟩ | apply And.intro | intro _
 all_goals try exact oH
 iterate 2 all_goals try cbv; with_reducible repeat' first | exact ⟨⟩ | apply And.intro | intro _
 all_goals try exact oH
 ·rw [hv1 (hlt (by exact eH) (by exact eH))]
 ·rw [hv2 (hgt (by exact eH) (by exact eH))]
 ·obtain ⟨y1, hy1⟩ : ∃ y, y = i - 1 := ⟨_, rfl⟩
  refine ⟨⟨y1, ?_⟩, ?_, ?_⟩
  rotate_left
  ·cbv
   exact nH
  ·exact eH
  ·(subst hA; subst_vars; simp only [AR.std, natCast_eq, sH, reduceCtorEq] at *; try simp (disch := omega) only [AR.std, natCast_eq, sH, reduceCtorEq] at *); exact hnext (by omega) (by omega)
 ·rw [hv3 (hexit (by exact eH))]

theorem l2add_fs (C : Cx P gl) {a b : List Int} {n : Nat} {p q r : List PV} (hp : p = intsL a) (hq : q = intsL b) (ha : Valid a) (hb : Valid b) (hv : val a + val b = n) (hr : r = intsL (dg n))
  (hla : a.length ≤ 100000000) (hlb : b.length ≤ 100000000) : FS P gl 202 [.agg [.lst p], .agg [.lst q]] (· = .agg [.lst r]) := by
 refine gS C func202 rfl rfl rfl fun A hA hI => ?_
 iterate 2 all_goals try cbv; with_reducible repeat' first | exact ⟨⟩ | apply And.intro | intro _
 all_goals try exact oH
 refine loopI hA [.slot 5 3 1] (ι := Int × Int × List Int) (fun x => [(5, .own 3), (6, .pv (I x.2.1)), (7, .pv (I x.1))]) (fun x => [(3, .row 3 1 (A.ints x.2.2))]) (fun x => (a.length + b.length + 1 - x.1).toNat) (fun x => plusJ a b x.1 x.2.1 x.2.2) (0, 0, []) (by rfl) ?_ ?_ ?_
 all_goals try exact tH
 ·exact plusJ_zero a b
 rintro ⟨i, c, o⟩ hinv
 simp only at hinv
 have hx := ha.get i.toNat
 have hy := hb.get i.toNat
 have hnext := fun {s : Int} => plusJ_next (s := s) ha hb hinv
 have hexit := fun h1 h2 h3 => plusJ_exit hinv h1 h2 h3 hv
 obtain ⟨hi0, hi1, hiz, hol, hov, hc0, hc1, hval⟩ := id hinv
 iterate 2 all_goals try cbv; with_reducible repeat' first | exact ⟨⟩ | apply And.intro | intro _
 all_goals try exact oH
 iterate 2 all_goals try cbv; with_reducible repeat' first | exact ⟨⟩ | apply And.intro | intro _
 all_goals try exact oH
 iterate 2 all_goals try cbv; with_reducible repeat' first | exact ⟨⟩ | apply And.intro | intro _
 all_goals try exact oH
 ·obtain ⟨y1, hy1⟩ : ∃ y, y = i + 1 := ⟨_, rfl⟩
  obtain ⟨y2, hy2⟩ : ∃ y, y = (c + a.getD i.toNat 0 + b.getD i.toNat 0) / 65536 := ⟨_, rfl⟩
  obtain ⟨y3, hy3⟩ : ∃ y, y = o ++ [(c + a.getD i.toNat 0 + b.getD i.toNat 0) % 65536] := ⟨_, rfl⟩
  refine ⟨⟨(y1, y2, y3), ?_⟩, ?_, ?_⟩
  rotate_left
  ·cbv
   exact nH
  ·exact eH
  ·(subst hA; subst_vars; simp only [AR.std, natCast_eq, sH, reduceCtorEq] at *; try simp (disch := omega) only [AR.std, natCast_eq, sH, reduceCtorEq] at *); exact hnext rfl (by omega)
 ·obtain ⟨y1, hy1⟩ : ∃ y, y = i + 1 := ⟨_, rfl⟩
  obtain ⟨y2, hy2⟩ : ∃ y, y = (c + a.getD i.toNat 0) / 65536 := ⟨_, rfl⟩
  obtain ⟨y3, hy3⟩ : ∃ y, y = o ++ [(c + a.getD i.toNat 0) % 65536] := ⟨_, rfl⟩
  refine ⟨⟨(y1, y2, y3), ?_⟩, ?_, ?_⟩
  rotate_left
  ·cbv
   exact nH
  ·exact eH
  ·(subst hA; subst_vars; simp only [AR.std, natCast_eq, sH, reduceCtorEq] at *; try simp (disch := omega) only [AR.std, natCast_eq, sH, reduceCtorEq] at *); exact hnext (by rw [getD_ge (l := b) (by omega)]; omega) (by omega)
 ·obtain ⟨y1, hy1⟩ : ∃ y, y = i + 1 := ⟨_, rfl⟩
  obtain ⟨y2, hy2⟩ : ∃ y, y = (c + b.getD i.toNat 0) / 65536 := ⟨_, rfl⟩
  obtain ⟨y3, hy3⟩ : ∃ y, y = o ++ [(c + b.getD i.toNat 0) % 65536] := ⟨_, rfl⟩
  refine ⟨⟨(y1, y2, y3), ?_⟩, ?_, ?_⟩
  rotate_left
  ·cbv
   exact nH
  ·exact eH
  ·(subst hA; subst_vars; simp only [AR.std, natCast_eq, sH, reduceCtorEq] at *; try simp (disch := omega) only [AR.std, natCast_eq, sH, reduceCtorEq] at *); exact hnext (by rw [getD_ge (l := a) (by omega)]; omega) (by omega)
 ·obtain ⟨y1, hy1⟩ : ∃ y, y = i + 1 := ⟨_, rfl⟩
  obtain ⟨y2, hy2⟩ : ∃ y, y = c / 65536 := ⟨_, rfl⟩
  obtain ⟨y3, hy3⟩ : ∃ y, y = o ++ [c % 65536] := ⟨_, rfl⟩
  refine ⟨⟨(y1, y2, y3), ?_⟩, ?_, ?_⟩
  rotate_left
  ·cbv
   exact nH
  ·exact eH
  ·(subst hA; subst_vars; simp only [AR.std, natCast_eq, sH, reduceCtorEq] at *; try simp (disch := omega) only [AR.std, natCast_eq, sH, reduceCtorEq] at *); exact hnext (by rw [getD_ge (l := a) (by omega), getD_ge (l := b) (by omega)]; omega) (by omega)
 ·refine callS hA rfl (l2norm_fs C (l := o) (p := A.ints o) (r := r) (by subst hA; rfl) (by rw [hr, hexit (by exact eH) (by exact eH) (by exact eH)]) (by exact eH)) ?_; rintro _ rfl
  iterate 2 all_goals try cbv; with_reducible repeat' first | exact ⟨⟩ | apply And.intro | intro _
  all_goals try exact oH

theorem l2sub_fs (C : Cx P gl) {a b : List Int} {n : Nat} {p q r : List PV} (hp : p = intsL a) (hq : q = intsL b) (ha : Valid a) (hb : Valid b) (hv : val a - val b = n) (hr : r = intsL (dg n))
  (hla : a.length ≤ 100000000) (hlb : b.length ≤ a.length) : FS P gl 210 [.agg [.lst p], .agg [.lst q]] (· = .agg [.lst r]) := by
 refine gS C func210 rfl rfl rfl fun A hA hI => ?_
 iterate 2 all_goals try cbv; with_reducible repeat' first | exact ⟨⟩ | apply And.intro | intro _
 all_goals try exact oH
 refine loopI hA [.slot 5 3 1] (ι := Int × Int × List Int) (fun x => [(5, .own 3), (6, .pv (I x.2.1)), (7, .pv (I x.1))]) (fun x => [(3, .row 3 1 (A.ints x.2.2))]) (fun x => (a.length - x.1).toNat) (fun x => minusI a b x.1 x.2.1 x.2.2) (0, 0, []) (by rfl) ?_ ?_ ?_
 all_goals try exact tH
 ·exact minusI_zero a b
 rintro ⟨i, w, o⟩ hinv
 simp only at hinv
 have hx := ha.get i.toNat
 have hy := hb.get i.toNat
 have hnext := fun {x d w' : Int} => minusI_next (x := x) (d := d) (w' := w') ha hb hinv
 have hexit := fun h1 h2 => minusI_exit hinv h1 h2 hv
 obtain ⟨hi0, hi1, hol, hov, hc0, hc1, hval⟩ := id hinv
 iterate 2 all_goals try cbv; with_reducible repeat' first | exact ⟨⟩ | apply And.intro | intro _
 all_goals try exact oH
 iterate 2 all_goals try cbv; with_reducible repeat' first | exact ⟨⟩ | apply And.intro | intro _
 all_goals try exact oH
 iterate 2 all_goals try cbv; with_reducible repeat' first | exact ⟨⟩ | apply And.intro | intro _
 all_goals try exact oH
 ·obtain ⟨y1, hy1⟩ : ∃ y, y = i + 1 := ⟨_, rfl⟩
  obtain ⟨y2, hy2⟩ : ∃ y, y = 1 := ⟨_, rfl⟩
  obtain ⟨y3, hy3⟩ : ∃ y, y = o ++ [a.getD i.toNat 0 - w - b.getD i.toNat 0 + 65536] := ⟨_, rfl⟩
  refine ⟨⟨(y1, y2, y3), ?_⟩, ?_, ?_⟩
  rotate_left
  ·cbv
   exact nH
  ·exact eH
  ·(subst hA; subst_vars; simp only [AR.std, natCast_eq, sH, reduceCtorEq] at *; try simp (disch := omega) only [AR.std, natCast_eq, sH, reduceCtorEq] at *); exact hnext rfl (by omega) (by omega)
 ·obtain ⟨y1, hy1⟩ : ∃ y, y = i + 1 := ⟨_, rfl⟩
  obtain ⟨y2, hy2⟩ : ∃ y, y = 0 := ⟨_, rfl⟩
  obtain ⟨y3, hy3⟩ : ∃ y, y = o ++ [a.getD i.toNat 0 - w - b.getD i.toNat 0] := ⟨_, rfl⟩
  refine ⟨⟨(y1, y2, y3), ?_⟩, ?_, ?_⟩
  rotate_left
  ·cbv
   exact nH
  ·exact eH
  ·(subst hA; subst_vars; simp only [AR.std, natCast_eq, sH, reduceCtorEq] at *; try simp (disch := omega) only [AR.std, natCast_eq, sH, reduceCtorEq] at *); exact hnext rfl (by omega) (by omega)
 ·obtain ⟨y1, hy1⟩ : ∃ y, y = i + 1 := ⟨_, rfl⟩
  obtain ⟨y2, hy2⟩ : ∃ y, y = 1 := ⟨_, rfl⟩
  obtain ⟨y3, hy3⟩ : ∃ y, y = o ++ [a.getD i.toNat 0 - w + 65536] := ⟨_, rfl⟩
  refine ⟨⟨(y1, y2, y3), ?_⟩, ?_, ?_⟩
  rotate_left
  ·cbv
   exact nH
  ·exact eH
  ·(subst hA; subst_vars; simp only [AR.std, natCast_eq, sH, reduceCtorEq] at *; try simp (disch := omega) only [AR.std, natCast_eq, sH, reduceCtorEq] at *); exact hnext (x := a.getD i.toNat 0 - w) (by rw [getD_ge (l := b) (by omega)]; omega) (by omega) (by omega)
 ·obtain ⟨y1, hy1⟩ : ∃ y, y = i + 1 := ⟨_, rfl⟩
  obtain ⟨y2, hy2⟩ : ∃ y, y = 0 := ⟨_, rfl⟩
  obtain ⟨y3, hy3⟩ : ∃ y, y = o ++ [a.getD i.toNat 0 - w] := ⟨_, rfl⟩
  refine ⟨⟨(y1, y2, y3), ?_⟩, ?_, ?_⟩
  rotate_left
  ·cbv
   exact nH
  ·exact eH
  ·(subst hA; subst_vars; simp only [AR.std, natCast_eq, sH, reduceCtorEq] at *; try simp (disch := omega) only [AR.std, natCast_eq, sH, reduceCtorEq] at *); exact hnext (x := a.getD i.toNat 0 - w) (by rw [getD_ge (l := b) (by omega)]; omega) (by omega) (by omega)
 ·refine callS hA rfl (l2norm_fs C (l := o) (p := A.ints o) (r := r) (by subst hA; rfl) (by rw [hr, hexit (by exact eH) (by exact eH)]) (by exact eH)) ?_; rintro _ rfl
  iterate 2 all_goals try cbv; with_reducible repeat' first | exact ⟨⟩ | apply And.intro | intro _
  all_goals try exact oH

theorem l2small_fs (C : Cx P gl) {a : List Int} {n e : Nat} {d : Int} {p r : List PV} {q : Int} (hp : p = intsL a) (ha : Valid a) (hv : val a = n) (hd : d = e) (he0 : 0 < e) (he1 : e < 65536)
  (hr : r = intsL (dg (n / e))) (hq : q = ((n % e : Nat) : Int)) (hl : a.length ≤ 100000000) : FS P gl 250 [.agg [.lst p], I d] (· = .tup [.agg [.lst r], I q]) := by
 have hd0 : 0 < d := by omega
 have hd1 : d < 65536 := by omega
 refine gS C func250 rfl rfl rfl fun A hA hI => ?_
 iterate 2 all_goals try cbv; with_reducible repeat' first | exact ⟨⟩ | apply And.intro | intro _
 all_goals try exact oH
 refine loopI hA [] (ι := Int × Int × List Int) (fun x => [(6, .own 2), (7, .pv (I x.2.1)), (8, .pv (I x.1))]) (fun x => [(2, .row 3 1 (A.ints x.2.2))]) (fun x => (x.1 + 1).toNat) (fun x => dsI a d x.1 x.2.1 x.2.2) (a.length - 1, 0, List.replicate a.length 0) (by rfl) ?_ ?_ ?_
 all_goals try exact tH
 ·exact dsI_zero a hd0
 rintro ⟨i, t, o⟩ hinv
 simp only at hinv
 have hnext := fun {x : Int} hi => dsI_next (x := x) ha hd0 hd1 hinv hi
 have hexit := fun hi => dsI_exit hinv hi hv hd
 have hx := ha.get i.toNat
 obtain ⟨hi0, hi1, hol, hov, ht, hval⟩ := id hinv
 have ht0 : 0 ≤ t := by rw [ht]; exact Int.emod_nonneg _ (by omega)
 have ht1 : t < d := by rw [ht]; exact Int.emod_lt_of_pos _ (by omega)
 have hx2 : 0 ≤ (t * 65536 + a.getD i.toNat 0) / d := Int.ediv_nonneg (by omega) (by omega)
 have hx3 : (t * 65536 + a.getD i.toNat 0) / d ≤ t * 65536 + a.getD i.toNat 0 := Int.ediv_le_self _ (by omega)
 clear ht hval
 iterate 2 all_goals try cbv; with_reducible repeat' first | exact ⟨⟩ | apply And.intro | intro _
 all_goals try exact oH
 iterate 2 all_goals try cbv; with_reducible repeat' first | exact ⟨⟩ | apply And.intro | intro _
 all_goals try exact oH
 ·obtain ⟨y1, hy1⟩ : ∃ y, y = i - 1 := ⟨_, rfl⟩
  obtain ⟨y2, hy2⟩ : ∃ y, y = (t * 65536 + a.getD i.toNat 0) % d := ⟨_, rfl⟩
  obtain ⟨y3, hy3⟩ : ∃ y, y = o.set i.toNat ((t * 65536 + a.getD i.toNat 0) / d) := ⟨_, rfl⟩
  refine ⟨⟨(y1, y2, y3), ?_⟩, ?_, ?_⟩
  rotate_left
  ·cbv
   exact nH
  ·exact eH
  ·(subst hA; subst_vars; simp only [AR.std, natCast_eq, sH, reduceCtorEq] at *; try simp (disch := omega) only [AR.std, natCast_eq, sH, reduceCtorEq] at *); exact (hnext (by omega) rfl).1
 ·refine callS hA rfl (l2norm_fs C (l := o) (p := A.ints o) (r := r) (by subst hA; rfl) (by rw [hr, (hexit (by exact eH)).1]) (by exact eH)) ?_; rintro _ rfl
  iterate 2 all_goals try cbv; with_reducible repeat' first | exact ⟨⟩ | apply And.intro | intro _
  all_goals try exact oH
  rw [hq, ← (hexit (by exact eH)).2]

end Tryz
end Go.Proofs
