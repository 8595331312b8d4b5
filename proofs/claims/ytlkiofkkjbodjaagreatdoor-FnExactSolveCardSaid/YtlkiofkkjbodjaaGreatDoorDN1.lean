/- Contracts of functions over numbers as lists of digits to the base 65536. -/
import Derived.Test.YtlkiofkkjbodjaaGreatDoorDSx
import Derived.Test.YtlkiofkkjbodjaaGreatDoorDEvD
set_option maxHeartbeats 1000000
set_option maxRecDepth 100000
namespace Go.Proofs
open Go Go.Pe Go.Dg
namespace Tryz
set_option linter.unusedSimpArgs false
set_option linter.unusedVariables false
set_option linter.unusedSimpArgs false
variable {P : Program} {gl : List (Nat × Obj)}

theorem trim_fs (C : Cx P gl) {l : List Int} {p r : List PV} (hp : p = intsL l) (hr : r = intsL (trimL l)) (he : l.length ≤ 2000000000) : FS P gl 223 [.lst p] (· = .lst r) := by
 refine gS C func223 rfl rfl rfl fun A hA hI => ?_
 cbv
 refine loopI hA [] (ι := List Int) (fun l => [(0, .pv (.lst (A.ints l)))]) (fun _ => []) (fun l => l.length) (fun l' => trimL l' = trimL l ∧ l'.length ≤ l.length) l (by rfl) ?_ ⟨rfl, Nat.le_refl _⟩ ?_
 ·subst hA; subst hp; rfl
 rintro l' ⟨h1, h2⟩
 all_goals try cbv
 all_goals with_reducible repeat' first | exact True.intro | refine And.intro ?_ ?_ | intro _
 all_goals try exact pH
 iterate 2 all_goals try cbv; with_reducible repeat' first | exact ⟨⟩ | apply And.intro | intro _
 all_goals try cbv
 all_goals with_reducible repeat' first | exact True.intro | refine And.intro ?_ ?_ | intro _
 all_goals try exact oH
 ·subst hA
  subst_vars
  simp only [AR.std, natCast_eq, sH, reduceCtorEq] at *
  try simp (disch := omega) only [AR.std, natCast_eq, sH, reduceCtorEq] at *
  rename_i hz
  have e1 : ((l'.length : Int) - 1).toNat = l'.length - 1 := by omega
  rw [e1] at hz ⊢
  refine ⟨⟨_, ?_, ?_⟩, rfl, ?_⟩
  ·show trimL (List.drop 0 (List.take _ l')) = _
   rw [List.drop_zero, trimL_take (by omega) hz.2]; exact h1
  ·simp; omega
  ·simp; omega
 ·subst hA
  subst_vars
  simp only [AR.std, natCast_eq, sH, reduceCtorEq] at *
  try simp (disch := omega) only [AR.std, natCast_eq, sH, reduceCtorEq] at *
  rename_i hz
  rw [← h1]
  congr 2
  rcases hz with hz | hz
  ·exact (trimL_len0 (by omega)).symm
  ·by_cases h0 : l'.length = 0
   ·exact (trimL_len0 h0).symm
   ·have e1 : ((l'.length : Int) - 1).toNat = l'.length - 1 := by omega
    rw [e1] at hz
    exact (trimL_last (by omega) hz).symm

theorem plus_fs (C : Cx P gl) {a b : List Int} {n : Nat} {p q r : List PV} (hp : p = intsL a) (hq : q = intsL b) (ha : Valid a) (hb : Valid b) (hv : val a + val b = n) (hr : r = intsL (dg n))
  (hla : a.length ≤ 100000000) (hlb : b.length ≤ 100000000) : FS P gl 220 [.lst p, .lst q] (· = .lst r) := by
 refine gS C func220 rfl rfl rfl fun A hA hI => ?_
 iterate 2 all_goals try cbv; with_reducible repeat' first | exact ⟨⟩ | apply And.intro | intro _
 all_goals try exact oH
 all_goals refine loopI hA [] (ι := Int × Int × List Int) (fun x => [(5, .own 0), (6, .pv (I x.2.1)), (22, .pv (I x.1))]) (fun x => [(0, .row 3 1 (A.ints x.2.2))]) (fun x => (a.length + b.length - x.1).toNat) (fun x => plusI a b x.1 x.2.1 x.2.2) (0, 0, []) (by rfl) ?_ ?_ ?_
 all_goals try exact tH
 all_goals try exact plusI_zero a b
 all_goals (
  rintro ⟨i, c, o⟩ hinv
  simp only at hinv
  have hx := ha.get i.toNat
  have hy := hb.get i.toNat
  have hnext := fun {s : Int} => plusI_next (s := s) ha hb hinv
  have hexit := fun h1 h2 => plusI_exit hinv h1 h2 hv
  obtain ⟨hi0, hi1, hol, hov, hc0, hc1, hval⟩ := id hinv)
 iterate 2 all_goals try cbv; with_reducible repeat' first | exact ⟨⟩ | apply And.intro | intro _
 all_goals try exact oH
 iterate 2 all_goals try cbv; with_reducible repeat' first | exact ⟨⟩ | apply And.intro | intro _
 all_goals try exact oH
 ·obtain ⟨y1, hy1⟩ : ∃ y, y = i + 1 := ⟨_, rfl⟩
  obtain ⟨y2, hy2⟩ : ∃ y, y = (c + b.getD i.toNat 0 + a.getD i.toNat 0) / 65536 := ⟨_, rfl⟩
  obtain ⟨y3, hy3⟩ : ∃ y, y = o ++ [(c + b.getD i.toNat 0 + a.getD i.toNat 0) % 65536] := ⟨_, rfl⟩
  refine ⟨⟨(y1, y2, y3), ?_⟩, ?_, ?_⟩
  rotate_left
  ·cbv
   exact nH
  ·exact eH
  ·(subst hA; subst_vars; simp only [AR.std, natCast_eq, sH, reduceCtorEq] at *; try simp (disch := omega) only [AR.std, natCast_eq, sH, reduceCtorEq] at *); exact hnext (by omega) (by omega)
 ·obtain ⟨y1, hy1⟩ : ∃ y, y = i + 1 := ⟨_, rfl⟩
  obtain ⟨y2, hy2⟩ : ∃ y, y = (c + b.getD i.toNat 0) / 65536 := ⟨_, rfl⟩
  obtain ⟨y3, hy3⟩ : ∃ y, y = o ++ [(c + b.getD i.toNat 0) % 65536] := ⟨_, rfl⟩
  refine ⟨⟨(y1, y2, y3), ?_⟩, ?_, ?_⟩
  rotate_left
  ·cbv
   exact nH
  ·exact eH
  ·(subst hA; subst_vars; simp only [AR.std, natCast_eq, sH, reduceCtorEq] at *; try simp (disch := omega) only [AR.std, natCast_eq, sH, reduceCtorEq] at *); exact hnext (by rw [getD_ge (l := a) (by omega)]; omega) (by omega)
 ·refine callS hA rfl (trim_fs C (l := o ++ [c]) (p := A.app (A.ints o) [I c]) (r := r) (by subst hA; simp only [AR.std, natCast_eq, sH, reduceCtorEq]) (by rw [hr, hexit (by exact eH) (by exact eH)]) (by exact eH)) ?_; rintro _ rfl
  cbv
 ·obtain ⟨y1, hy1⟩ : ∃ y, y = i + 1 := ⟨_, rfl⟩
  obtain ⟨y2, hy2⟩ : ∃ y, y = (c + a.getD i.toNat 0 + b.getD i.toNat 0) / 65536 := ⟨_, rfl⟩
  obtain ⟨y3, hy3⟩ : ∃ y, y = o ++ [(c + a.getD i.toNat 0 + b.getD i.toNat 0) % 65536] := ⟨_, rfl⟩
  refine ⟨⟨(y1, y2, y3), ?_⟩, ?_, ?_⟩
  rotate_left
  ·cbv
   exact nH
  ·exact eH
  ·(subst hA; subst_vars; simp only [AR.std, natCast_eq, sH, reduceCtorEq] at *; try simp (disch := omega) only [AR.std, natCast_eq, sH, reduceCtorEq] at *); exact hnext (by omega) (by omega)
 ·obtain ⟨y1, hy1⟩ : ∃ y, y = i + 1 := ⟨_, rfl⟩
  obtain ⟨y2, hy2⟩ : ∃ y, y = (c + a.getD i.toNat 0) / 65536 := ⟨_, rfl⟩
  obtain ⟨y3, hy3⟩ : ∃ y, y = o ++ [(c + a.getD i.toNat 0) % 65536] := ⟨_, rfl⟩
  refine ⟨⟨(y1, y2, y3), ?_⟩, ?_, ?_⟩
  rotate_left
  ·cbv
   exact nH
  ·exact eH
  ·(subst hA; subst_vars; simp only [AR.std, natCast_eq, sH, reduceCtorEq] at *; try simp (disch := omega) only [AR.std, natCast_eq, sH, reduceCtorEq] at *); exact hnext (by rw [getD_ge (l := b) (by omega)]; omega) (by omega)
 ·refine callS hA rfl (trim_fs C (l := o ++ [c]) (p := A.app (A.ints o) [I c]) (r := r) (by subst hA; simp only [AR.std, natCast_eq, sH, reduceCtorEq]) (by rw [hr, hexit (by exact eH) (by exact eH)]) (by exact eH)) ?_; rintro _ rfl
  cbv

theorem minus_fs (C : Cx P gl) {a b : List Int} {n : Nat} {p q r : List PV} (hp : p = intsL a) (hq : q = intsL b) (ha : Valid a) (hb : Valid b) (hv : val a - val b = n) (hr : r = intsL (dg n))
  (hla : a.length ≤ 100000000) (hlb : b.length ≤ a.length) : FS P gl 222 [.lst p, .lst q] (· = .lst r) := by
 refine gS C func222 rfl rfl rfl fun A hA hI => ?_
 iterate 2 all_goals try cbv; with_reducible repeat' first | exact ⟨⟩ | apply And.intro | intro _
 all_goals try exact oH
 refine loopI hA [] (ι := Int × Int × List Int) (fun x => [(5, .own 0), (6, .pv (I x.2.1)), (14, .pv (I x.1))]) (fun x => [(0, .row 3 1 (A.ints x.2.2))]) (fun x => (a.length - x.1).toNat) (fun x => minusI a b x.1 x.2.1 x.2.2) (0, 0, []) (by rfl) ?_ ?_ ?_
 all_goals try exact tH
 ·exact minusI_zero a b
 rintro ⟨i, w, o⟩ hinv
 simp only at hinv
 have hx := ha.get i.toNat
 have hy := hb.get i.toNat
 have hnext := fun {x d w' : Int} => minusI_next (x := x) (d := d) (w' := w') ha hb hinv
 have hexit := fun h1 h2 => minusI_exit hinv h1 h2 hv
 obtain ⟨hi0, hi1, hol, hov, hc0, hc1, hval⟩ := id hinv
 iterate 2 all_goals try cbv; with_reducible repeat' first | exact ⟨⟩ | apply And.intro | intro _
 all_goals try exact oH
 iterate 2 all_goals try cbv; with_reducible repeat' first | exact ⟨⟩ | apply And.intro | intro _
 all_goals try exact oH
 iterate 2 all_goals try cbv; with_reducible repeat' first | exact ⟨⟩ | apply And.intro | intro _
 all_goals try exact oH
 ·obtain ⟨y1, hy1⟩ : ∃ y, y = i + 1 := ⟨_, rfl⟩
  obtain ⟨y2, hy2⟩ : ∃ y, y = 1 := ⟨_, rfl⟩
  obtain ⟨y3, hy3⟩ : ∃ y, y = o ++ [a.getD i.toNat 0 - w - b.getD i.toNat 0 + 65536] := ⟨_, rfl⟩
  refine ⟨⟨(y1, y2, y3), ?_⟩, ?_, ?_⟩
  rotate_left
  ·cbv
   exact nH
  ·exact eH
  ·(subst hA; subst_vars; simp only [AR.std, natCast_eq, sH, reduceCtorEq] at *; try simp (disch := omega) only [AR.std, natCast_eq, sH, reduceCtorEq] at *); exact hnext rfl (by omega) (by omega)
 ·obtain ⟨y1, hy1⟩ : ∃ y, y = i + 1 := ⟨_, rfl⟩
  obtain ⟨y2, hy2⟩ : ∃ y, y = 0 := ⟨_, rfl⟩
  obtain ⟨y3, hy3⟩ : ∃ y, y = o ++ [a.getD i.toNat 0 - w - b.getD i.toNat 0] := ⟨_, rfl⟩
  refine ⟨⟨(y1, y2, y3), ?_⟩, ?_, ?_⟩
  rotate_left
  ·cbv
   exact nH
  ·exact eH
  ·(subst hA; subst_vars; simp only [AR.std, natCast_eq, sH, reduceCtorEq] at *; try simp (disch := omega) only [AR.std, natCast_eq, sH, reduceCtorEq] at *); exact hnext rfl (by omega) (by omega)
 ·obtain ⟨y1, hy1⟩ : ∃ y, y = i + 1 := ⟨_, rfl⟩
  obtain ⟨y2, hy2⟩ : ∃ y, y = 1 := ⟨_, rfl⟩
  obtain ⟨y3, hy3⟩ : ∃ y, y = o ++ [a.getD i.toNat 0 - w + 65536] := ⟨_, rfl⟩
  refine ⟨⟨(y1, y2, y3), ?_⟩, ?_, ?_⟩
  rotate_left
  ·cbv
   exact nH
  ·exact eH
  ·(subst hA; subst_vars; simp only [AR.std, natCast_eq, sH, reduceCtorEq] at *; try simp (disch := omega) only [AR.std, natCast_eq, sH, reduceCtorEq] at *); exact hnext (x := a.getD i.toNat 0 - w) (by rw [getD_ge (l := b) (by omega)]; omega) (by omega) (by omega)
 ·obtain ⟨y1, hy1⟩ : ∃ y, y = i + 1 := ⟨_, rfl⟩
  obtain ⟨y2, hy2⟩ : ∃ y, y = 0 := ⟨_, rfl⟩
  obtain ⟨y3, hy3⟩ : ∃ y, y = o ++ [a.getD i.toNat 0 - w] := ⟨_, rfl⟩
  refine ⟨⟨(y1, y2, y3), ?_⟩, ?_, ?_⟩
  rotate_left
  ·cbv
   exact nH
  ·exact eH
  ·(subst hA; subst_vars; simp only [AR.std, natCast_eq, sH, reduceCtorEq] at *; try simp (disch := omega) only [AR.std, natCast_eq, sH, reduceCtorEq] at *); exact hnext (x := a.getD i.toNat 0 - w) (by rw [getD_ge (l := b) (by omega)]; omega) (by omega) (by omega)
 ·refine callS hA rfl (trim_fs C (l := o) (p := A.ints o) (r := r) (by subst hA; rfl) (by rw [hr, hexit (by exact eH) (by exact eH)]) (by exact eH)) ?_; rintro _ rfl
  cbv
end Tryz
end Go.Proofs
