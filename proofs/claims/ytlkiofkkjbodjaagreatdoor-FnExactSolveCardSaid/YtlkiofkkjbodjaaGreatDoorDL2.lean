/- Contracts: the law's own helpers: equality, sizes. -/
import Derived.Test.YtlkiofkkjbodjaaGreatDoorDN8
import Derived.Test.YtlkiofkkjbodjaaGreatDoorDEvD
set_option maxHeartbeats 1000000
set_option maxRecDepth 100000
namespace Go.Proofs
open Go Go.Pe Go.Dg
namespace Tryz
set_option linter.unusedSimpArgs false
set_option linter.unusedVariables false
variable {P : Program} {gl : List (Nat × Obj)}

def cpI (l : List Int) (i : Int) (o : List Int) : Prop := 0 ≤ i ∧ i ≤ l.length ∧ o.length = l.length ∧ ∀ j : Nat, j < i.toNat → o.getD j 0 = l.getD j 0

theorem cpI_zero (l : List Int) : cpI l 0 (List.replicate l.length 0) := ⟨Int.le_refl _, by omega, by simp, fun j hj => by simp at hj⟩

theorem cpI_next {l : List Int} {i : Int} {o : List Int} (h : cpI l i o) (hi : i < l.length) : cpI l (i + 1) (o.set i.toNat (l.getD i.toNat 0)) := by
 obtain ⟨a, b, d, e⟩ := h
 refine ⟨by omega, by omega, by rw [List.length_set]; exact d, fun j hj => ?_⟩
 by_cases he : j = i.toNat
 ·subst he; rw [Go.Dg.getD_set_eq (by omega)]
 ·rw [Go.Dg.getD_set_ne (by omega)]; exact e j (by omega)

theorem cpI_exit {l : List Int} {i : Int} {o : List Int} (h : cpI l i o) (hi : l.length ≤ i) : o = l := by
 obtain ⟨a, b, d, e⟩ := h
 apply ext_getD d
 intro j hj
 exact e j (by omega)

theorem toIntS_fx (C : Cx P gl) {l : List Int} {p : List PV} (hp : p = intsL l) (hl : l.length ≤ 2000000) : FX P gl 252 [] [.pv (.lst p)] (fun own r => own = [.row 3 1 p] ∧ r = .own 0) := by
 refine gX C func252 rfl rfl rfl fun A hA hI => ?_
 iterate 2 all_goals try cbv; with_reducible repeat' first | exact ⟨⟩ | apply And.intro | intro _
 all_goals try exact oH
 refine loopI hA [] (ι := Int × List Int) (fun x => [(3, .own 0), (4, .pv (I x.1))]) (fun x => [(0, .row 3 1 (A.ints x.2))]) (fun x => (l.length - x.1).toNat) (fun x => cpI l x.1 x.2) (0, List.replicate l.length 0) (by rfl) ?_ ?_ ?_
 all_goals try exact tH
 ·exact cpI_zero l
 rintro ⟨i, o⟩ hinv
 simp only at hinv
 have hnext := fun hi => cpI_next hinv hi
 have hexit := fun hi => cpI_exit hinv hi
 obtain ⟨hi0, hi1, hol, _⟩ := id hinv
 clear hinv
 iterate 2 all_goals try cbv; with_reducible repeat' first | exact ⟨⟩ | apply And.intro | intro _
 all_goals try exact oH
 iterate 2 all_goals try cbv; with_reducible repeat' first | exact ⟨⟩ | apply And.intro | intro _
 all_goals try exact oH
 ·obtain ⟨y1, hy1⟩ : ∃ y, y = i + 1 := ⟨_, rfl⟩
  obtain ⟨y2, hy2⟩ : ∃ y, y = o.set i.toNat (l.getD i.toNat 0) := ⟨_, rfl⟩
  refine ⟨⟨(y1, y2), ?_⟩, ?_, ?_⟩
  rotate_left
  ·cbv
   exact nH
  ·exact eH
  ·rw [hy1, hy2]; exact hnext (by exact eH)
 ·have e : A.ints o = p := by rw [hexit (by clear hnext hexit; exact eH), hp]; subst hA; rfl
  simp only [e]
  subst hA
  exact ⟨[0], _, _, by decide, Nat.zero_le _, rfl, rfl, rfl, rfl, rfl, rfl⟩

theorem toIntS_fn (C : Cx P gl) {l : List Int} {p : List PV} (hp : p = intsL l) (hl : l.length ≤ 2000000) : FN P gl 252 [.lst p] (fun own r => own = [.row 3 1 p] ∧ r = .own 0) :=
 FN_of (toIntS_fx C hp hl) (by rintro _ _ ⟨rfl, rfl⟩; exact ⟨by simpa using closed_ints hp _ _, rfl⟩)

theorem toNat_fx (C : Cx P gl) {l : List Int} {p : List PV} (hp : p = intsL l) (hl : l.length ≤ 2000000) : FX P gl 214 [] [.pv (.agg [.lst p])] (fun own r => own = [.row 3 1 p] ∧ r = .agg [.own 0]) := by
 refine gX C func214 rfl rfl rfl fun A hA hI => ?_
 iterate 2 all_goals try cbv; with_reducible repeat' first | exact ⟨⟩ | apply And.intro | intro _
 all_goals try exact oH
 refine callN hA rfl (toIntS_fn C hp hl) ?_; rintro _ _ ⟨rfl, rfl⟩; refine ⟨rfl, ?_⟩
 iterate 2 all_goals try cbv; with_reducible repeat' first | exact ⟨⟩ | apply And.intro | intro _
 all_goals try exact oH
 subst hA
 exact ⟨[3], _, _, by decide, Nat.zero_le _, rfl, rfl, rfl, rfl, rfl, rfl⟩

theorem toNat_fn (C : Cx P gl) {l : List Int} {p : List PV} (hp : p = intsL l) (hl : l.length ≤ 2000000) : FN P gl 214 [.agg [.lst p]] (fun own r => own = [.row 3 1 p] ∧ r = .agg [.own 0]) :=
 FN_of (toNat_fx C hp hl) (by rintro _ _ ⟨rfl, rfl⟩; exact ⟨by simpa using closed_ints hp _ _, rfl⟩)

theorem toWhole_fx (C : Cx P gl) {l : List Int} {p : List PV} {s : Bool} (hp : p = intsL l) (hl : l.length ≤ 2000000) : FX P gl 148 [] [.pv (.agg [B s, .lst p])] (fun own r => own = [.row 3 1 p] ∧ r = .agg [.pv (B s), .own 0]) := by
 refine gX C func148 rfl rfl rfl fun A hA hI => ?_
 iterate 2 all_goals try cbv; with_reducible repeat' first | exact ⟨⟩ | apply And.intro | intro _
 all_goals try exact oH
 refine callN hA rfl (toNat_fn C hp hl) ?_; rintro _ _ ⟨rfl, rfl⟩; refine ⟨rfl, ?_⟩
 iterate 2 all_goals try cbv; with_reducible repeat' first | exact ⟨⟩ | apply And.intro | intro _
 all_goals try exact oH
 subst hA
 exact ⟨[3], _, _, by decide, Nat.zero_le _, rfl, rfl, rfl, rfl, rfl, rfl⟩

theorem toWhole_fn (C : Cx P gl) {l : List Int} {p : List PV} {s : Bool} (hp : p = intsL l) (hl : l.length ≤ 2000000) : FN P gl 148 [.agg [B s, .lst p]] (fun own r => own = [.row 3 1 p] ∧ r = .agg [.pv (B s), .own 0]) :=
 FN_of (toWhole_fx C hp hl) (by rintro _ _ ⟨rfl, rfl⟩; exact ⟨by simpa using closed_ints hp _ _, rfl⟩)

theorem toDy_fx (C : Cx P gl) {l : List Int} {p : List PV} {s : Bool} {e : Int} (hp : p = intsL l) (hl : l.length ≤ 2000000) : FX P gl 74 [] [.pv (.agg [B s, .lst p, I e])] (fun own r => own = [.row 3 1 p] ∧ r = .agg [.pv (B s), .own 0, .pv (I e)]) := by
 refine gX C func74 rfl rfl rfl fun A hA hI => ?_
 iterate 2 all_goals try cbv; with_reducible repeat' first | exact ⟨⟩ | apply And.intro | intro _
 all_goals try exact oH
 refine callN hA rfl (toWhole_fn C hp hl) ?_; rintro _ _ ⟨rfl, rfl⟩; refine ⟨rfl, ?_⟩
 iterate 2 all_goals try cbv; with_reducible repeat' first | exact ⟨⟩ | apply And.intro | intro _
 all_goals try exact oH
 subst hA
 exact ⟨[3], _, _, by decide, Nat.zero_le _, rfl, rfl, rfl, rfl, rfl, rfl⟩

theorem toDy_fn (C : Cx P gl) {l : List Int} {p : List PV} {s : Bool} {e : Int} (hp : p = intsL l) (hl : l.length ≤ 2000000) : FN P gl 74 [.agg [B s, .lst p, I e]] (fun own r => own = [.row 3 1 p] ∧ r = .agg [.pv (B s), .own 0, .pv (I e)]) :=
 FN_of (toDy_fx C hp hl) (by rintro _ _ ⟨rfl, rfl⟩; exact ⟨by simpa using closed_ints hp _ _, rfl⟩)

end Tryz
end Go.Proofs

set_option maxHeartbeats 1000000
set_option maxRecDepth 100000
namespace Go.Proofs
open Go Go.Pe Go.Dg
namespace Tryz
set_option linter.unusedSimpArgs false
set_option linter.unusedVariables false
variable {P : Program} {gl : List (Nat × Obj)}

theorem eqIntS_fs (C : Cx P gl) {l : List Int} {p : List PV} (hp : p = intsL l) (hl : l.length ≤ 2000000) : FS P gl 231 [.lst p, .lst p] (· = B true) := by
 refine gS C func231 rfl rfl rfl fun A hA hI => ?_
 iterate 2 all_goals try cbv; with_reducible repeat' first | exact ⟨⟩ | apply And.intro | intro _
 all_goals try exact oH
 refine loopI hA [] (ι := Int) (fun x => [(5, .pv (I x))]) (fun x => []) (fun x => (l.length - x).toNat) (fun x => 0 ≤ x ∧ x ≤ l.length) 0 (by rfl) ?_ ?_ ?_
 all_goals try exact tH
 ·omega
 rintro i ⟨hi0, hi1⟩
 iterate 2 all_goals try cbv; with_reducible repeat' first | exact ⟨⟩ | apply And.intro | intro _
 all_goals try exact oH
 iterate 2 all_goals try cbv; with_reducible repeat' first | exact ⟨⟩ | apply And.intro | intro _
 all_goals try exact oH
 obtain ⟨y1, hy1⟩ : ∃ y, y = i + 1 := ⟨_, rfl⟩
 refine ⟨⟨y1, ?_⟩, ?_, ?_⟩
 rotate_left
 ·cbv
  exact nH
 ·exact eH
 ·rw [hy1]; exact eH

theorem eqNat_fs (C : Cx P gl) {l : List Int} {p : List PV} (hp : p = intsL l) (hl : l.length ≤ 2000000) : FS P gl 177 [.agg [.lst p], .agg [.lst p]] (· = B true) := by
 refine gS C func177 rfl rfl rfl fun A hA hI => ?_
 iterate 2 all_goals try cbv; with_reducible repeat' first | exact ⟨⟩ | apply And.intro | intro _
 all_goals try exact oH
 refine callS hA rfl (eqIntS_fs C hp hl) ?_; rintro _ rfl
 iterate 2 all_goals try cbv; with_reducible repeat' first | exact ⟨⟩ | apply And.intro | intro _
 all_goals try exact oH

theorem eqWhole_fs (C : Cx P gl) {l : List Int} {p : List PV} {s : Bool} (hp : p = intsL l) (hl : l.length ≤ 2000000) : FS P gl 100 [.agg [B s, .lst p], .agg [B s, .lst p]] (· = B true) := by
 refine gS C func100 rfl rfl rfl fun A hA hI => ?_
 iterate 2 all_goals try cbv; with_reducible repeat' first | exact ⟨⟩ | apply And.intro | intro _
 all_goals try exact oH
 refine callS hA rfl (eqNat_fs C hp hl) ?_; rintro _ rfl
 iterate 2 all_goals try cbv; with_reducible repeat' first | exact ⟨⟩ | apply And.intro | intro _
 all_goals try exact oH

theorem eqDy_fs (C : Cx P gl) {l : List Int} {p : List PV} {s : Bool} {e : Int} (hp : p = intsL l) (hl : l.length ≤ 2000000) : FS P gl 35 [.agg [B s, .lst p, I e], .agg [B s, .lst p, I e]] (· = B true) := by
 refine gS C func35 rfl rfl rfl fun A hA hI => ?_
 iterate 2 all_goals try cbv; with_reducible repeat' first | exact ⟨⟩ | apply And.intro | intro _
 all_goals try exact oH
 refine callS hA rfl (eqWhole_fs C hp hl) ?_; rintro _ rfl
 iterate 2 all_goals try cbv; with_reducible repeat' first | exact ⟨⟩ | apply And.intro | intro _
 all_goals try exact oH
 iterate 2 all_goals try cbv; with_reducible repeat' first | exact ⟨⟩ | apply And.intro | intro _
 all_goals try exact oH

theorem eqIv_fs (C : Cx P gl) {l m : List Int} {p q : List PV} {s t : Bool} {e f : Int} (hp : p = intsL l) (hq : q = intsL m) (hl : l.length ≤ 2000000) (hm : m.length ≤ 2000000) :
  FS P gl 87 [.agg [B s, .lst p, I e, B t, .lst q, I f], .agg [B s, .lst p, I e, B t, .lst q, I f]] (· = B true) := by
 refine gS C func87 rfl rfl rfl fun A hA hI => ?_
 iterate 2 all_goals try cbv; with_reducible repeat' first | exact ⟨⟩ | apply And.intro | intro _
 all_goals try exact oH
 refine callS hA rfl (eqDy_fs C hp hl) ?_; rintro _ rfl
 iterate 2 all_goals try cbv; with_reducible repeat' first | exact ⟨⟩ | apply And.intro | intro _
 all_goals try exact oH
 refine callS hA rfl (eqDy_fs C hq hm) ?_; rintro _ rfl
 iterate 2 all_goals try cbv; with_reducible repeat' first | exact ⟨⟩ | apply And.intro | intro _
 all_goals try exact oH
 iterate 2 all_goals try cbv; with_reducible repeat' first | exact ⟨⟩ | apply And.intro | intro _
 all_goals try exact oH

theorem szIntS_fs (C : Cx P gl) {l : List Int} {p : List PV} {k r : Int} (hp : p = intsL l) (hl : l.length ≤ 9223372036854775807) (hk0 : 0 ≤ k) (hk : k ≤ 1048576) (hr : r = if (l.length : Int) ≤ k then k - l.length else -1) : FS P gl 251 [.lst p, I k] (· = I r) := by
 refine gS C func251 rfl rfl rfl fun A hA hI => ?_
 iterate 2 all_goals try cbv; with_reducible repeat' first | exact ⟨⟩ | apply And.intro | intro _
 all_goals try exact oH
 ·rename_i g
  have g : r = -1 := by rw [hr]; clear hr; (subst hA; subst_vars; simp only [AR.std, natCast_eq, sH, reduceCtorEq] at *; try simp (disch := omega) only [AR.std, natCast_eq, sH, reduceCtorEq] at *); rw [if_neg (by omega)]
  rw [g]
 ·rename_i g
  have g : A.sub .i64 k (A.cast (A.len p)) = r := by rw [hr]; clear hr; (subst hA; subst_vars; simp only [AR.std, natCast_eq, sH, reduceCtorEq] at *; try simp (disch := omega) only [AR.std, natCast_eq, sH, reduceCtorEq] at *); rw [if_pos (by omega)]
  rw [← g]

theorem szNat_fs (C : Cx P gl) {l : List Int} {p : List PV} {k r : Int} (hp : p = intsL l) (hl : l.length ≤ 9223372036854775807) (hk0 : 0 ≤ k) (hk : k ≤ 1048576) (hr : r = if (l.length : Int) ≤ k then k - l.length else -1) : FS P gl 206 [.agg [.lst p], I k] (· = I r) := by
 have hr2 : -1 ≤ r := by rw [hr]; split <;> omega
 refine gS C func206 rfl rfl rfl fun A hA hI => ?_
 iterate 2 all_goals try cbv; with_reducible repeat' first | exact ⟨⟩ | apply And.intro | intro _
 all_goals try exact oH
 refine callS hA rfl (szIntS_fs C hp hl hk0 hk hr) ?_; rintro _ rfl
 clear hr
 iterate 2 all_goals try cbv; with_reducible repeat' first | exact ⟨⟩ | apply And.intro | intro _
 all_goals try exact oH
 rename_i g
 have g : r = -1 := by exact eH
 rw [g]

theorem szWhole_fs (C : Cx P gl) {l : List Int} {p : List PV} {k r : Int} {s : Bool} (hp : p = intsL l) (hl : l.length ≤ 9223372036854775807) (hk0 : 0 ≤ k) (hk : k ≤ 1048576) (hr : r = if (l.length : Int) ≤ k then k - l.length else -1) : FS P gl 138 [.agg [B s, .lst p], I k] (· = I r) := by
 have hr2 : -1 ≤ r := by rw [hr]; split <;> omega
 refine gS C func138 rfl rfl rfl fun A hA hI => ?_
 iterate 2 all_goals try cbv; with_reducible repeat' first | exact ⟨⟩ | apply And.intro | intro _
 all_goals try exact oH
 refine callS hA rfl (szNat_fs C hp hl hk0 hk hr) ?_; rintro _ rfl
 clear hr
 iterate 2 all_goals try cbv; with_reducible repeat' first | exact ⟨⟩ | apply And.intro | intro _
 all_goals try exact oH
 rename_i g
 have g : r = -1 := by exact eH
 rw [g]

theorem szDy_fs (C : Cx P gl) {l : List Int} {p : List PV} {k r : Int} {s : Bool} {e : Int} (hp : p = intsL l) (hl : l.length ≤ 9223372036854775807) (hk0 : 0 ≤ k) (hk : k ≤ 1048576) (hr : r = if (l.length : Int) ≤ k then k - l.length else -1) : FS P gl 65 [.agg [B s, .lst p, I e], I k] (· = I r) := by
 have hr2 : -1 ≤ r := by rw [hr]; split <;> omega
 refine gS C func65 rfl rfl rfl fun A hA hI => ?_
 iterate 2 all_goals try cbv; with_reducible repeat' first | exact ⟨⟩ | apply And.intro | intro _
 all_goals try exact oH
 refine callS hA rfl (szWhole_fs C hp hl hk0 hk hr) ?_; rintro _ rfl
 clear hr
 iterate 2 all_goals try cbv; with_reducible repeat' first | exact ⟨⟩ | apply And.intro | intro _
 all_goals try exact oH
 rename_i g
 have g : r = -1 := by exact eH
 rw [g]

end Tryz
end Go.Proofs

