/- Contracts: the law's own helpers: equality, sizes. -/
import Derived.Test.YtlkiofkkjbodjaaGreatDoorBN8
import Derived.Test.YtlkiofkkjbodjaaGreatDoorBEvD
set_option maxHeartbeats 1000000
set_option maxRecDepth 100000
namespace Go.Proofs
open Go Go.Pe Go.Dg
namespace Tryz

theorem gX2 {P : Program} {gl : List (Nat × Obj)} (C : Tryz.Cx P gl) {f : FuncId} {fn : Func} {c : Code} {own : List Blk} {args : List FV} {R : List Blk → FV → Prop} (hf : Tryz.prog.funcs[f]? = some fn) (hb : fn.body = some c) (hm : (fn.name == "runtime.NumGoroutine") = false) (hn : Nat.ble args.length fn.ntmps = true)
 (hv : ∀ A, A = AR.std → aA = A.ints → iU P Tryz.T A gl .any c (aT1 Tryz.T A fn.results.toList own.length R) ⟨cS 0 args, own, fn.ntmps, own.length⟩) : FX P gl f own args R := by
 obtain ⟨rfl, hG⟩ := C
 exact aNL (own := fun _ => own) (args := fun _ => args) (R := fun _ => R) Tryz.hT Tryz.mix hf hb hm (Nat.le_of_ble_eq_true hn) fun A hA => hv A hA (by subst hA; rfl)

set_option linter.unusedSimpArgs false
set_option linter.unusedVariables false
variable {P : Program} {gl : List (Nat × Obj)}

def cpI (l : List Int) (i : Int) (o : List Int) : Prop := 0 ≤ i ∧ i ≤ l.length ∧ o.length = l.length ∧ ∀ j : Nat, j < i.toNat → o.getD j 0 = l.getD j 0

theorem aPZ (l : List Int) : cpI l 0 (List.replicate l.length 0) := ⟨Int.le_refl _, by omega, by simp, fun j hj => by simp at hj⟩

theorem aP0 {l : List Int} {i : Int} {o : List Int} (h : cpI l i o) (hi : i < l.length) : cpI l (i + 1) (o.set i.toNat (l.getD i.toNat 0)) := by
 obtain ⟨a, b, d, e⟩ := h
 refine ⟨by omega, by omega, by rw [List.length_set]; exact d, fun j hj => ?_⟩
 by_cases he : j = i.toNat
 ·subst he; rw [Go.Dg.gE (by omega)]
 ·rw [Go.Dg.getD_set_ne (by omega)]; exact e j (by omega)

theorem aP1 {l : List Int} {i : Int} {o : List Int} (h : cpI l i o) (hi : l.length ≤ i) : o = l := by
 obtain ⟨a, b, d, e⟩ := h
 apply yQ d
 intro j hj
 exact e j (by omega)

theorem aMD (C : Cx P gl) {l : List Int} {p : List PV} (hp : p = aA l) (hl : l.length ≤ 2000000) : FX P gl 252 [] [.pv (.lst p)] (fun own r => own = [.row 3 1 p] ∧ r = .own 0) := by
 refine gX2 C func252 rfl rfl rfl fun A hA hI => ?_
 iterate 2 all_goals try cbv; with_reducible repeat' first | exact ⟨⟩ | apply And.intro | intro _
 all_goals try exact oH
 refine aZ hA [] (ι := Int × List Int) (fun x => [(3, .own 0), (4, .pv (I x.1))]) (fun x => [(0, .row 3 1 (A.ints x.2))]) (fun x => (l.length - x.1).toNat) (fun x => cpI l x.1 x.2) (0, List.replicate l.length 0) (by rfl) ?_ ?_ ?_
 all_goals try exact tH
 ·exact aPZ l
 rintro ⟨i, o⟩ hinv
 simp only at hinv
 have aJ := fun hi => aP0 hinv hi
 have aN := fun hi => aP1 hinv hi
 obtain ⟨hi0, hi1, hol, _⟩ := id hinv
 clear hinv
 iterate 2 all_goals try cbv; with_reducible repeat' first | exact ⟨⟩ | apply And.intro | intro _
 all_goals try exact oH
 iterate 2 all_goals try cbv; with_reducible repeat' first | exact ⟨⟩ | apply And.intro | intro _
 all_goals try exact oH
 ·obtain ⟨y1, hy1⟩ : ∃ y, y = i + 1 := ⟨_, rfl⟩
  obtain ⟨y2, hy2⟩ : ∃ y, y = o.set i.toNat (l.getD i.toNat 0) := ⟨_, rfl⟩
  refine ⟨⟨(y1, y2), ?_⟩, ?_, ?_⟩
  rotate_left
  ·cbv
   exact nH
  ·exact eH
  ·rw [hy1, hy2]; exact aJ (by exact eH)
 ·have e : A.ints o = p := by rw [aN (by clear aJ aN; exact eH), hp]; subst hA; rfl
  simp only [e]
  subst hA
  exact ⟨[0], _, _, by decide, Nat.zero_le _, rfl, rfl, rfl, rfl, rfl, rfl⟩

theorem aME (C : Cx P gl) {l : List Int} {p : List PV} (hp : p = aA l) (hl : l.length ≤ 2000000) : FN P gl 252 [.lst p] (fun own r => own = [.row 3 1 p] ∧ r = .own 0) :=
 kO (aMD C hp hl) (by rintro _ _ ⟨rfl, rfl⟩; exact ⟨by simpa using gI hp _ _, rfl⟩)

theorem aP2 (C : Cx P gl) {l : List Int} {p : List PV} (hp : p = aA l) (hl : l.length ≤ 2000000) : FX P gl 214 [] [.pv (.agg [.lst p])] (fun own r => own = [.row 3 1 p] ∧ r = .agg [.own 0]) := by
 refine gX2 C func214 rfl rfl rfl fun A hA hI => ?_
 iterate 2 all_goals try cbv; with_reducible repeat' first | exact ⟨⟩ | apply And.intro | intro _
 all_goals try exact oH
 refine dE hA rfl (aME C hp hl) ?_; rintro _ _ ⟨rfl, rfl⟩; refine ⟨rfl, ?_⟩
 iterate 2 all_goals try cbv; with_reducible repeat' first | exact ⟨⟩ | apply And.intro | intro _
 all_goals try exact oH
 subst hA
 exact ⟨[3], _, _, by decide, Nat.zero_le _, rfl, rfl, rfl, rfl, rfl, rfl⟩

theorem aP3 (C : Cx P gl) {l : List Int} {p : List PV} (hp : p = aA l) (hl : l.length ≤ 2000000) : FN P gl 214 [.agg [.lst p]] (fun own r => own = [.row 3 1 p] ∧ r = .agg [.own 0]) :=
 kO (aP2 C hp hl) (by rintro _ _ ⟨rfl, rfl⟩; exact ⟨by simpa using gI hp _ _, rfl⟩)

theorem aIJ (C : Cx P gl) {l : List Int} {p : List PV} {s : Bool} (hp : p = aA l) (hl : l.length ≤ 2000000) : FX P gl 148 [] [.pv (.agg [B s, .lst p])] (fun own r => own = [.row 3 1 p] ∧ r = .agg [.pv (B s), .own 0]) := by
 refine gX2 C func148 rfl rfl rfl fun A hA hI => ?_
 iterate 2 all_goals try cbv; with_reducible repeat' first | exact ⟨⟩ | apply And.intro | intro _
 all_goals try exact oH
 refine dE hA rfl (aP3 C hp hl) ?_; rintro _ _ ⟨rfl, rfl⟩; refine ⟨rfl, ?_⟩
 iterate 2 all_goals try cbv; with_reducible repeat' first | exact ⟨⟩ | apply And.intro | intro _
 all_goals try exact oH
 subst hA
 exact ⟨[3], _, _, by decide, Nat.zero_le _, rfl, rfl, rfl, rfl, rfl, rfl⟩

theorem aIK (C : Cx P gl) {l : List Int} {p : List PV} {s : Bool} (hp : p = aA l) (hl : l.length ≤ 2000000) : FN P gl 148 [.agg [B s, .lst p]] (fun own r => own = [.row 3 1 p] ∧ r = .agg [.pv (B s), .own 0]) :=
 kO (aIJ C hp hl) (by rintro _ _ ⟨rfl, rfl⟩; exact ⟨by simpa using gI hp _ _, rfl⟩)

theorem aS4 (C : Cx P gl) {l : List Int} {p : List PV} {s : Bool} {e : Int} (hp : p = aA l) (hl : l.length ≤ 2000000) : FX P gl 74 [] [.pv (.agg [B s, .lst p, I e])] (fun own r => own = [.row 3 1 p] ∧ r = .agg [.pv (B s), .own 0, .pv (I e)]) := by
 refine gX2 C func74 rfl rfl rfl fun A hA hI => ?_
 iterate 2 all_goals try cbv; with_reducible repeat' first | exact ⟨⟩ | apply And.intro | intro _
 all_goals try exact oH
 refine dE hA rfl (aIK C hp hl) ?_; rintro _ _ ⟨rfl, rfl⟩; refine ⟨rfl, ?_⟩
 iterate 2 all_goals try cbv; with_reducible repeat' first | exact ⟨⟩ | apply And.intro | intro _
 all_goals try exact oH
 subst hA
 exact ⟨[3], _, _, by decide, Nat.zero_le _, rfl, rfl, rfl, rfl, rfl, rfl⟩

theorem aS5 (C : Cx P gl) {l : List Int} {p : List PV} {s : Bool} {e : Int} (hp : p = aA l) (hl : l.length ≤ 2000000) : FN P gl 74 [.agg [B s, .lst p, I e]] (fun own r => own = [.row 3 1 p] ∧ r = .agg [.pv (B s), .own 0, .pv (I e)]) :=
 kO (aS4 C hp hl) (by rintro _ _ ⟨rfl, rfl⟩; exact ⟨by simpa using gI hp _ _, rfl⟩)

end Tryz
end Go.Proofs

set_option maxHeartbeats 1000000
set_option maxRecDepth 100000
namespace Go.Proofs
open Go Go.Pe Go.Dg
namespace Tryz
set_option linter.unusedSimpArgs false
set_option linter.unusedVariables false
variable {P : Program} {gl : List (Nat × Obj)}

theorem aMF (C : Cx P gl) {l : List Int} {p : List PV} (hp : p = aA l) (hl : l.length ≤ 2000000) : FS P gl 231 [.lst p, .lst p] (· = B true) := by
 refine gS C func231 rfl rfl rfl fun A hA hI => ?_
 iterate 2 all_goals try cbv; with_reducible repeat' first | exact ⟨⟩ | apply And.intro | intro _
 all_goals try exact oH
 refine aZ hA [] (ι := Int) (fun x => [(5, .pv (I x))]) (fun x => []) (fun x => (l.length - x).toNat) (fun x => 0 ≤ x ∧ x ≤ l.length) 0 (by rfl) ?_ ?_ ?_
 all_goals try exact tH
 ·omega
 rintro i ⟨hi0, hi1⟩
 iterate 2 all_goals try cbv; with_reducible repeat' first | exact ⟨⟩ | apply And.intro | intro _
 all_goals try exact oH
 iterate 2 all_goals try cbv; with_reducible repeat' first | exact ⟨⟩ | apply And.intro | intro _
 all_goals try exact oH
 obtain ⟨y1, hy1⟩ : ∃ y, y = i + 1 := ⟨_, rfl⟩
 refine ⟨⟨y1, ?_⟩, ?_, ?_⟩
 rotate_left
 ·cbv
  exact nH
 ·exact eH
 ·rw [hy1]; exact eH

theorem aP4 (C : Cx P gl) {l : List Int} {p : List PV} (hp : p = aA l) (hl : l.length ≤ 2000000) : FS P gl 177 [.agg [.lst p], .agg [.lst p]] (· = B true) := by
 refine gS C func177 rfl rfl rfl fun A hA hI => ?_
 iterate 2 all_goals try cbv; with_reducible repeat' first | exact ⟨⟩ | apply And.intro | intro _
 all_goals try exact oH
 refine aD hA rfl (aMF C hp hl) ?_; rintro _ rfl
 iterate 2 all_goals try cbv; with_reducible repeat' first | exact ⟨⟩ | apply And.intro | intro _
 all_goals try exact oH

theorem aIL (C : Cx P gl) {l : List Int} {p : List PV} {s : Bool} (hp : p = aA l) (hl : l.length ≤ 2000000) : FS P gl 100 [.agg [B s, .lst p], .agg [B s, .lst p]] (· = B true) := by
 refine gS C func100 rfl rfl rfl fun A hA hI => ?_
 iterate 2 all_goals try cbv; with_reducible repeat' first | exact ⟨⟩ | apply And.intro | intro _
 all_goals try exact oH
 refine aD hA rfl (aP4 C hp hl) ?_; rintro _ rfl
 iterate 2 all_goals try cbv; with_reducible repeat' first | exact ⟨⟩ | apply And.intro | intro _
 all_goals try exact oH

theorem iX (C : Cx P gl) {l : List Int} {p : List PV} {s : Bool} {e : Int} (hp : p = aA l) (hl : l.length ≤ 2000000) : FS P gl 35 [.agg [B s, .lst p, I e], .agg [B s, .lst p, I e]] (· = B true) := by
 refine gS C func35 rfl rfl rfl fun A hA hI => ?_
 iterate 2 all_goals try cbv; with_reducible repeat' first | exact ⟨⟩ | apply And.intro | intro _
 all_goals try exact oH
 refine aD hA rfl (aIL C hp hl) ?_; rintro _ rfl
 iterate 2 all_goals try cbv; with_reducible repeat' first | exact ⟨⟩ | apply And.intro | intro _
 all_goals try exact oH
 iterate 2 all_goals try cbv; with_reducible repeat' first | exact ⟨⟩ | apply And.intro | intro _
 all_goals try exact oH

theorem aMG (C : Cx P gl) {l : List Int} {p : List PV} {k r : Int} (hp : p = aA l) (hl : l.length ≤ 9223372036854775807) (hk0 : 0 ≤ k) (hk : k ≤ 1048576) (hr : r = if (l.length : Int) ≤ k then k - l.length else -1) : FS P gl 251 [.lst p, I k] (· = I r) := by
 refine gS C func251 rfl rfl rfl fun A hA hI => ?_
 iterate 2 all_goals try cbv; with_reducible repeat' first | exact ⟨⟩ | apply And.intro | intro _
 all_goals try exact oH
 ·rename_i g
  have g : r = -1 := by rw [hr]; clear hr; (subst hA; subst_vars; simp only [AR.std, bBG, sH, reduceCtorEq] at *; try simp (disch := omega) only [AR.std, bBG, sH, reduceCtorEq] at *); rw [if_neg (by omega)]
  rw [g]
 ·rename_i g
  have g : A.sub .i64 k (A.cast (A.len p)) = r := by rw [hr]; clear hr; (subst hA; subst_vars; simp only [AR.std, bBG, sH, reduceCtorEq] at *; try simp (disch := omega) only [AR.std, bBG, sH, reduceCtorEq] at *); rw [if_pos (by omega)]
  rw [← g]

theorem aP5 (C : Cx P gl) {l : List Int} {p : List PV} {k r : Int} (hp : p = aA l) (hl : l.length ≤ 9223372036854775807) (hk0 : 0 ≤ k) (hk : k ≤ 1048576) (hr : r = if (l.length : Int) ≤ k then k - l.length else -1) : FS P gl 206 [.agg [.lst p], I k] (· = I r) := by
 have hr2 : -1 ≤ r := by rw [hr]; split <;> omega
 refine gS C func206 rfl rfl rfl fun A hA hI => ?_
 iterate 2 all_goals try cbv; with_reducible repeat' first | exact ⟨⟩ | apply And.intro | intro _
 all_goals try exact oH
 refine aD hA rfl (aMG C hp hl hk0 hk hr) ?_; rintro _ rfl
 clear hr
 iterate 2 all_goals try cbv; with_reducible repeat' first | exact ⟨⟩ | apply And.intro | intro _
 all_goals try exact oH
 rename_i g
 have g : r = -1 := by exact eH
 rw [g]

theorem aIM (C : Cx P gl) {l : List Int} {p : List PV} {k r : Int} {s : Bool} (hp : p = aA l) (hl : l.length ≤ 9223372036854775807) (hk0 : 0 ≤ k) (hk : k ≤ 1048576) (hr : r = if (l.length : Int) ≤ k then k - l.length else -1) : FS P gl 138 [.agg [B s, .lst p], I k] (· = I r) := by
 have hr2 : -1 ≤ r := by rw [hr]; split <;> omega
 refine gS C func138 rfl rfl rfl fun A hA hI => ?_
 iterate 2 all_goals try cbv; with_reducible repeat' first | exact ⟨⟩ | apply And.intro | intro _
 all_goals try exact oH
 refine aD hA rfl (aP5 C hp hl hk0 hk hr) ?_; rintro _ rfl
 clear hr
 iterate 2 all_goals try cbv; with_reducible repeat' first | exact ⟨⟩ | apply And.intro | intro _
 all_goals try exact oH
 rename_i g
 have g : r = -1 := by exact eH
 rw [g]

theorem aS6 (C : Cx P gl) {l : List Int} {p : List PV} {k r : Int} {s : Bool} {e : Int} (hp : p = aA l) (hl : l.length ≤ 9223372036854775807) (hk0 : 0 ≤ k) (hk : k ≤ 1048576) (hr : r = if (l.length : Int) ≤ k then k - l.length else -1) : FS P gl 65 [.agg [B s, .lst p, I e], I k] (· = I r) := by
 have hr2 : -1 ≤ r := by rw [hr]; split <;> omega
 refine gS C func65 rfl rfl rfl fun A hA hI => ?_
 iterate 2 all_goals try cbv; with_reducible repeat' first | exact ⟨⟩ | apply And.intro | intro _
 all_goals try exact oH
 refine aD hA rfl (aIM C hp hl hk0 hk hr) ?_; rintro _ rfl
 clear hr
 iterate 2 all_goals try cbv; with_reducible repeat' first | exact ⟨⟩ | apply And.intro | intro _
 all_goals try exact oH
 rename_i g
 have g : r = -1 := by exact eH
 rw [g]

end Tryz
end Go.Proofs

