/- Contracts: a matrix out of a function of its places. -/
import Derived.Test.YtlkiofkkjbodjaaGreatDoorDN21
import Derived.Test.YtlkiofkkjbodjaaGreatDoorDEvD
set_option maxHeartbeats 1000000
set_option maxRecDepth 100000
namespace Go.Proofs
open Go Go.Pe Go.Dg
namespace Tryz
set_option linter.unusedSimpArgs false
set_option linter.unusedVariables false
variable {P : Program} {gl : List (Nat × Obj)}

theorem matGrid_fs (C : Cx P gl) {ys : List Cell3} {p : List PV} {n : Int} (hp : p = cells3 ys) (hl : ys.length ≤ 2000000) :
  FS P gl 77 [.agg [I n, .lst p]] (· = .agg [I n, .lst p]) := by
 refine gS C func77 rfl rfl rfl fun A hA hI => ?_
 iterate 2 all_goals try cbv; with_reducible repeat' first | exact ⟨⟩ | apply And.intro | intro _
 all_goals try exact oG
 refine loopI hA [.cell 2 1 121 3] (ι := Int × List PV) (fun x => [(12, .pv (I x.1))]) (fun x => [(3, .row 121 3 x.2)]) (fun x => (ys.length - x.1).toNat) (fun x => 0 ≤ x.1 ∧ x.1 ≤ ys.length ∧ x.2 = cells3 (ys.take x.1.toNat)) (0, []) (by rfl) ?_ ?_ ?_
 all_goals try exact tG
 ·exact ⟨Int.le_refl _, by omega, rfl⟩
 rintro ⟨i, q⟩ ⟨hi0, hi1, hq⟩
 simp only at hi0 hi1 hq
 iterate 2 all_goals try cbv; with_reducible repeat' first | exact ⟨⟩ | apply And.intro | intro _
 all_goals try exact oG
 ·rename_i g
  have gi : i < ys.length := by exact eG
  have hlt : i.toNat < ys.length := by omega
  have hge1 : i + 1 ≤ ys.length := by omega
  have hgl : A.gl (A.el p (A.nat i)) 1 = intsL (ys.getD i.toNat noY).2.1 := by (subst hA; subst_vars; simp only [AR.std, natCast_eq, sG, reduceCtorEq] at *; try simp (disch := omega) only [AR.std, natCast_eq, sG, reduceCtorEq] at *)
  have hgb : A.gb (A.el p (A.nat i)) 0 = (ys.getD i.toNat noY).1 := by clear hgl; (subst hA; subst_vars; simp only [AR.std, natCast_eq, sG, reduceCtorEq] at *; try simp (disch := omega) only [AR.std, natCast_eq, sG, reduceCtorEq] at *)
  have hge : A.gi (A.el p (A.nat i)) 2 = (ys.getD i.toNat noY).2.2 := by clear hgl hgb; (subst hA; subst_vars; simp only [AR.std, natCast_eq, sG, reduceCtorEq] at *; try simp (disch := omega) only [AR.std, natCast_eq, sG, reduceCtorEq] at *)
  refine ⟨_, dyExact_fs C, ?_⟩
  iterate 2 all_goals try cbv; with_reducible repeat' first | exact ⟨⟩ | apply And.intro | intro _
  all_goals try exact oG
  all_goals try exact okA_of hA (by intro x hx; rw [List.mem_singleton.1 hx]; exact ⟨rfl, rfl⟩)
  clear hgl hgb hge
  obtain ⟨y1, hy1⟩ : ∃ y, y = i + 1 := ⟨_, rfl⟩
  obtain ⟨y2, hy2⟩ : ∃ y, y = q ++ [cell3 (ys.getD i.toNat noY)] := ⟨_, rfl⟩
  refine ⟨⟨(y1, y2), ?_⟩, ?_, ?_⟩
  rotate_left
  ·cbv
   exact nG
  ·exact eG
  ·rw [hy1, hy2]
   refine ⟨by simp only; omega, hge1, ?_⟩
   simp only
   rw [show (i + 1).toNat = i.toNat + 1 by omega, hq, c3take hlt]
 ·rename_i g
  have e : q = p := by
   have gi : ys.length ≤ i := by clear hq; exact eG
   rw [hq, List.take_of_length_le (by omega), hp]
  simp only [e]

def matOk (n : Int) (ys : List Cell3) : Prop := 1 ≤ n ∧ n ≤ 4 ∧ (ys.length : Int) = n * n ∧ allY ys

theorem implMatOk_fs (C : Cx P gl) {ys : List Cell3} {p : List PV} {n : Int} {b : Bool} (hp : p = cells3 ys) (hb : b = true ↔ matOk n ys) (hl : ys.length ≤ 2000000) (hy : ∀ y ∈ ys, y.2.1.length ≤ 2000000) :
  FS P gl 75 [.agg [I n, .lst p]] (· = B b) := by
 obtain ⟨b1, hb1⟩ : ∃ b1, b1 = (decide (1 ≤ n) && decide (n ≤ 4)) := ⟨_, rfl⟩
 obtain ⟨b2, hb2⟩ : ∃ b2, b2 = decide ((ys.length : Int) = n * n) := ⟨_, rfl⟩
 obtain ⟨b3, hb3⟩ := bool_of (allY ys)
 have hbb : b = (b1 && b2 && b3) := by
  rw [Bool.eq_iff_iff, hb, Bool.and_eq_true, Bool.and_eq_true, hb3, hb1, hb2, Bool.and_eq_true, decide_eq_true_eq, decide_eq_true_eq, decide_eq_true_eq, matOk]
  simp only [and_assoc]
 have h1 := fun (P' : Program) (C' : Cx P' gl) => within_fs C' hb1
 have h3 := fun (P' : Program) (C' : Cx P' gl) => areDys_fs C' hp hb3 hl hy
 clear hb hb3
 refine gS C func75 rfl rfl rfl fun A hA hI => ?_
 iterate 2 all_goals try cbv; with_reducible repeat' first | exact ⟨⟩ | apply And.intro | intro _
 all_goals try exact oG
 refine callS hA rfl (h1 P C) ?_; rintro _ rfl
 iterate 2 all_goals try cbv; with_reducible repeat' first | exact ⟨⟩ | apply And.intro | intro _
 all_goals try exact oG
 have e : A.pick b1 (A.eq (A.cast (A.len p)) (A.mul .i64 n n)) false = (b1 && b2) := by
  rw [hb2]
  cases b1 with
  | false => subst hA; rfl
  | true =>
   have h2 := hb1.symm
   rw [Bool.and_eq_true, decide_eq_true_eq, decide_eq_true_eq] at h2
   have hm : n * n ≤ 16 ∧ 0 ≤ n * n := by
    rcases (by omega : n = 1 ∨ n = 2 ∨ n = 3 ∨ n = 4) with rfl | rfl | rfl | rfl <;> decide
   subst hA
   simp only [AR.std]
   rw [wrapi (by omega) (by omega), hp, c3len, Bool.eq_iff_iff]
   simp
 refine ⟨_, fun _ => h3 P C, ?_⟩
 iterate 2 all_goals try cbv; with_reducible repeat' first | exact ⟨⟩ | apply And.intro | intro _
 all_goals try exact oG
 have e2 : A.pick (A.pick b1 (A.eq (A.cast (A.len p)) (A.mul .i64 n n)) false) b3 false = b := by
  rw [e, hbb]
  subst hA
  show (bif b1 && b2 then b3 else false) = _
  cases b1 && b2 <;> rfl
 exact congrArg (fun x => PV.val (.bool x)) e2

theorem gridAt_fs (C : Cx P gl) {ys : List Cell3} {p q : List PV} {n i j : Int} {s : Bool} {l : List Int} {e : Int} (hp : p = cells3 ys) (hi : 0 ≤ i) (hj : 0 ≤ j) (hn : 0 ≤ n) (hn4 : n ≤ 4) (hi4 : i ≤ 4) (hj4 : j ≤ 4) (hk : i * n + j < ys.length) (hg : ys.getD (i * n + j).toNat noY = (s, l, e)) (hq : q = intsL l) :
  FS P gl 82 [.agg [I n, .lst p], I i, I j] (· = .agg [B s, .lst q, I e]) := by
 have hm : 0 ≤ i * n ∧ i * n ≤ 16 := by
  rcases (by omega : n = 0 ∨ n = 1 ∨ n = 2 ∨ n = 3 ∨ n = 4) with rfl | rfl | rfl | rfl | rfl <;> omega
 obtain ⟨k, hk'⟩ : ∃ k, k = i * n + j := ⟨_, rfl⟩
 rw [← hk'] at hk hg
 have hk0 : 0 ≤ k := by omega
 have hlt : k.toNat < ys.length := by omega
 refine gS C func82 rfl rfl rfl fun A hA hI => ?_
 have ek : A.add .i64 (A.mul .i64 i n) j = k := by
  clear hg
  subst hA
  simp only [AR.std]
  rw [wrapi (n := i * n) (by omega) (by omega), ← hk', wrapi (by omega) (by omega)]
 iterate 2 all_goals try cbv; with_reducible repeat' first | exact ⟨⟩ | apply And.intro | intro _
 all_goals try exact oG
 all_goals simp only [ek]
 all_goals clear ek hk'
 have h0 : A.gb (A.el p (A.nat k)) 0 = s := by
  have e2 : A.gb (A.el p (A.nat k)) 0 = (ys.getD k.toNat noY).1 := by clear hg; (subst hA; subst_vars; simp only [AR.std, natCast_eq, sG, reduceCtorEq] at *; try simp (disch := omega) only [AR.std, natCast_eq, sG, reduceCtorEq] at *)
  rw [e2, hg]
 have h1 : A.gl (A.el p (A.nat k)) 1 = q := by
  have e2 : A.gl (A.el p (A.nat k)) 1 = intsL (ys.getD k.toNat noY).2.1 := by clear hg h0; (subst hA; subst_vars; simp only [AR.std, natCast_eq, sG, reduceCtorEq] at *; try simp (disch := omega) only [AR.std, natCast_eq, sG, reduceCtorEq] at *)
  rw [e2, hg, hq]
 have h2 : A.gi (A.el p (A.nat k)) 2 = e := by
  have e2 : A.gi (A.el p (A.nat k)) 2 = (ys.getD k.toNat noY).2.2 := by clear hg h0 h1; (subst hA; subst_vars; simp only [AR.std, natCast_eq, sG, reduceCtorEq] at *; try simp (disch := omega) only [AR.std, natCast_eq, sG, reduceCtorEq] at *)
  rw [e2, hg]
 simp only [h0, h1, h2]

end Tryz
end Go.Proofs

set_option maxHeartbeats 1000000
set_option maxRecDepth 100000
namespace Go.Proofs
open Go Go.Pe Go.Dg
namespace Tryz
set_option linter.unusedSimpArgs false
set_option linter.unusedVariables false
variable {P : Program} {gl : List (Nat × Obj)}

theorem gridOf1_fs (C : Cx P gl) {n : Int} {f : FuncId} {a0 : List PV} {y : Nat → Nat → Cell3} {p : List PV} (hn : 0 ≤ n) (hn4 : n ≤ 100) (hp : p = cells3 (rowsY y n.toNat n.toNat))
  (hat : ∀ (i j : Int) (s : Bool) (l : List Int) (e : Int) (q : List PV), 0 ≤ i → i < n → 0 ≤ j → j < n → y i.toNat j.toNat = (s, l, e) → q = intsL l → ∀ P', Cx P' gl → FS P' gl f [I i, I j, .ptr a0 0] (· = .agg [B s, .lst q, I e])) :
  FS P gl 154 [I n, .fn f [.ptr a0 0]] (· = .agg [I n, .lst p]) := by
 refine gS C func154 rfl rfl rfl fun A hA hI => ?_
 iterate 2 all_goals try cbv; with_reducible repeat' first | exact ⟨⟩ | apply And.intro | intro _
 all_goals try exact oG
 refine loopI hA [.cell 1 1 121 3] (ι := Int × List PV) (fun x => [(11, .pv (I x.1))]) (fun x => [(2, .row 121 3 x.2)]) (fun x => (n - x.1).toNat) (fun x => 0 ≤ x.1 ∧ x.1 ≤ n ∧ x.2 = cells3 (rowsY y n.toNat x.1.toNat)) (0, []) (by rfl) ?_ ?_ ?_
 all_goals try exact tG
 ·exact ⟨Int.le_refl _, hn, rfl⟩
 rintro ⟨i, q⟩ ⟨hi0, hi1, hq⟩
 simp only at hi0 hi1 hq
 iterate 2 all_goals try cbv; with_reducible repeat' first | exact ⟨⟩ | apply And.intro | intro _
 all_goals try exact oG
 ·rename_i g
  have gi : i < n := by clear hq hp hat; exact eG
  have q0 : q = cells3 (rowsY y n.toNat i.toNat ++ rowY y i.toNat 0) := by rw [hq]; simp [rowY]
  have hi2 : i + 1 ≤ n := by omega
  clear g
  refine loopI hA [] (ι := Int × List PV) (fun x => [(15, .pv (I x.1))]) (fun x => [(2, .row 121 3 x.2)]) (fun x => (n - x.1).toNat) (fun x => 0 ≤ x.1 ∧ x.1 ≤ n ∧ x.2 = cells3 (rowsY y n.toNat i.toNat ++ rowY y i.toNat x.1.toNat)) (0, q) (by rfl) ?_ ?_ ?_
  all_goals try exact tG
  ·exact ⟨Int.le_refl _, hn, q0⟩
  rintro ⟨j, r⟩ ⟨hj0, hj1, hr⟩
  simp only at hj0 hj1 hr
  have hrl : r.length ≤ 20200 := by
   rw [hr, cells3_len, List.length_append, rowsY_len, rowY_len]
   have : i.toNat * n.toNat ≤ 100 * 100 := Nat.mul_le_mul (by omega) (by omega)
   omega
  clear q0
  iterate 2 all_goals try cbv; with_reducible repeat' first | exact ⟨⟩ | apply And.intro | intro _
  all_goals try exact oG
  ·rename_i g
   have gj : j < n := by clear hq hp hat hr; exact eG
   obtain ⟨s, hs⟩ : ∃ s, s = (y i.toNat j.toNat).1 := ⟨_, rfl⟩
   obtain ⟨l, hl⟩ : ∃ l, l = (y i.toNat j.toNat).2.1 := ⟨_, rfl⟩
   obtain ⟨e, he⟩ : ∃ e, e = (y i.toNat j.toNat).2.2 := ⟨_, rfl⟩
   obtain ⟨u, hu⟩ : ∃ u, u = intsL l := ⟨_, rfl⟩
   have hy : y i.toNat j.toNat = (s, l, e) := by rw [hs, hl, he]
   have hj2 : j + 1 ≤ n := by omega
   refine ⟨_, hat i j s l e u hi0 gi hj0 gj hy hu P C, ?_⟩
   have hnew : r ++ [.agg [B s, .lst u, I e]] = cells3 (rowsY y n.toNat i.toNat ++ rowY y i.toNat (j + 1).toNat) := by
    rw [show (j + 1).toNat = j.toNat + 1 by omega, rowY_succ, ← List.append_assoc, ← c3app, ← hr, hy, hu]
    rfl
   obtain ⟨r', hr'⟩ : ∃ r', r' = r ++ [.agg [B s, .lst u, I e]] := ⟨_, rfl⟩
   have hra : A.app r [.agg [B s, .lst u, I e]] = r' := by rw [hr']; subst hA; rfl
   rw [← hr'] at hnew
   clear hs hl he hu hy hq hp hat hr hr'
   iterate 2 all_goals try cbv; with_reducible repeat' first | exact ⟨⟩ | apply And.intro | intro _
   all_goals try exact oG
   all_goals try exact okA_of hA (by intro x hx; rw [List.mem_singleton.1 hx]; exact ⟨rfl, rfl⟩)
   all_goals try exact cap_of hA (by simp only [List.length_singleton]; omega)
   simp only [hra]
   clear hra
   obtain ⟨y1, hy1⟩ : ∃ y, y = j + 1 := ⟨_, rfl⟩
   obtain ⟨y2, hy2⟩ : ∃ y, y = r' := ⟨_, rfl⟩
   refine ⟨⟨(y1, y2), ?_⟩, ?_, ?_⟩
   rotate_left
   ·cbv
    exact nG
   ·exact eG
   ·rw [hy1, hy2]
    exact ⟨by simp only; omega, hj2, hnew⟩
  ·rename_i g
   have gj : n ≤ j := by clear hq hp hat hr; exact eG
   have hq' : r = cells3 (rowsY y n.toNat (i + 1).toNat) := by
    rw [hr, show j.toNat = n.toNat by omega, show (i + 1).toNat = i.toNat + 1 by omega, rowsY_succ]
   clear hq hr hp hat
   iterate 2 all_goals try cbv; with_reducible repeat' first | exact ⟨⟩ | apply And.intro | intro _
   all_goals try exact oG
   obtain ⟨y1, hy1⟩ : ∃ y, y = i + 1 := ⟨_, rfl⟩
   obtain ⟨y2, hy2⟩ : ∃ y, y = r := ⟨_, rfl⟩
   refine ⟨⟨(y1, y2), ?_⟩, ?_, ?_⟩
   rotate_left
   ·cbv
    exact nG
   ·exact eG
   ·rw [hy1, hy2]
    exact ⟨by simp only; omega, hi2, hq'⟩
 ·rename_i g
  have gi : n ≤ i := by clear hq hp hat; exact eG
  have e : q = p := by rw [hq, hp, show i.toNat = n.toNat by omega]
  simp only [e]

end Tryz
end Go.Proofs

