/- Contracts: lists of intervals that all are in form. -/
import Derived.Test.YtlkiofkkjbodjaaGreatDoorAN22
import Derived.Test.YtlkiofkkjbodjaaGreatDoorAPeTk
set_option maxHeartbeats 1000000
set_option maxRecDepth 100000
namespace Go.Proofs
open Go Go.Pe Go.Dg
namespace Tryz
set_option linter.unusedSimpArgs false
set_option linter.unusedVariables false
variable {P : Program} {gl : List (Nat × Obj)}

theorem notIv_fs (C : Cx P gl) {l m : List Int} {e f : Int} {p q : List PV} {s t b : Bool} (hp : p = intsL l) (hq : q = intsL m) (hb : b = true ↔ ivOk s l e t m f) (hl : l.length ≤ 2000000) (hm : m.length ≤ 2000000) :
  FS P gl 249 [.agg [B s, .lst p, I e, B t, .lst q, I f], .ptr [.fn 198 []] 0] (· = B (!b)) := by
 obtain ⟨rfl, hG⟩ := C
 refine FS_ofT (args := fun A => [.agg [B s, .lst p, I e, B t, .lst q, I f], .ptr [.fn 198 []] 0]) (R := fun A rr => rr = B (A.bnot b)) Tryz.hT Tryz.mix Tryz.func249 rfl rfl (Nat.le_of_ble_eq_true rfl) ?_
 generalize hP : Tryz.prog = P
 intro A hA
 have C : Tryz.Cx P gl := ⟨hP.symm, hG⟩
 have hI : intsL = A.ints := by subst hA; rfl
 iterate 2 (all_goals try cbv; all_goals with_reducible repeat' first | exact True.intro | refine And.intro ?_ ?_ | intro _)
 all_goals try exact oH
 refine callS hA rfl (implIvOk_fs C hp hq hb hl hm) ?_; rintro _ rfl
 iterate 2 (all_goals try cbv; all_goals with_reducible repeat' first | exact True.intro | refine And.intro ?_ ?_ | intro _)
 all_goals try exact oH

theorem indexIv_fs (C : Cx P gl) {ys : List Cell6} {p : List PV} (hp : p = cells6 ys) (hl : ys.length ≤ 2000000) (hy : ∀ y ∈ ys, y.1.2.1.length ≤ 2000000 ∧ y.2.2.1.length ≤ 2000000) :
  FS P gl 269 [.lst p, .fn 249 [.ptr [.fn 198 []] 0]] (fun r => ∃ c, r = I c ∧ (0 ≤ c ↔ ¬allV ys)) := by
 have hpl : p.length = ys.length := by rw [hp]; simp [cells6]
 have hpe : ∀ q ∈ p, okEl 6 q := by
  intro q hq
  rw [hp] at hq
  obtain ⟨y, _, rfl⟩ := List.mem_map.1 hq
  exact ⟨rfl, rfl⟩
 obtain ⟨rfl, hG⟩ := C
 refine FS_ofT (args := fun A => [.lst p, .fn 249 [.ptr [.fn 198 []] 0]]) (R := fun A rr => ∃ c, rr = I c ∧ (0 ≤ c ↔ ¬allV ys)) Tryz.hT Tryz.mix Tryz.func269 rfl rfl (Nat.le_of_ble_eq_true rfl) ?_
 generalize hP : Tryz.prog = P
 intro A hA
 have C : Tryz.Cx P gl := ⟨hP.symm, hG⟩
 have hI : intsL = A.ints := by subst hA; rfl
 iterate 2 (all_goals try cbv; all_goals with_reducible repeat' first | exact True.intro | refine And.intro ?_ ?_ | intro _)
 all_goals try exact oH
 refine loopI hA [] (ι := Int) (fun x => [(8, .pv (I x))]) (fun x => []) (fun x => (ys.length - x).toNat) (fun x => voksI ys x) 0 (by rfl) ?_ ?_ ?_
 all_goals try exact tH
 ·exact voksI_zero ys
 rintro i hinv
 have hi0 := hinv.1
 have hi1 := hinv.2.1
 have hel : i < ys.length → A.el p (A.nat i) = cell6 (ys.getD i.toNat noV) := by
  intro h; subst hA; rw [hp]; exact cells6_get (show i.toNat < ys.length by omega)
 have hyl : (ys.getD i.toNat noV).1.2.1.length ≤ 2000000 ∧ (ys.getD i.toNat noV).2.2.1.length ≤ 2000000 := by
  rcases Nat.lt_or_ge i.toNat ys.length with h | h
  ·rw [List.getD, List.getElem?_eq_getElem h]; exact hy _ (List.getElem_mem h)
  ·rw [List.getD, List.getElem?_eq_none h]; simp [noV, noY]
 have hlt : A.lt i (A.cast (A.len p)) = true → i < ys.length := by intro h; subst hA; simp [AR.std] at h; omega
 have hge : A.lt i (A.cast (A.len p)) = false → ys.length ≤ i := by intro h; subst hA; simp [AR.std] at h; omega
 generalize hyy : ys.getD i.toNat noV = y at *
 obtain ⟨⟨s, l, e⟩, t, m, f⟩ := y
 obtain ⟨b, hb⟩ := bool_of (ivOk s l e t m f)
 have hnext : i < ys.length → b = true → voksI ys (i + 1) := fun h h1 => voksI_next hinv h (by rw [hyy]; exact hb.1 h1)
 have hexit : ys.length ≤ i → allV ys := fun h => voksI_exit hinv h
 have hnot : i < ys.length → b = false → ¬allV ys := fun h h1 => allV_not (k := i.toNat) (by omega) (by rw [hyy]; intro h2; rw [hb.2 h2] at h1; cases h1)
 obtain ⟨pl, hpl⟩ : ∃ x, x = intsL l := ⟨_, rfl⟩
 obtain ⟨pm, hpm⟩ : ∃ x, x = intsL m := ⟨_, rfl⟩
 have e1 : i < ys.length → A.gb (A.el p (A.nat i)) 0 = s := fun h => by rw [hel h]; subst hA; rfl
 have e2 : i < ys.length → A.gl (A.el p (A.nat i)) 1 = pl := fun h => by rw [hel h, hpl]; subst hA; rfl
 have e3 : i < ys.length → A.gi (A.el p (A.nat i)) 2 = e := fun h => by rw [hel h]; subst hA; rfl
 have e4 : i < ys.length → A.gb (A.el p (A.nat i)) 3 = t := fun h => by rw [hel h]; subst hA; rfl
 have e5 : i < ys.length → A.gl (A.el p (A.nat i)) 4 = pm := fun h => by rw [hel h, hpm]; subst hA; rfl
 have e6 : i < ys.length → A.gi (A.el p (A.nat i)) 5 = f := fun h => by rw [hel h]; subst hA; rfl
 have f3 : i < ys.length → A.peq true 0 6 (A.el p (A.nat i)) (.agg [B (A.gb (A.el p (A.nat i)) 0), .lst (A.gl (A.el p (A.nat i)) 1), I (A.gi (A.el p (A.nat i)) 2), B (A.gb (A.el p (A.nat i)) 3), .lst (A.gl (A.el p (A.nat i)) 4), I (A.gi (A.el p (A.nat i)) 5)]) := fun h => by rw [hel h]; subst hA; rfl
 have f1 : i < ys.length → A.len_eq (A.el p (A.nat i)) 6 := fun h => by rw [hel h]; subst hA; rfl
 have f2 : i < ys.length → A.len_le 6 (A.el p (A.nat i)) := fun h => by rw [hel h]; subst hA; exact Nat.le_refl 6
 have hcall := fun (P' : Program) (C' : Cx P' gl) => notIv_fs C' hpl hpm hb hyl.1 hyl.2
 clear hinv hyy hel hy hb
 iterate 2 (all_goals try cbv; all_goals with_reducible repeat' first | exact True.intro | refine And.intro ?_ ?_ | intro _)
 all_goals try exact oH
 ·exact f3 (hlt (by assumption))
 ·rename_i g
  have hi := hlt g
  simp only [e1 hi, e2 hi, e3 hi, e4 hi, e5 hi, e6 hi]
  refine callS hA rfl (hcall P C) ?_; rintro _ rfl
  iterate 2 (all_goals try cbv; all_goals with_reducible repeat' first | exact True.intro | refine And.intro ?_ ?_ | intro _)
  all_goals try exact oH
  ·rename_i g
   have g : b = false := by cases b <;> first | rfl | exact absurd g (by decide)
   exact ⟨i, rfl, fun _ => hnot hi g, fun _ => hi0⟩
  ·rename_i g
   have g : b = true := by cases b <;> first | rfl | exact absurd g (by decide)
   obtain ⟨y1, hy1⟩ : ∃ y, y = i + 1 := ⟨_, rfl⟩
   refine ⟨⟨y1, ?_⟩, ?_, ?_⟩
   rotate_left
   ·cbv
    exact nH
   ·(subst hA; subst_vars; simp only [AR.std, natCast_eq, sH, reduceCtorEq] at *; try simp (disch := omega) only [AR.std, natCast_eq, sH, reduceCtorEq] at *); omega
   ·rw [hy1]; exact hnext hi g
 ·rename_i g
  exact ⟨-1, rfl, fun h => absurd h (by decide), fun h => absurd (hexit (hge g)) h⟩

theorem containsIv_fs (C : Cx P gl) {ys : List Cell6} {p : List PV} {b : Bool} (hp : p = cells6 ys) (hb : b = true ↔ allV ys) (hl : ys.length ≤ 2000000) (hy : ∀ y ∈ ys, y.1.2.1.length ≤ 2000000 ∧ y.2.2.1.length ≤ 2000000) :
  FS P gl 248 [.lst p, .fn 249 [.ptr [.fn 198 []] 0]] (· = B (!b)) := by
 obtain ⟨rfl, hG⟩ := C
 refine FS_ofT (args := fun A => [.lst p, .fn 249 [.ptr [.fn 198 []] 0]]) (R := fun A rr => rr = B (A.bnot b)) Tryz.hT Tryz.mix Tryz.func248 rfl rfl (Nat.le_of_ble_eq_true rfl) ?_
 generalize hP : Tryz.prog = P
 intro A hA
 have C : Tryz.Cx P gl := ⟨hP.symm, hG⟩
 have hI : intsL = A.ints := by subst hA; rfl
 iterate 2 (all_goals try cbv; all_goals with_reducible repeat' first | exact True.intro | refine And.intro ?_ ?_ | intro _)
 all_goals try exact oH
 refine callS hA rfl (indexIv_fs C hp hl hy) ?_; rintro _ ⟨c, rfl, hc⟩
 iterate 2 (all_goals try cbv; all_goals with_reducible repeat' first | exact True.intro | refine And.intro ?_ ?_ | intro _)
 all_goals try exact oH
 have e : A.le 0 c = A.bnot b := by
  subst hA
  show decide (0 ≤ c) = !b
  rw [Bool.eq_iff_iff, decide_eq_true_eq, hc, ← hb]
  cases b <;> simp
 simp only [e]

theorem allIvs_fs (C : Cx P gl) {ys : List Cell6} {p : List PV} {b : Bool} (hp : p = cells6 ys) (hb : b = true ↔ allV ys) (hl : ys.length ≤ 2000000) (hy : ∀ y ∈ ys, y.1.2.1.length ≤ 2000000 ∧ y.2.2.1.length ≤ 2000000) :
  FS P gl 197 [.lst p, .fn 198 []] (· = B b) := by
 obtain ⟨rfl, hG⟩ := C
 refine FS_ofT (args := fun A => [.lst p, .fn 198 []]) (R := fun A rr => rr = B b) Tryz.hT Tryz.mix Tryz.func197 rfl rfl (Nat.le_of_ble_eq_true rfl) ?_
 generalize hP : Tryz.prog = P
 intro A hA
 have C : Tryz.Cx P gl := ⟨hP.symm, hG⟩
 have hI : intsL = A.ints := by subst hA; rfl
 iterate 2 (all_goals try cbv; all_goals with_reducible repeat' first | exact True.intro | refine And.intro ?_ ?_ | intro _)
 all_goals try exact oH
 refine callS hA rfl (containsIv_fs C hp hb hl hy) ?_; rintro _ rfl
 iterate 2 (all_goals try cbv; all_goals with_reducible repeat' first | exact True.intro | refine And.intro ?_ ?_ | intro _)
 all_goals try exact oH
 subst hA; cases b <;> rfl

theorem areIvs_fs (C : Cx P gl) {ys : List Cell6} {p : List PV} {b : Bool} (hp : p = cells6 ys) (hb : b = true ↔ allV ys) (hl : ys.length ≤ 2000000) (hy : ∀ y ∈ ys, y.1.2.1.length ≤ 2000000 ∧ y.2.2.1.length ≤ 2000000) :
  FS P gl 124 [.lst p] (· = B b) := by
 obtain ⟨rfl, hG⟩ := C
 refine FS_ofT (args := fun A => [.lst p]) (R := fun A rr => rr = B b) Tryz.hT Tryz.mix Tryz.func124 rfl rfl (Nat.le_of_ble_eq_true rfl) ?_
 generalize hP : Tryz.prog = P
 intro A hA
 have C : Tryz.Cx P gl := ⟨hP.symm, hG⟩
 have hI : intsL = A.ints := by subst hA; rfl
 iterate 2 (all_goals try cbv; all_goals with_reducible repeat' first | exact True.intro | refine And.intro ?_ ?_ | intro _)
 all_goals try exact oH
 refine callS hA rfl (allIvs_fs C hp hb hl hy) ?_; rintro _ rfl
 iterate 2 (all_goals try cbv; all_goals with_reducible repeat' first | exact True.intro | refine And.intro ?_ ?_ | intro _)
 all_goals try exact oH

end Tryz
end Go.Proofs
