/- Contracts: lists of dyadic numbers that all are in form. -/
import Derived.Test.YtlkiofkkjbodjaaGreatDoorDN20
import Derived.Test.YtlkiofkkjbodjaaGreatDoorDEvD
set_option maxHeartbeats 1000000
set_option maxRecDepth 100000
namespace Go.Proofs
open Go Go.Pe Go.Dg
namespace Tryz
set_option linter.unusedSimpArgs false
set_option linter.unusedVariables false
variable {P : Program} {gl : List (Nat × Obj)}

theorem notDy_fs (C : Cx P gl) {l : List Int} {e : Int} {p : List PV} {s b : Bool} (hp : p = intsL l) (hb : b = true ↔ dyOk s l e) (hl : l.length ≤ 2000000) :
  FS P gl 216 [.agg [B s, .lst p, I e], .ptr [.fn 150 []] 0] (· = B (!b)) := by
 refine gSa C (args := fun A => [.agg [B s, .lst p, I e], .ptr [.fn 150 []] 0]) (R := fun A rr => rr = B (A.bnot b)) func216 rfl rfl rfl fun A hA hI => ?_
 iterate 2 all_goals try cbv; with_reducible repeat' first | exact ⟨⟩ | apply And.intro | intro _
 all_goals try exact oH
 refine callS hA rfl (implDyOk_fs C hp hb hl) ?_; rintro _ rfl
 iterate 2 all_goals try cbv; with_reducible repeat' first | exact ⟨⟩ | apply And.intro | intro _
 all_goals try exact oH

theorem indexDy_fs (C : Cx P gl) {ys : List Cell3} {p : List PV} (hp : p = cells3 ys) (hl : ys.length ≤ 2000000) (hy : ∀ y ∈ ys, y.2.1.length ≤ 2000000) :
  FS P gl 253 [.lst p, .fn 216 [.ptr [.fn 150 []] 0]] (fun r => ∃ c, r = I c ∧ (0 ≤ c ↔ ¬allY ys)) := by
 have hpl : p.length = ys.length := by rw [hp, cells3_len]
 have hpe : ∀ q ∈ p, okEl 3 q := by
  intro q hq
  rw [hp] at hq
  obtain ⟨y, _, rfl⟩ := List.mem_map.1 hq
  exact ⟨rfl, rfl⟩
 refine gS C func253 rfl rfl rfl fun A hA hI => ?_
 iterate 2 all_goals try cbv; with_reducible repeat' first | exact ⟨⟩ | apply And.intro | intro _
 all_goals try exact oH
 refine loopI hA [] (ι := Int) (fun x => [(8, .pv (I x))]) (fun x => []) (fun x => (ys.length - x).toNat) (fun x => doksI ys x) 0 (by rfl) ?_ ?_ ?_
 all_goals try exact tH
 ·exact doksI_zero ys
 rintro i hinv
 have hi0 := hinv.1
 have hi1 := hinv.2.1
 have hel : i < ys.length → A.el p (A.nat i) = cell3 (ys.getD i.toNat noY) := by
  intro h; subst hA; rw [hp]; exact cells3_get (show i.toNat < ys.length by omega)
 have hyl : (ys.getD i.toNat noY).2.1.length ≤ 2000000 := by
  rcases Nat.lt_or_ge i.toNat ys.length with h | h
  ·rw [List.getD, List.getElem?_eq_getElem h]; exact hy _ (List.getElem_mem h)
  ·rw [List.getD, List.getElem?_eq_none h]; simp [noY]
 have hok : i < ys.length → okEl 3 (A.el p (A.nat i)) := by intro h; rw [hel h]; exact ⟨rfl, rfl⟩
 have hlt : A.lt i (A.cast (A.len p)) = true → i < ys.length := by intro h; subst hA; simp [AR.std] at h; omega
 have hge : A.lt i (A.cast (A.len p)) = false → ys.length ≤ i := by intro h; subst hA; simp [AR.std] at h; omega
 generalize hyy : ys.getD i.toNat noY = y at *
 obtain ⟨s, l, e⟩ := y
 obtain ⟨b, hb⟩ := bool_of (dyOk s l e)
 have hnext : i < ys.length → b = true → doksI ys (i + 1) := fun h h1 => doksI_next hinv h (by rw [hyy]; exact hb.1 h1)
 have hexit : ys.length ≤ i → allY ys := fun h => doksI_exit hinv h
 have hnot : i < ys.length → b = false → ¬allY ys := fun h h1 => allY_not (k := i.toNat) (by omega) (by rw [hyy]; intro h2; rw [hb.2 h2] at h1; cases h1)
 obtain ⟨pl, hpl⟩ : ∃ x, x = intsL l := ⟨_, rfl⟩
 have e1 : i < ys.length → A.gb (A.el p (A.nat i)) 0 = s := fun h => by rw [hel h]; subst hA; rfl
 have e2 : i < ys.length → A.gl (A.el p (A.nat i)) 1 = pl := fun h => by rw [hel h, hpl]; subst hA; rfl
 have e3 : i < ys.length → A.gi (A.el p (A.nat i)) 2 = e := fun h => by rw [hel h]; subst hA; rfl
 have f1 : i < ys.length → A.len_eq (A.el p (A.nat i)) 3 := fun h => by rw [hel h]; subst hA; rfl
 have f2 : i < ys.length → A.len_le 3 (A.el p (A.nat i)) := fun h => by rw [hel h]; subst hA; exact Nat.le_refl 3
 have f3 : i < ys.length → A.peq true 0 3 (A.el p (A.nat i)) (.agg [B (A.gb (A.el p (A.nat i)) 0), .lst (A.gl (A.el p (A.nat i)) 1), I (A.gi (A.el p (A.nat i)) 2)]) := fun h => by rw [hel h]; subst hA; rfl
 clear hinv hyy hel hy
 iterate 2 all_goals try cbv; with_reducible repeat' first | exact ⟨⟩ | apply And.intro | intro _
 all_goals try exact oH
 ·exact f3 (hlt (by assumption))
 ·rename_i g
  have hi := hlt g
  simp only [e1 hi, e2 hi, e3 hi]
  refine callS hA rfl (notDy_fs C hpl hb hyl) ?_; rintro _ rfl
  iterate 2 all_goals try cbv; with_reducible repeat' first | exact ⟨⟩ | apply And.intro | intro _
  all_goals try exact oH
  ·rename_i g
   have g : b = false := by cases b <;> first | rfl | exact absurd g (by decide)
   exact ⟨i, rfl, fun _ => hnot hi g, fun _ => hi0⟩
  ·rename_i g
   have g : b = true := by cases b <;> first | rfl | exact absurd g (by decide)
   obtain ⟨y1, hy1⟩ : ∃ y, y = i + 1 := ⟨_, rfl⟩
   refine ⟨⟨y1, ?_⟩, ?_, ?_⟩
   rotate_left
   ·cbv
    exact nH
   ·exact eH
   ·rw [hy1]; exact hnext hi g
 ·rename_i g
  exact ⟨-1, rfl, fun h => absurd h (by decide), fun h => absurd (hexit (hge g)) h⟩

theorem containsDy_fs (C : Cx P gl) {ys : List Cell3} {p : List PV} {b : Bool} (hp : p = cells3 ys) (hb : b = true ↔ allY ys) (hl : ys.length ≤ 2000000) (hy : ∀ y ∈ ys, y.2.1.length ≤ 2000000) :
  FS P gl 215 [.lst p, .fn 216 [.ptr [.fn 150 []] 0]] (· = B (!b)) := by
 refine gSa C (args := fun A => [.lst p, .fn 216 [.ptr [.fn 150 []] 0]]) (R := fun A rr => rr = B (A.bnot b)) func215 rfl rfl rfl fun A hA hI => ?_
 iterate 2 all_goals try cbv; with_reducible repeat' first | exact ⟨⟩ | apply And.intro | intro _
 all_goals try exact oH
 refine callS hA rfl (indexDy_fs C hp hl hy) ?_; rintro _ ⟨c, rfl, hc⟩
 iterate 2 all_goals try cbv; with_reducible repeat' first | exact ⟨⟩ | apply And.intro | intro _
 all_goals try exact oH
 have e : A.le 0 c = A.bnot b := by
  subst hA
  show decide (0 ≤ c) = !b
  rw [Bool.eq_iff_iff, decide_eq_true_eq, hc, ← hb]
  cases b <;> simp
 simp only [e]

theorem allDys_fs (C : Cx P gl) {ys : List Cell3} {p : List PV} {b : Bool} (hp : p = cells3 ys) (hb : b = true ↔ allY ys) (hl : ys.length ≤ 2000000) (hy : ∀ y ∈ ys, y.2.1.length ≤ 2000000) :
  FS P gl 149 [.lst p, .fn 150 []] (· = B b) := by
 refine gS C func149 rfl rfl rfl fun A hA hI => ?_
 iterate 2 all_goals try cbv; with_reducible repeat' first | exact ⟨⟩ | apply And.intro | intro _
 all_goals try exact oH
 refine callS hA rfl (containsDy_fs C hp hb hl hy) ?_; rintro _ rfl
 iterate 2 all_goals try cbv; with_reducible repeat' first | exact ⟨⟩ | apply And.intro | intro _
 all_goals try exact oH
 subst hA; cases b <;> rfl

theorem areDys_fs (C : Cx P gl) {ys : List Cell3} {p : List PV} {b : Bool} (hp : p = cells3 ys) (hb : b = true ↔ allY ys) (hl : ys.length ≤ 2000000) (hy : ∀ y ∈ ys, y.2.1.length ≤ 2000000) :
  FS P gl 76 [.lst p] (· = B b) := by
 refine gS C func76 rfl rfl rfl fun A hA hI => ?_
 iterate 2 all_goals try cbv; with_reducible repeat' first | exact ⟨⟩ | apply And.intro | intro _
 all_goals try exact oH
 refine callS hA rfl (allDys_fs C hp hb hl hy) ?_; rintro _ rfl
 iterate 2 all_goals try cbv; with_reducible repeat' first | exact ⟨⟩ | apply And.intro | intro _
 all_goals try exact oH

end Tryz
end Go.Proofs
