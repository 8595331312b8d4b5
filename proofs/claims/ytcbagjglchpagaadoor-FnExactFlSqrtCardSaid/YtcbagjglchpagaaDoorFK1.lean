/- Contracts: floats: lists of floats that all are in form, kinds. -/
import Derived.Test.YtcbagjglchpagaaDoorFN35
import Derived.Test.YtcbagjglchpagaaDoorFN30
import Derived.Test.YtcbagjglchpagaaDoorFPeTq
namespace Go.Proofs
open Go Go.Pe Go.Dg
namespace Tryd
set_option linter.unusedSimpArgs false
set_option linter.unusedVariables false
variable {P : Program} {gl : List (Nat × Obj)}

theorem pick_and {x y : Bool} : AR.std.pick x y false = (x && y) := by cases x <;> rfl
theorem pick_or {x y : Bool} : AR.std.pick x true y = (x || y) := by cases x <;> rfl
theorem eq_dec {x y : Int} : AR.std.eq x y = decide (x = y) := by show (x == y) = _; by_cases h : x = y <;> simp [h]
theorem bnot_not {x : Bool} : AR.std.bnot x = !x := by cases x <;> rfl
theorem lt_dec {x y : Int} : AR.std.lt x y = decide (x < y) := rfl
theorem le_dec {x y : Int} : AR.std.le x y = decide (x ≤ y) := rfl

set_option maxHeartbeats 1000000 in
set_option maxRecDepth 100000 in
theorem implFlOk_fs (C : Cx P gl) {k m e : Int} {s b : Bool} (hb : b = true ↔ flOk k s m e) : FS P gl 82 [.agg [I k, B s, I m, I e]] (· = B b) := by
  obtain ⟨b1, hb1⟩ : ∃ b, b = (decide (-1074 ≤ e) && decide (e ≤ 971)) := ⟨_, rfl⟩
  obtain ⟨b2, hb2⟩ : ∃ b, b = (decide (4503599627370496 ≤ m) && decide (m ≤ 9007199254740991)) := ⟨_, rfl⟩
  obtain ⟨b3, hb3⟩ : ∃ b, b = (decide (1 ≤ m) && decide (m ≤ 4503599627370495)) := ⟨_, rfl⟩
  have h1 := fun (P' : Program) (C' : Cx P' gl) => within_fs C' hb1
  have h2 := fun (P' : Program) (C' : Cx P' gl) => within_fs C' hb2
  have h3 := fun (P' : Program) (C' : Cx P' gl) => within_fs C' hb3
  obtain ⟨rfl, hG⟩ := C
  refine FS_ofT (args := fun A => [.agg [I k, B s, I m, I e]]) (R := fun A rr => rr = B b) Tryd.hT Tryd.mix Tryd.func82 rfl rfl (Nat.le_of_ble_eq_true rfl) ?_
  generalize hP : Tryd.prog = P
  intro A hA
  have C : Tryd.Cx P gl := ⟨hP.symm, hG⟩
  have hI : intsL = A.ints := by subst hA; rfl
  iterate 2 (all_goals try cbv; all_goals repeat' (first | with_reducible exact True.intro | with_reducible refine And.intro ?_ ?_ | intro _))
  all_goals try exact oH
  refine callS hA rfl (h1 P C) ?_; rintro _ rfl
  iterate 2 (all_goals try cbv; all_goals repeat' (first | with_reducible exact True.intro | with_reducible refine And.intro ?_ ?_ | intro _))
  all_goals try exact oH
  refine ⟨_, fun _ => h2 P C, ?_⟩
  iterate 2 (all_goals try cbv; all_goals repeat' (first | with_reducible exact True.intro | with_reducible refine And.intro ?_ ?_ | intro _))
  all_goals try exact oH
  refine ⟨_, fun _ => h3 P C, ?_⟩
  iterate 2 (all_goals try cbv; all_goals repeat' (first | with_reducible exact True.intro | with_reducible refine And.intro ?_ ?_ | intro _))
  all_goals try exact oH
  iterate 2 (all_goals try cbv; all_goals repeat' (first | with_reducible exact True.intro | with_reducible refine And.intro ?_ ?_ | intro _))
  all_goals try exact oH
  iterate 2 (all_goals try cbv; all_goals repeat' (first | with_reducible exact True.intro | with_reducible refine And.intro ?_ ?_ | intro _))
  all_goals try exact oH
  iterate 2 (all_goals try cbv; all_goals repeat' (first | with_reducible exact True.intro | with_reducible refine And.intro ?_ ?_ | intro _))
  all_goals try exact oH
  all_goals (
    refine congrArg (fun x => PV.val (.bool x)) ?_
    clear h1 h2 h3
    clear hI
    subst hA
    simp only [pick_and, pick_or, eq_dec, bnot_not, lt_dec, le_dec, decide_eq_true_eq, decide_eq_false_iff_not, Bool.and_eq_true, Bool.or_eq_true, Bool.and_eq_false_iff, Bool.or_eq_false_iff] at *
    rw [Bool.eq_iff_iff, hb]
    unfold flOk
    cases s <;> simp only [Bool.and_eq_true, Bool.or_eq_true, decide_eq_true_eq, Bool.not_true, Bool.not_false, and_true, and_false, or_false, Bool.false_eq_true, Bool.true_eq_false, eq_self, reduceCtorEq, false_and, true_and, false_iff, true_iff, iff_false, iff_true, hb1, hb2, hb3] <;> omega)

set_option maxHeartbeats 1000000 in
set_option maxRecDepth 100000 in
theorem specFlOk_fs (C : Cx P gl) {k m e : Int} {s b : Bool} (hb : b = true ↔ flOk k s m e) : FS P gl 28 [.agg [I k, B s, I m, I e]] (· = B b) := by
  obtain ⟨rfl, hG⟩ := C
  refine FS_ofT (args := fun A => [.agg [I k, B s, I m, I e]]) (R := fun A rr => rr = B b) Tryd.hT Tryd.mix Tryd.func28 rfl rfl (Nat.le_of_ble_eq_true rfl) ?_
  generalize hP : Tryd.prog = P
  intro A hA
  have C : Tryd.Cx P gl := ⟨hP.symm, hG⟩
  have hI : intsL = A.ints := by subst hA; rfl
  iterate 2 (all_goals try cbv; all_goals repeat' (first | with_reducible exact True.intro | with_reducible refine And.intro ?_ ?_ | intro _))
  all_goals try exact oH
  iterate 2 (all_goals try cbv; all_goals repeat' (first | with_reducible exact True.intro | with_reducible refine And.intro ?_ ?_ | intro _))
  all_goals try exact oH
  iterate 2 (all_goals try cbv; all_goals repeat' (first | with_reducible exact True.intro | with_reducible refine And.intro ?_ ?_ | intro _))
  all_goals try exact oH
  iterate 2 (all_goals try cbv; all_goals repeat' (first | with_reducible exact True.intro | with_reducible refine And.intro ?_ ?_ | intro _))
  all_goals try exact oH
  all_goals (
    refine congrArg (fun x => PV.val (.bool x)) ?_
    clear hI
    subst hA
    simp only [pick_and, pick_or, eq_dec, bnot_not, lt_dec, le_dec, decide_eq_true_eq, decide_eq_false_iff_not, Bool.and_eq_true, Bool.or_eq_true, Bool.and_eq_false_iff, Bool.or_eq_false_iff] at *
    rw [Bool.eq_iff_iff, hb]
    unfold flOk
    cases s <;> simp only [Bool.and_eq_true, Bool.or_eq_true, decide_eq_true_eq, Bool.not_true, Bool.not_false, and_true, and_false, or_false, Bool.false_eq_true, Bool.true_eq_false, eq_self, reduceCtorEq, false_and, true_and, false_iff, true_iff, iff_false, iff_true, and_self] <;> omega)

end Tryd
end Go.Proofs

namespace Go.Proofs
open Go Go.Pe Go.Dg
namespace Tryd
set_option linter.unusedSimpArgs false
set_option linter.unusedVariables false
variable {P : Program} {gl : List (Nat × Obj)}

set_option maxHeartbeats 1000000 in
set_option maxRecDepth 100000 in
theorem notFl_fs (C : Cx P gl) {k m e : Int} {s b : Bool} (hb : b = true ↔ flOk k s m e) :
    FS P gl 128 [.agg [I k, B s, I m, I e], .ptr [.fn 82 []] 0] (· = B (!b)) := by
  obtain ⟨rfl, hG⟩ := C
  refine FS_ofT (args := fun A => [.agg [I k, B s, I m, I e], .ptr [.fn 82 []] 0]) (R := fun A rr => rr = B (A.bnot b)) Tryd.hT Tryd.mix Tryd.func128 rfl rfl (Nat.le_of_ble_eq_true rfl) ?_
  generalize hP : Tryd.prog = P
  intro A hA
  have C : Tryd.Cx P gl := ⟨hP.symm, hG⟩
  have hI : intsL = A.ints := by subst hA; rfl
  iterate 2 (all_goals try cbv; all_goals repeat' (first | with_reducible exact True.intro | with_reducible refine And.intro ?_ ?_ | intro _))
  all_goals try exact oH
  refine callS hA rfl (implFlOk_fs C hb) ?_; rintro _ rfl
  iterate 2 (all_goals try cbv; all_goals repeat' (first | with_reducible exact True.intro | with_reducible refine And.intro ?_ ?_ | intro _))
  all_goals try exact oH

set_option maxHeartbeats 1000000 in
set_option maxRecDepth 100000 in
theorem indexFl_fs (C : Cx P gl) {ys : List CellF} {p : List PV} (hp : p = cellsF ys) (hl : ys.length ≤ 2000000) :
    FS P gl 162 [.lst p, .fn 128 [.ptr [.fn 82 []] 0]] (fun r => ∃ c, r = I c ∧ (0 ≤ c ↔ ¬allF ys)) := by
  have hpl : p.length = ys.length := by rw [hp, cellsF_len]
  have hpe : ∀ q ∈ p, okEl 4 q := by
    intro q hq
    rw [hp] at hq
    obtain ⟨y, _, rfl⟩ := List.mem_map.1 hq
    exact ⟨rfl, rfl⟩
  obtain ⟨rfl, hG⟩ := C
  refine FS_ofT (args := fun A => [.lst p, .fn 128 [.ptr [.fn 82 []] 0]]) (R := fun A rr => ∃ c, rr = I c ∧ (0 ≤ c ↔ ¬allF ys)) Tryd.hT Tryd.mix Tryd.func162 rfl rfl (Nat.le_of_ble_eq_true rfl) ?_
  generalize hP : Tryd.prog = P
  intro A hA
  have C : Tryd.Cx P gl := ⟨hP.symm, hG⟩
  have hI : intsL = A.ints := by subst hA; rfl
  iterate 2 (all_goals try cbv; all_goals repeat' (first | with_reducible exact True.intro | with_reducible refine And.intro ?_ ?_ | intro _))
  all_goals try exact oH
  refine loopI hA [] (ι := Int) (fun x => [(8, .pv (I x))]) (fun x => []) (fun x => (ys.length - x).toNat) (fun x => foksI ys x) 0 (by rfl) ?_ ?_ ?_
  all_goals try exact tH
  · exact foksI_zero ys
  rintro i hinv
  have hi0 := hinv.1
  have hi1 := hinv.2.1
  have hel : i < ys.length → A.el p (A.nat i) = cellF (ys.getD i.toNat noF) := by
    intro h; subst hA; rw [hp]; exact cellsF_get (show i.toNat < ys.length by omega)
  have hok : i < ys.length → okEl 4 (A.el p (A.nat i)) := by intro h; rw [hel h]; exact ⟨rfl, rfl⟩
  have hlt : A.lt i (A.cast (A.len p)) = true → i < ys.length := by intro h; subst hA; simp [AR.std] at h; omega
  have hge : A.lt i (A.cast (A.len p)) = false → ys.length ≤ i := by intro h; subst hA; simp [AR.std] at h; omega
  generalize hyy : ys.getD i.toNat noF = y at *
  obtain ⟨k, s, m, e⟩ := y
  obtain ⟨b, hb⟩ := bool_of (flOk k s m e)
  have hnext : i < ys.length → b = true → foksI ys (i + 1) := fun h h1 => foksI_next hinv h (by rw [hyy]; exact hb.1 h1)
  have hexit : ys.length ≤ i → allF ys := fun h => foksI_exit hinv h
  have hnot : i < ys.length → b = false → ¬allF ys := fun h h1 => allF_not (k := i.toNat) (by omega) (by rw [hyy]; intro h2; rw [hb.2 h2] at h1; cases h1)
  have e0 : i < ys.length → A.gi (A.el p (A.nat i)) 0 = k := fun h => by rw [hel h]; subst hA; rfl
  have e1 : i < ys.length → A.gb (A.el p (A.nat i)) 1 = s := fun h => by rw [hel h]; subst hA; rfl
  have e2 : i < ys.length → A.gi (A.el p (A.nat i)) 2 = m := fun h => by rw [hel h]; subst hA; rfl
  have e3 : i < ys.length → A.gi (A.el p (A.nat i)) 3 = e := fun h => by rw [hel h]; subst hA; rfl
  have f1 : i < ys.length → A.len_eq (A.el p (A.nat i)) 4 := fun h => by rw [hel h]; subst hA; rfl
  have f2 : i < ys.length → A.len_le 4 (A.el p (A.nat i)) := fun h => by rw [hel h]; subst hA; exact Nat.le_refl 4
  have f3 : i < ys.length → A.peq true 0 4 (A.el p (A.nat i)) (.agg [I (A.gi (A.el p (A.nat i)) 0), B (A.gb (A.el p (A.nat i)) 1), I (A.gi (A.el p (A.nat i)) 2), I (A.gi (A.el p (A.nat i)) 3)]) := fun h => by rw [hel h]; subst hA; rfl
  clear hinv hyy hel
  iterate 2 (all_goals try cbv; all_goals repeat' (first | with_reducible exact True.intro | with_reducible refine And.intro ?_ ?_ | intro _))
  all_goals try exact oH
  · exact f3 (hlt (by assumption))
  · rename_i g
    have hi := hlt g
    simp only [e0 hi, e1 hi, e2 hi, e3 hi]
    refine callS hA rfl (notFl_fs C hb) ?_; rintro _ rfl
    iterate 2 (all_goals try cbv; all_goals repeat' (first | with_reducible exact True.intro | with_reducible refine And.intro ?_ ?_ | intro _))
    all_goals try exact oH
    · rename_i g
      have g : b = false := by cases b <;> first | rfl | exact absurd g (by decide)
      exact ⟨i, rfl, fun _ => hnot hi g, fun _ => hi0⟩
    · rename_i g
      have g : b = true := by cases b <;> first | rfl | exact absurd g (by decide)
      obtain ⟨y1, hy1⟩ : ∃ y, y = i + 1 := ⟨_, rfl⟩
      refine ⟨⟨y1, ?_⟩, ?_, ?_⟩
      rotate_left
      · cbv
        exact nH
      · (subst hA; subst_vars; simp only [AR.std, natCast_eq, sH, reduceCtorEq] at *; try simp (disch := omega) only [AR.std, natCast_eq, sH, reduceCtorEq] at *); omega
      · rw [hy1]; exact hnext hi g
  · rename_i g
    exact ⟨-1, rfl, fun h => absurd h (by decide), fun h => absurd (hexit (hge g)) h⟩

set_option maxHeartbeats 1000000 in
set_option maxRecDepth 100000 in
theorem containsFl_fs (C : Cx P gl) {ys : List CellF} {p : List PV} {b : Bool} (hp : p = cellsF ys) (hb : b = true ↔ allF ys) (hl : ys.length ≤ 2000000) :
    FS P gl 127 [.lst p, .fn 128 [.ptr [.fn 82 []] 0]] (· = B (!b)) := by
  obtain ⟨rfl, hG⟩ := C
  refine FS_ofT (args := fun A => [.lst p, .fn 128 [.ptr [.fn 82 []] 0]]) (R := fun A rr => rr = B (A.bnot b)) Tryd.hT Tryd.mix Tryd.func127 rfl rfl (Nat.le_of_ble_eq_true rfl) ?_
  generalize hP : Tryd.prog = P
  intro A hA
  have C : Tryd.Cx P gl := ⟨hP.symm, hG⟩
  have hI : intsL = A.ints := by subst hA; rfl
  iterate 2 (all_goals try cbv; all_goals repeat' (first | with_reducible exact True.intro | with_reducible refine And.intro ?_ ?_ | intro _))
  all_goals try exact oH
  refine callS hA rfl (indexFl_fs C hp hl) ?_; rintro _ ⟨c, rfl, hc⟩
  iterate 2 (all_goals try cbv; all_goals repeat' (first | with_reducible exact True.intro | with_reducible refine And.intro ?_ ?_ | intro _))
  all_goals try exact oH
  have e : A.le 0 c = A.bnot b := by
    subst hA
    show decide (0 ≤ c) = !b
    rw [Bool.eq_iff_iff, decide_eq_true_eq, hc, ← hb]
    cases b <;> simp
  simp only [e]

set_option maxHeartbeats 1000000 in
set_option maxRecDepth 100000 in
theorem allFls_fs (C : Cx P gl) {ys : List CellF} {p : List PV} {b : Bool} (hp : p = cellsF ys) (hb : b = true ↔ allF ys) (hl : ys.length ≤ 2000000) :
    FS P gl 81 [.lst p, .fn 82 []] (· = B b) := by
  obtain ⟨rfl, hG⟩ := C
  refine FS_ofT (args := fun A => [.lst p, .fn 82 []]) (R := fun A rr => rr = B b) Tryd.hT Tryd.mix Tryd.func81 rfl rfl (Nat.le_of_ble_eq_true rfl) ?_
  generalize hP : Tryd.prog = P
  intro A hA
  have C : Tryd.Cx P gl := ⟨hP.symm, hG⟩
  have hI : intsL = A.ints := by subst hA; rfl
  iterate 2 (all_goals try cbv; all_goals repeat' (first | with_reducible exact True.intro | with_reducible refine And.intro ?_ ?_ | intro _))
  all_goals try exact oH
  refine callS hA rfl (containsFl_fs C hp hb hl) ?_; rintro _ rfl
  iterate 2 (all_goals try cbv; all_goals repeat' (first | with_reducible exact True.intro | with_reducible refine And.intro ?_ ?_ | intro _))
  all_goals try exact oH
  subst hA; cases b <;> rfl

set_option maxHeartbeats 1000000 in
set_option maxRecDepth 100000 in
theorem areFloats_fs (C : Cx P gl) {ys : List CellF} {p : List PV} {b : Bool} {n : Int} (hp : p = cellsF ys) (hb : b = true ↔ (0 ≤ n ∧ n ≤ 4) ∧ allF ys) (hl : ys.length ≤ 2000000) :
    FS P gl 35 [I n, .lst p] (· = B b) := by
  obtain ⟨b1, hb1⟩ : ∃ b, b = (decide (0 ≤ n) && decide (n ≤ 4)) := ⟨_, rfl⟩
  obtain ⟨b2, hb2⟩ := bool_of (allF ys)
  have hbb : b = (b1 && b2) := by rw [Bool.eq_iff_iff, hb, Bool.and_eq_true, hb2, hb1, Bool.and_eq_true, decide_eq_true_eq, decide_eq_true_eq]
  have h1 := fun (P' : Program) (C' : Cx P' gl) => isMode_fs C' hb1
  have h2 := fun (P' : Program) (C' : Cx P' gl) => allFls_fs C' hp hb2 hl
  obtain ⟨rfl, hG⟩ := C
  refine FS_ofT (args := fun A => [I n, .lst p]) (R := fun A rr => rr = B b) Tryd.hT Tryd.mix Tryd.func35 rfl rfl (Nat.le_of_ble_eq_true rfl) ?_
  generalize hP : Tryd.prog = P
  intro A hA
  have C : Tryd.Cx P gl := ⟨hP.symm, hG⟩
  have hI : intsL = A.ints := by subst hA; rfl
  iterate 2 (all_goals try cbv; all_goals repeat' (first | with_reducible exact True.intro | with_reducible refine And.intro ?_ ?_ | intro _))
  all_goals try exact oH
  refine callS hA rfl (h1 P C) ?_; rintro _ rfl
  iterate 2 (all_goals try cbv; all_goals repeat' (first | with_reducible exact True.intro | with_reducible refine And.intro ?_ ?_ | intro _))
  all_goals try exact oH
  refine ⟨_, fun _ => h2 P C, ?_⟩
  iterate 2 (all_goals try cbv; all_goals repeat' (first | with_reducible exact True.intro | with_reducible refine And.intro ?_ ?_ | intro _))
  all_goals try exact oH
  have e2 : A.pick b1 b2 false = b := by
    rw [hbb]
    subst hA
    show (bif b1 then b2 else false) = _
    cases b1 <;> rfl
  exact congrArg (fun x => PV.val (.bool x)) e2

set_option maxHeartbeats 1000000 in
set_option maxRecDepth 100000 in
theorem hasKind_fs (C : Cx P gl) {k0 k1 m1 e1 k2 m2 e2 : Int} {s1 s2 b : Bool} (hb : b = (decide (k1 = k0) || decide (k2 = k0))) : FS P gl 45 [I k0, .agg [I k1, B s1, I m1, I e1], .agg [I k2, B s2, I m2, I e2]] (· = B b) := by
  obtain ⟨rfl, hG⟩ := C
  refine FS_ofT (args := fun A => [I k0, .agg [I k1, B s1, I m1, I e1], .agg [I k2, B s2, I m2, I e2]]) (R := fun A rr => rr = B b) Tryd.hT Tryd.mix Tryd.func45 rfl rfl (Nat.le_of_ble_eq_true rfl) ?_
  generalize hP : Tryd.prog = P
  intro A hA
  have C : Tryd.Cx P gl := ⟨hP.symm, hG⟩
  have hI : intsL = A.ints := by subst hA; rfl
  iterate 2 (all_goals try cbv; all_goals repeat' (first | with_reducible exact True.intro | with_reducible refine And.intro ?_ ?_ | intro _))
  all_goals try exact oH
  rw [hb]
  subst hA
  show PV.val (.bool (bif k1 == k0 then true else k2 == k0)) = _
  by_cases h : k1 = k0 <;> by_cases h2 : k2 = k0 <;> simp [h, h2]

set_option maxHeartbeats 1000000 in
set_option maxRecDepth 100000 in
theorem nan_fs (C : Cx P gl) : FS P gl 36 [] (· = .agg [I 3, B false, I 0, I 0]) := by
  obtain ⟨rfl, hG⟩ := C
  refine FS_ofT (args := fun A => []) (R := fun A rr => rr = .agg [I 3, B false, I 0, I 0]) Tryd.hT Tryd.mix Tryd.func36 rfl rfl (Nat.le_of_ble_eq_true rfl) ?_
  generalize hP : Tryd.prog = P
  intro A hA
  have C : Tryd.Cx P gl := ⟨hP.symm, hG⟩
  have hI : intsL = A.ints := by subst hA; rfl
  iterate 2 (all_goals try cbv; all_goals repeat' (first | with_reducible exact True.intro | with_reducible refine And.intro ?_ ?_ | intro _))
  all_goals try exact oH

set_option maxHeartbeats 1000000 in
set_option maxRecDepth 100000 in
theorem zero_fs (C : Cx P gl) {s : Bool} : FS P gl 47 [B s] (· = .agg [I 0, B s, I 0, I 0]) := by
  obtain ⟨rfl, hG⟩ := C
  refine FS_ofT (args := fun A => [B s]) (R := fun A rr => rr = .agg [I 0, B s, I 0, I 0]) Tryd.hT Tryd.mix Tryd.func47 rfl rfl (Nat.le_of_ble_eq_true rfl) ?_
  generalize hP : Tryd.prog = P
  intro A hA
  have C : Tryd.Cx P gl := ⟨hP.symm, hG⟩
  have hI : intsL = A.ints := by subst hA; rfl
  iterate 2 (all_goals try cbv; all_goals repeat' (first | with_reducible exact True.intro | with_reducible refine And.intro ?_ ?_ | intro _))
  all_goals try exact oH

set_option maxHeartbeats 1000000 in
set_option maxRecDepth 100000 in
theorem infinity_fs (C : Cx P gl) {s : Bool} : FS P gl 46 [B s] (· = .agg [I 2, B s, I 0, I 0]) := by
  obtain ⟨rfl, hG⟩ := C
  refine FS_ofT (args := fun A => [B s]) (R := fun A rr => rr = .agg [I 2, B s, I 0, I 0]) Tryd.hT Tryd.mix Tryd.func46 rfl rfl (Nat.le_of_ble_eq_true rfl) ?_
  generalize hP : Tryd.prog = P
  intro A hA
  have C : Tryd.Cx P gl := ⟨hP.symm, hG⟩
  have hI : intsL = A.ints := by subst hA; rfl
  iterate 2 (all_goals try cbv; all_goals repeat' (first | with_reducible exact True.intro | with_reducible refine And.intro ?_ ?_ | intro _))
  all_goals try exact oH

set_option maxHeartbeats 1000000 in
set_option maxRecDepth 100000 in
theorem l5nan_fs (C : Cx P gl) : FS P gl 43 [] (· = .agg [I 3, B false, I 0, I 0]) := by
  obtain ⟨rfl, hG⟩ := C
  refine FS_ofT (args := fun A => []) (R := fun A rr => rr = .agg [I 3, B false, I 0, I 0]) Tryd.hT Tryd.mix Tryd.func43 rfl rfl (Nat.le_of_ble_eq_true rfl) ?_
  generalize hP : Tryd.prog = P
  intro A hA
  have C : Tryd.Cx P gl := ⟨hP.symm, hG⟩
  have hI : intsL = A.ints := by subst hA; rfl
  iterate 2 (all_goals try cbv; all_goals repeat' (first | with_reducible exact True.intro | with_reducible refine And.intro ?_ ?_ | intro _))
  all_goals try exact oH

set_option maxHeartbeats 1000000 in
set_option maxRecDepth 100000 in
theorem l5bad_fs (C : Cx P gl) : FS P gl 30 [] (· = .tup [.agg [I 3, B false, I 0, I 0], I 16]) := by
  obtain ⟨rfl, hG⟩ := C
  refine FS_ofT (args := fun A => []) (R := fun A rr => rr = .tup [.agg [I 3, B false, I 0, I 0], I 16]) Tryd.hT Tryd.mix Tryd.func30 rfl rfl (Nat.le_of_ble_eq_true rfl) ?_
  generalize hP : Tryd.prog = P
  intro A hA
  have C : Tryd.Cx P gl := ⟨hP.symm, hG⟩
  have hI : intsL = A.ints := by subst hA; rfl
  iterate 2 (all_goals try cbv; all_goals repeat' (first | with_reducible exact True.intro | with_reducible refine And.intro ?_ ?_ | intro _))
  all_goals try exact oH
  refine callS hA rfl (l5nan_fs C) ?_; rintro _ rfl
  iterate 2 (all_goals try cbv; all_goals repeat' (first | with_reducible exact True.intro | with_reducible refine And.intro ?_ ?_ | intro _))
  all_goals try exact oH

set_option maxHeartbeats 1000000 in
set_option maxRecDepth 100000 in
theorem l5most_fs (C : Cx P gl) {s : Bool} : FS P gl 72 [B s] (· = .agg [I 1, B s, I 9007199254740991, I 971]) := by
  obtain ⟨rfl, hG⟩ := C
  refine FS_ofT (args := fun A => [B s]) (R := fun A rr => rr = .agg [I 1, B s, I 9007199254740991, I 971]) Tryd.hT Tryd.mix Tryd.func72 rfl rfl (Nat.le_of_ble_eq_true rfl) ?_
  generalize hP : Tryd.prog = P
  intro A hA
  have C : Tryd.Cx P gl := ⟨hP.symm, hG⟩
  have hI : intsL = A.ints := by subst hA; rfl
  iterate 2 (all_goals try cbv; all_goals repeat' (first | with_reducible exact True.intro | with_reducible refine And.intro ?_ ?_ | intro _))
  all_goals try exact oH

set_option maxHeartbeats 1000000 in
set_option maxRecDepth 100000 in
theorem l5ok_fs (C : Cx P gl) {k1 m1 e1 k2 m2 e2 n : Int} {s1 s2 b : Bool} (hb : b = true ↔ flOk k1 s1 m1 e1 ∧ flOk k2 s2 m2 e2 ∧ 0 ≤ n ∧ n ≤ 4) : FS P gl 42 [.agg [I k1, B s1, I m1, I e1], .agg [I k2, B s2, I m2, I e2], I n] (· = B b) := by
  obtain ⟨b1, hb1⟩ := bool_of (flOk k1 s1 m1 e1)
  obtain ⟨b2, hb2⟩ := bool_of (flOk k2 s2 m2 e2)
  obtain ⟨b3, hb3⟩ : ∃ b, b = (decide (0 ≤ n) && decide (n ≤ 4)) := ⟨_, rfl⟩
  have hbb : b = (b1 && b2 && b3) := by rw [Bool.eq_iff_iff, hb, Bool.and_eq_true, Bool.and_eq_true, hb1, hb2, hb3, Bool.and_eq_true, decide_eq_true_eq, decide_eq_true_eq, and_assoc]
  have h1 := fun (P' : Program) (C' : Cx P' gl) => specFlOk_fs C' hb1
  have h2 := fun (P' : Program) (C' : Cx P' gl) => specFlOk_fs C' hb2
  have h3 := fun (P' : Program) (C' : Cx P' gl) => l4mode_fs C' hb3
  clear hb hb1 hb2 hb3
  obtain ⟨rfl, hG⟩ := C
  refine FS_ofT (args := fun A => [.agg [I k1, B s1, I m1, I e1], .agg [I k2, B s2, I m2, I e2], I n]) (R := fun A rr => rr = B b) Tryd.hT Tryd.mix Tryd.func42 rfl rfl (Nat.le_of_ble_eq_true rfl) ?_
  generalize hP : Tryd.prog = P
  intro A hA
  have C : Tryd.Cx P gl := ⟨hP.symm, hG⟩
  have hI : intsL = A.ints := by subst hA; rfl
  iterate 2 (all_goals try cbv; all_goals repeat' (first | with_reducible exact True.intro | with_reducible refine And.intro ?_ ?_ | intro _))
  all_goals try exact oH
  refine callS hA rfl (h1 P C) ?_; rintro _ rfl
  iterate 2 (all_goals try cbv; all_goals repeat' (first | with_reducible exact True.intro | with_reducible refine And.intro ?_ ?_ | intro _))
  all_goals try exact oH
  refine ⟨_, fun _ => h2 P C, ?_⟩
  iterate 2 (all_goals try cbv; all_goals repeat' (first | with_reducible exact True.intro | with_reducible refine And.intro ?_ ?_ | intro _))
  all_goals try exact oH
  refine ⟨_, fun _ => h3 P C, ?_⟩
  iterate 2 (all_goals try cbv; all_goals repeat' (first | with_reducible exact True.intro | with_reducible refine And.intro ?_ ?_ | intro _))
  all_goals try exact oH
  have e2 : A.pick (A.pick b1 b2 false) b3 false = b := by
    rw [hbb]
    subst hA
    show (bif (bif b1 then b2 else false) then b3 else false) = _
    cases b1 <;> cases b2 <;> rfl
  exact congrArg (fun x => PV.val (.bool x)) e2

end Tryd
end Go.Proofs

