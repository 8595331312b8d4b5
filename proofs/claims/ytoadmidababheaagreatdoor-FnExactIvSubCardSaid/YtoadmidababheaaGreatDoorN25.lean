/- Contracts: lists of intervals that all are in form. -/
import Derived.Test.YtoadmidababheaaGreatDoorN22
namespace Go.Proofs
open Go Go.Pe Go.Dg
namespace Tryz
set_option linter.unusedSimpArgs false
set_option linter.unusedVariables false
variable {P : Program} {gl : List (Nat × Obj)}

/-- an interval's cells: two dyadic numbers' cells -/
abbrev Cell6 := Cell3 × Cell3

def okV (y : Cell6) : Prop := ivOk y.1.1 y.1.2.1 y.1.2.2 y.2.1 y.2.2.1 y.2.2.2

def cell6 (y : Cell6) : PV := .agg [B y.1.1, .lst (intsL y.1.2.1), I y.1.2.2, B y.2.1, .lst (intsL y.2.2.1), I y.2.2.2]

def cells6 (ys : List Cell6) : List PV := ys.map cell6

def noV : Cell6 := (noY, noY)

theorem cells6_get {ys : List Cell6} {k : Nat} (h : k < ys.length) : (cells6 ys).getD k (.val (.bool false)) = cell6 (ys.getD k noV) := by
  simp [cells6, List.getD, h]

def allV (ys : List Cell6) : Prop := ∀ y ∈ ys, okV y

def voksI (ys : List Cell6) (i : Int) : Prop := 0 ≤ i ∧ i ≤ ys.length ∧ allV (ys.take i.toNat)

theorem voksI_zero (ys : List Cell6) : voksI ys 0 := ⟨Int.le_refl _, by omega, by intro y hy; simp at hy⟩

theorem voksI_next {ys : List Cell6} {i : Int} (h : voksI ys i) (hi : i < ys.length) (h0 : okV (ys.getD i.toNat noV)) : voksI ys (i + 1) := by
  obtain ⟨a, b, c⟩ := h
  refine ⟨by omega, by omega, ?_⟩
  rw [show (i + 1).toNat = i.toNat + 1 by omega, List.take_add_one]
  rw [List.getD, List.getElem?_eq_getElem (by omega)] at h0
  rw [List.getElem?_eq_getElem (by omega)]
  intro y hy
  rcases List.mem_append.1 hy with hy | hy
  · exact c y hy
  · simp at hy; rw [hy]; exact h0

theorem voksI_exit {ys : List Cell6} {i : Int} (h : voksI ys i) (hi : ys.length ≤ i) : allV ys := by
  obtain ⟨a, b, c⟩ := h
  rwa [List.take_of_length_le (by omega)] at c

theorem allV_not {ys : List Cell6} {k : Nat} (hk : k < ys.length) (h : ¬okV (ys.getD k noV)) : ¬allV ys := by
  intro ha
  apply h
  rw [List.getD, List.getElem?_eq_getElem hk]
  exact ha _ (List.getElem_mem hk)

set_option maxHeartbeats 1000000 in
set_option maxRecDepth 100000 in
theorem notIv_fs (C : Cx P gl) {l m : List Int} {e f : Int} {p q : List PV} {s t b : Bool} (hp : p = intsL l) (hq : q = intsL m) (hb : b = true ↔ ivOk s l e t m f) (hl : l.length ≤ 2000000) (hm : m.length ≤ 2000000) :
    FS P gl 88 [.agg [B s, .lst p, I e, B t, .lst q, I f], .ptr [.fn 39 []] 0] (· = B (!b)) := by
  obtain ⟨rfl, hG⟩ := C
  refine FS_ofT (args := fun A => [.agg [B s, .lst p, I e, B t, .lst q, I f], .ptr [.fn 39 []] 0]) (R := fun A rr => rr = B (A.bnot b)) Tryz.hT Tryz.mix Tryz.func88 rfl rfl (Nat.le_of_ble_eq_true rfl) ?_
  generalize hP : Tryz.prog = P
  intro A hA
  have C : Tryz.Cx P gl := ⟨hP.symm, hG⟩
  have hI : intsL = A.ints := by subst hA; rfl
  all_goals try cbv
  all_goals repeat' (first | with_reducible exact True.intro | with_reducible refine And.intro ?_ ?_ | intro _)
  all_goals try cbv
  all_goals repeat' (first | with_reducible exact True.intro | with_reducible refine And.intro ?_ ?_ | intro _)
  all_goals first | ((first | (with_reducible first | refine q1 hA ?_ | refine q2 hA ?_ | refine q3 hA ?_ | refine q4 hA ?_ | refine q5 hA ?_ | refine q6 hA ?_ | refine q7 hA ?_ | refine q8 hA ?_ | refine q9 hA ?_ | refine q0 hA ?_ | refine tru_of ?_) | exfalso); subst hA; subst_vars; simp only [AR.std, natCast_eq, sA, sB, sC, sD, reduceCtorEq] at *; (try simp (disch := omega) only [AR.std, natCast_eq, sA, sB, sC, sD, reduceCtorEq] at *); first | done | rfl | omega | exact ints_ok _ | exact ints_all _ | (apply ints_part <;> first | omega | rfl)) | skip
  refine callS hA rfl (implIvOk_fs C hp hq hb hl hm) ?_; rintro _ rfl
  all_goals try cbv
  all_goals repeat' (first | with_reducible exact True.intro | with_reducible refine And.intro ?_ ?_ | intro _)
  all_goals try cbv
  all_goals repeat' (first | with_reducible exact True.intro | with_reducible refine And.intro ?_ ?_ | intro _)
  all_goals first | ((first | (with_reducible first | refine q1 hA ?_ | refine q2 hA ?_ | refine q3 hA ?_ | refine q4 hA ?_ | refine q5 hA ?_ | refine q6 hA ?_ | refine q7 hA ?_ | refine q8 hA ?_ | refine q9 hA ?_ | refine q0 hA ?_ | refine tru_of ?_) | exfalso); subst hA; subst_vars; simp only [AR.std, natCast_eq, sA, sB, sC, sD, reduceCtorEq] at *; (try simp (disch := omega) only [AR.std, natCast_eq, sA, sB, sC, sD, reduceCtorEq] at *); first | done | rfl | omega | exact ints_ok _ | exact ints_all _ | (apply ints_part <;> first | omega | rfl)) | skip

set_option maxHeartbeats 1000000 in
set_option maxRecDepth 100000 in
theorem indexIv_fs (C : Cx P gl) {ys : List Cell6} {p : List PV} (hp : p = cells6 ys) (hl : ys.length ≤ 2000000) (hy : ∀ y ∈ ys, y.1.2.1.length ≤ 2000000 ∧ y.2.2.1.length ≤ 2000000) :
    FS P gl 128 [.lst p, .fn 88 [.ptr [.fn 39 []] 0]] (fun r => ∃ c, r = I c ∧ (0 ≤ c ↔ ¬allV ys)) := by
  have hpl : p.length = ys.length := by rw [hp]; simp [cells6]
  have hpe : ∀ q ∈ p, okEl 6 q := by
    intro q hq
    rw [hp] at hq
    obtain ⟨y, _, rfl⟩ := List.mem_map.1 hq
    exact ⟨rfl, rfl⟩
  obtain ⟨rfl, hG⟩ := C
  refine FS_ofT (args := fun A => [.lst p, .fn 88 [.ptr [.fn 39 []] 0]]) (R := fun A rr => ∃ c, rr = I c ∧ (0 ≤ c ↔ ¬allV ys)) Tryz.hT Tryz.mix Tryz.func128 rfl rfl (Nat.le_of_ble_eq_true rfl) ?_
  generalize hP : Tryz.prog = P
  intro A hA
  have C : Tryz.Cx P gl := ⟨hP.symm, hG⟩
  have hI : intsL = A.ints := by subst hA; rfl
  all_goals try cbv
  all_goals repeat' (first | with_reducible exact True.intro | with_reducible refine And.intro ?_ ?_ | intro _)
  all_goals try cbv
  all_goals repeat' (first | with_reducible exact True.intro | with_reducible refine And.intro ?_ ?_ | intro _)
  all_goals first | ((first | (with_reducible first | refine q1 hA ?_ | refine q2 hA ?_ | refine q3 hA ?_ | refine q4 hA ?_ | refine q5 hA ?_ | refine q6 hA ?_ | refine q7 hA ?_ | refine q8 hA ?_ | refine q9 hA ?_ | refine q0 hA ?_ | refine tru_of ?_) | exfalso); subst hA; subst_vars; simp only [AR.std, natCast_eq, sA, sB, sC, sD, reduceCtorEq] at *; (try simp (disch := omega) only [AR.std, natCast_eq, sA, sB, sC, sD, reduceCtorEq] at *); first | done | rfl | omega | exact ints_ok _ | exact ints_all _ | (apply ints_part <;> first | omega | rfl)) | skip
  refine loopI hA [] (ι := Int) (fun x => [(8, .pv (I x))]) (fun x => []) (fun x => (ys.length - x).toNat) (fun x => voksI ys x) 0 (by rfl) ?_ ?_ ?_
  all_goals try (subst hA; subst_vars; first | rfl | (simp (disch := omega) only [AR.std, natCast_eq, sA, sB, sC, sD, reduceCtorEq]; rfl))
  · exact voksI_zero ys
  rintro i hinv
  have hi0 := hinv.1
  have hi1 := hinv.2.1
  have hel : i < ys.length → A.el p (A.nat i) = cell6 (ys.getD i.toNat noV) := by
    intro h; subst hA; rw [hp]; exact cells6_get (show i.toNat < ys.length by omega)
  have hyl : (ys.getD i.toNat noV).1.2.1.length ≤ 2000000 ∧ (ys.getD i.toNat noV).2.2.1.length ≤ 2000000 := by
    rcases Nat.lt_or_ge i.toNat ys.length with h | h
    · rw [List.getD, List.getElem?_eq_getElem h]; exact hy _ (List.getElem_mem h)
    · rw [List.getD, List.getElem?_eq_none h]; simp [noV, noY]
  have hlt : A.lt i (A.cast (A.len p)) = true → i < ys.length := by intro h; subst hA; simp [AR.std] at h; omega
  have hge : A.lt i (A.cast (A.len p)) = false → ys.length ≤ i := by intro h; subst hA; simp [AR.std] at h; omega
  generalize hyy : ys.getD i.toNat noV = y at *
  obtain ⟨⟨s, l, e⟩, t, m, f⟩ := y
  obtain ⟨b, hb⟩ := bool_of (ivOk s l e t m f)
  have hnext : i < ys.length → b = true → voksI ys (i + 1) := fun h h1 => voksI_next hinv h (by rw [hyy]; exact hb.1 h1)
  have hexit : ys.length ≤ i → allV ys := fun h => voksI_exit hinv h
  have hnot : i < ys.length → b = false → ¬allV ys := fun h h1 => allV_not (k := i.toNat) (by omega) (by rw [hyy]; intro h2; rw [hb.2 h2] at h1; cases h1)
  obtain ⟨pl, hpl⟩ : ∃ x, x = intsL l := ⟨_, rfl⟩
  obtain ⟨pm, hpm⟩ : ∃ x, x = intsL m := ⟨_, rfl⟩
  have e1 : i < ys.length → A.gb (A.el p (A.nat i)) 0 = s := fun h => by rw [hel h]; subst hA; rfl
  have e2 : i < ys.length → A.gl (A.el p (A.nat i)) 1 = pl := fun h => by rw [hel h, hpl]; subst hA; rfl
  have e3 : i < ys.length → A.gi (A.el p (A.nat i)) 2 = e := fun h => by rw [hel h]; subst hA; rfl
  have e4 : i < ys.length → A.gb (A.el p (A.nat i)) 3 = t := fun h => by rw [hel h]; subst hA; rfl
  have e5 : i < ys.length → A.gl (A.el p (A.nat i)) 4 = pm := fun h => by rw [hel h, hpm]; subst hA; rfl
  have e6 : i < ys.length → A.gi (A.el p (A.nat i)) 5 = f := fun h => by rw [hel h]; subst hA; rfl
  have f3 : i < ys.length → A.peq true 0 6 (A.el p (A.nat i)) (.agg [B (A.gb (A.el p (A.nat i)) 0), .lst (A.gl (A.el p (A.nat i)) 1), I (A.gi (A.el p (A.nat i)) 2), B (A.gb (A.el p (A.nat i)) 3), .lst (A.gl (A.el p (A.nat i)) 4), I (A.gi (A.el p (A.nat i)) 5)]) := fun h => by rw [hel h]; subst hA; rfl
  have f1 : i < ys.length → A.len_eq (A.el p (A.nat i)) 6 := fun h => by rw [hel h]; subst hA; rfl
  have f2 : i < ys.length → A.len_le 6 (A.el p (A.nat i)) := fun h => by rw [hel h]; subst hA; exact Nat.le_refl 6
  have hcall := fun (P' : Program) (C' : Cx P' gl) => notIv_fs C' hpl hpm hb hyl.1 hyl.2
  clear hinv hyy hel hy hb
  all_goals try cbv
  all_goals repeat' (first | with_reducible exact True.intro | with_reducible refine And.intro ?_ ?_ | intro _)
  all_goals try cbv
  all_goals repeat' (first | with_reducible exact True.intro | with_reducible refine And.intro ?_ ?_ | intro _)
  all_goals first | ((first | (with_reducible first | refine q1 hA ?_ | refine q2 hA ?_ | refine q3 hA ?_ | refine q4 hA ?_ | refine q5 hA ?_ | refine q6 hA ?_ | refine q7 hA ?_ | refine q8 hA ?_ | refine q9 hA ?_ | refine q0 hA ?_ | refine tru_of ?_) | exfalso); subst hA; subst_vars; simp only [AR.std, natCast_eq, sA, sB, sC, sD, reduceCtorEq] at *; (try simp (disch := omega) only [AR.std, natCast_eq, sA, sB, sC, sD, reduceCtorEq] at *); first | done | rfl | omega | exact ints_ok _ | exact ints_all _ | (apply ints_part <;> first | omega | rfl)) | skip
  · exact f3 (hlt (by assumption))
  · rename_i g
    have hi := hlt g
    simp only [e1 hi, e2 hi, e3 hi, e4 hi, e5 hi, e6 hi]
    refine callS hA rfl (hcall P C) ?_; rintro _ rfl
    all_goals try cbv
    all_goals repeat' (first | with_reducible exact True.intro | with_reducible refine And.intro ?_ ?_ | intro _)
    all_goals try cbv
    all_goals repeat' (first | with_reducible exact True.intro | with_reducible refine And.intro ?_ ?_ | intro _)
    all_goals first | ((first | (with_reducible first | refine q1 hA ?_ | refine q2 hA ?_ | refine q3 hA ?_ | refine q4 hA ?_ | refine q5 hA ?_ | refine q6 hA ?_ | refine q7 hA ?_ | refine q8 hA ?_ | refine q9 hA ?_ | refine q0 hA ?_ | refine tru_of ?_) | exfalso); subst hA; subst_vars; simp only [AR.std, natCast_eq, sA, sB, sC, sD, reduceCtorEq] at *; (try simp (disch := omega) only [AR.std, natCast_eq, sA, sB, sC, sD, reduceCtorEq] at *); first | done | rfl | omega | exact ints_ok _ | exact ints_all _ | (apply ints_part <;> first | omega | rfl)) | skip
    · rename_i g
      have g : b = false := by cases b <;> first | rfl | exact absurd g (by decide)
      exact ⟨i, rfl, fun _ => hnot hi g, fun _ => hi0⟩
    · rename_i g
      have g : b = true := by cases b <;> first | rfl | exact absurd g (by decide)
      obtain ⟨y1, hy1⟩ : ∃ y, y = i + 1 := ⟨_, rfl⟩
      refine ⟨⟨y1, ?_⟩, ?_, ?_⟩
      rotate_left
      · cbv
        subst hA; subst_vars; simp only [AR.std, natCast_eq, sA, sB, sC, sD, reduceCtorEq] at *; (try simp (disch := omega) only [AR.std, natCast_eq, sA, sB, sC, sD, reduceCtorEq] at *); first | done | rfl
      · (subst hA; subst_vars; simp only [AR.std, natCast_eq, sA, sB, sC, sD, reduceCtorEq] at *; try simp (disch := omega) only [AR.std, natCast_eq, sA, sB, sC, sD, reduceCtorEq] at *); omega
      · rw [hy1]; exact hnext hi g
  · rename_i g
    exact ⟨-1, rfl, fun h => absurd h (by decide), fun h => absurd (hexit (hge g)) h⟩

set_option maxHeartbeats 1000000 in
set_option maxRecDepth 100000 in
theorem containsIv_fs (C : Cx P gl) {ys : List Cell6} {p : List PV} {b : Bool} (hp : p = cells6 ys) (hb : b = true ↔ allV ys) (hl : ys.length ≤ 2000000) (hy : ∀ y ∈ ys, y.1.2.1.length ≤ 2000000 ∧ y.2.2.1.length ≤ 2000000) :
    FS P gl 87 [.lst p, .fn 88 [.ptr [.fn 39 []] 0]] (· = B (!b)) := by
  obtain ⟨rfl, hG⟩ := C
  refine FS_ofT (args := fun A => [.lst p, .fn 88 [.ptr [.fn 39 []] 0]]) (R := fun A rr => rr = B (A.bnot b)) Tryz.hT Tryz.mix Tryz.func87 rfl rfl (Nat.le_of_ble_eq_true rfl) ?_
  generalize hP : Tryz.prog = P
  intro A hA
  have C : Tryz.Cx P gl := ⟨hP.symm, hG⟩
  have hI : intsL = A.ints := by subst hA; rfl
  all_goals try cbv
  all_goals repeat' (first | with_reducible exact True.intro | with_reducible refine And.intro ?_ ?_ | intro _)
  all_goals try cbv
  all_goals repeat' (first | with_reducible exact True.intro | with_reducible refine And.intro ?_ ?_ | intro _)
  all_goals first | ((first | (with_reducible first | refine q1 hA ?_ | refine q2 hA ?_ | refine q3 hA ?_ | refine q4 hA ?_ | refine q5 hA ?_ | refine q6 hA ?_ | refine q7 hA ?_ | refine q8 hA ?_ | refine q9 hA ?_ | refine q0 hA ?_ | refine tru_of ?_) | exfalso); subst hA; subst_vars; simp only [AR.std, natCast_eq, sA, sB, sC, sD, reduceCtorEq] at *; (try simp (disch := omega) only [AR.std, natCast_eq, sA, sB, sC, sD, reduceCtorEq] at *); first | done | rfl | omega | exact ints_ok _ | exact ints_all _ | (apply ints_part <;> first | omega | rfl)) | skip
  refine callS hA rfl (indexIv_fs C hp hl hy) ?_; rintro _ ⟨c, rfl, hc⟩
  all_goals try cbv
  all_goals repeat' (first | with_reducible exact True.intro | with_reducible refine And.intro ?_ ?_ | intro _)
  all_goals try cbv
  all_goals repeat' (first | with_reducible exact True.intro | with_reducible refine And.intro ?_ ?_ | intro _)
  all_goals first | ((first | (with_reducible first | refine q1 hA ?_ | refine q2 hA ?_ | refine q3 hA ?_ | refine q4 hA ?_ | refine q5 hA ?_ | refine q6 hA ?_ | refine q7 hA ?_ | refine q8 hA ?_ | refine q9 hA ?_ | refine q0 hA ?_ | refine tru_of ?_) | exfalso); subst hA; subst_vars; simp only [AR.std, natCast_eq, sA, sB, sC, sD, reduceCtorEq] at *; (try simp (disch := omega) only [AR.std, natCast_eq, sA, sB, sC, sD, reduceCtorEq] at *); first | done | rfl | omega | exact ints_ok _ | exact ints_all _ | (apply ints_part <;> first | omega | rfl)) | skip
  have e : A.le 0 c = A.bnot b := by
    subst hA
    show decide (0 ≤ c) = !b
    rw [Bool.eq_iff_iff, decide_eq_true_eq, hc, ← hb]
    cases b <;> simp
  simp only [e]

set_option maxHeartbeats 1000000 in
set_option maxRecDepth 100000 in
theorem allIvs_fs (C : Cx P gl) {ys : List Cell6} {p : List PV} {b : Bool} (hp : p = cells6 ys) (hb : b = true ↔ allV ys) (hl : ys.length ≤ 2000000) (hy : ∀ y ∈ ys, y.1.2.1.length ≤ 2000000 ∧ y.2.2.1.length ≤ 2000000) :
    FS P gl 55 [.lst p, .fn 39 []] (· = B b) := by
  obtain ⟨rfl, hG⟩ := C
  refine FS_ofT (args := fun A => [.lst p, .fn 39 []]) (R := fun A rr => rr = B b) Tryz.hT Tryz.mix Tryz.func55 rfl rfl (Nat.le_of_ble_eq_true rfl) ?_
  generalize hP : Tryz.prog = P
  intro A hA
  have C : Tryz.Cx P gl := ⟨hP.symm, hG⟩
  have hI : intsL = A.ints := by subst hA; rfl
  all_goals try cbv
  all_goals repeat' (first | with_reducible exact True.intro | with_reducible refine And.intro ?_ ?_ | intro _)
  all_goals try cbv
  all_goals repeat' (first | with_reducible exact True.intro | with_reducible refine And.intro ?_ ?_ | intro _)
  all_goals first | ((first | (with_reducible first | refine q1 hA ?_ | refine q2 hA ?_ | refine q3 hA ?_ | refine q4 hA ?_ | refine q5 hA ?_ | refine q6 hA ?_ | refine q7 hA ?_ | refine q8 hA ?_ | refine q9 hA ?_ | refine q0 hA ?_ | refine tru_of ?_) | exfalso); subst hA; subst_vars; simp only [AR.std, natCast_eq, sA, sB, sC, sD, reduceCtorEq] at *; (try simp (disch := omega) only [AR.std, natCast_eq, sA, sB, sC, sD, reduceCtorEq] at *); first | done | rfl | omega | exact ints_ok _ | exact ints_all _ | (apply ints_part <;> first | omega | rfl)) | skip
  refine callS hA rfl (containsIv_fs C hp hb hl hy) ?_; rintro _ rfl
  all_goals try cbv
  all_goals repeat' (first | with_reducible exact True.intro | with_reducible refine And.intro ?_ ?_ | intro _)
  all_goals try cbv
  all_goals repeat' (first | with_reducible exact True.intro | with_reducible refine And.intro ?_ ?_ | intro _)
  all_goals first | ((first | (with_reducible first | refine q1 hA ?_ | refine q2 hA ?_ | refine q3 hA ?_ | refine q4 hA ?_ | refine q5 hA ?_ | refine q6 hA ?_ | refine q7 hA ?_ | refine q8 hA ?_ | refine q9 hA ?_ | refine q0 hA ?_ | refine tru_of ?_) | exfalso); subst hA; subst_vars; simp only [AR.std, natCast_eq, sA, sB, sC, sD, reduceCtorEq] at *; (try simp (disch := omega) only [AR.std, natCast_eq, sA, sB, sC, sD, reduceCtorEq] at *); first | done | rfl | omega | exact ints_ok _ | exact ints_all _ | (apply ints_part <;> first | omega | rfl)) | skip
  subst hA; cases b <;> rfl

set_option maxHeartbeats 1000000 in
set_option maxRecDepth 100000 in
theorem areIvs_fs (C : Cx P gl) {ys : List Cell6} {p : List PV} {b : Bool} (hp : p = cells6 ys) (hb : b = true ↔ allV ys) (hl : ys.length ≤ 2000000) (hy : ∀ y ∈ ys, y.1.2.1.length ≤ 2000000 ∧ y.2.2.1.length ≤ 2000000) :
    FS P gl 28 [.lst p] (· = B b) := by
  obtain ⟨rfl, hG⟩ := C
  refine FS_ofT (args := fun A => [.lst p]) (R := fun A rr => rr = B b) Tryz.hT Tryz.mix Tryz.func28 rfl rfl (Nat.le_of_ble_eq_true rfl) ?_
  generalize hP : Tryz.prog = P
  intro A hA
  have C : Tryz.Cx P gl := ⟨hP.symm, hG⟩
  have hI : intsL = A.ints := by subst hA; rfl
  all_goals try cbv
  all_goals repeat' (first | with_reducible exact True.intro | with_reducible refine And.intro ?_ ?_ | intro _)
  all_goals try cbv
  all_goals repeat' (first | with_reducible exact True.intro | with_reducible refine And.intro ?_ ?_ | intro _)
  all_goals first | ((first | (with_reducible first | refine q1 hA ?_ | refine q2 hA ?_ | refine q3 hA ?_ | refine q4 hA ?_ | refine q5 hA ?_ | refine q6 hA ?_ | refine q7 hA ?_ | refine q8 hA ?_ | refine q9 hA ?_ | refine q0 hA ?_ | refine tru_of ?_) | exfalso); subst hA; subst_vars; simp only [AR.std, natCast_eq, sA, sB, sC, sD, reduceCtorEq] at *; (try simp (disch := omega) only [AR.std, natCast_eq, sA, sB, sC, sD, reduceCtorEq] at *); first | done | rfl | omega | exact ints_ok _ | exact ints_all _ | (apply ints_part <;> first | omega | rfl)) | skip
  refine callS hA rfl (allIvs_fs C hp hb hl hy) ?_; rintro _ rfl
  all_goals try cbv
  all_goals repeat' (first | with_reducible exact True.intro | with_reducible refine And.intro ?_ ?_ | intro _)
  all_goals try cbv
  all_goals repeat' (first | with_reducible exact True.intro | with_reducible refine And.intro ?_ ?_ | intro _)
  all_goals first | ((first | (with_reducible first | refine q1 hA ?_ | refine q2 hA ?_ | refine q3 hA ?_ | refine q4 hA ?_ | refine q5 hA ?_ | refine q6 hA ?_ | refine q7 hA ?_ | refine q8 hA ?_ | refine q9 hA ?_ | refine q0 hA ?_ | refine tru_of ?_) | exfalso); subst hA; subst_vars; simp only [AR.std, natCast_eq, sA, sB, sC, sD, reduceCtorEq] at *; (try simp (disch := omega) only [AR.std, natCast_eq, sA, sB, sC, sD, reduceCtorEq] at *); first | done | rfl | omega | exact ints_ok _ | exact ints_all _ | (apply ints_part <;> first | omega | rfl)) | skip

end Tryz
end Go.Proofs
