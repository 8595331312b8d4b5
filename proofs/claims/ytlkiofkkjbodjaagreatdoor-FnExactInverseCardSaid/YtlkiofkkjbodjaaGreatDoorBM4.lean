/- Contracts: matrices as the program has them: forms, the numbers of a matrix. -/
import Derived.Test.YtlkiofkkjbodjaaGreatDoorBN20
import Derived.Test.YtlkiofkkjbodjaaGreatDoorBEvD
set_option maxHeartbeats 1000000
set_option maxRecDepth 100000
namespace Go.Proofs
open Go Go.Pe Go.Dg
namespace Tryz

theorem gSa1 {P : Program} {gl : List (Nat × Obj)} (C : Tryz.Cx P gl) {f : FuncId} {fn : Func} {c : Code} {args : AR → List PV} {R : AR → PV → Prop} (hf : Tryz.prog.funcs[f]? = some fn) (hb : fn.body = some c) (hm : (fn.name == "runtime.NumGoroutine") = false) (hn : Nat.ble (args AR.std).length fn.ntmps = true)
 (hv : ∀ A, A = AR.std → aA = A.ints → iU P Tryz.T A gl .any c (aUX Tryz.T A fn.results.toList (R A)) ⟨cS 0 ((args A).map .pv), [], fn.ntmps, 0⟩) : FS P gl f (args AR.std) (R AR.std) := by
 obtain ⟨rfl, hG⟩ := C
 exact eN (args := args) (R := R) Tryz.hT Tryz.mix hf hb hm (Nat.le_of_ble_eq_true hn) fun A hA => hv A hA (by subst hA; rfl)

set_option linter.unusedSimpArgs false
set_option linter.unusedVariables false
variable {P : Program} {gl : List (Nat × Obj)}

theorem aQ7 (C : Cx P gl) {l : List Int} {e : Int} {p : List PV} {s b : Bool} (hp : p = aA l) (hb : b = true ↔ wP s l e) (hl : l.length ≤ 2000000) :
  FS P gl 216 [.agg [B s, .lst p, I e], .ptr [.fn 150 []] 0] (· = B (!b)) := by
 refine gSa1 C (args := fun A => [.agg [B s, .lst p, I e], .ptr [.fn 150 []] 0]) (R := fun A rr => rr = B (A.bnot b)) func216 rfl rfl rfl fun A hA hI => ?_
 iterate 2 all_goals try cbv; with_reducible repeat' first | exact ⟨⟩ | apply And.intro | intro _
 all_goals try exact oH
 refine aD hA rfl (aGK C hp hb hl) ?_; rintro _ rfl
 iterate 2 all_goals try cbv; with_reducible repeat' first | exact ⟨⟩ | apply And.intro | intro _
 all_goals try exact oH

theorem aI8 (C : Cx P gl) {ys : List aC} {p : List PV} (hp : p = aB ys) (hl : ys.length ≤ 2000000) (hy : ∀ y ∈ ys, y.2.1.length ≤ 2000000) :
  FS P gl 253 [.lst p, .fn 216 [.ptr [.fn 150 []] 0]] (fun r => ∃ c, r = I c ∧ (0 ≤ c ↔ ¬nO ys)) := by
 have hpl : p.length = ys.length := by rw [hp, aV]
 have hpe : ∀ q ∈ p, kY 3 q := by
  intro q hq
  rw [hp] at hq
  obtain ⟨y, _, rfl⟩ := List.mem_map.1 hq
  exact ⟨rfl, rfl⟩
 refine gS C func253 rfl rfl rfl fun A hA hI => ?_
 iterate 2 all_goals try cbv; with_reducible repeat' first | exact ⟨⟩ | apply And.intro | intro _
 all_goals try exact oH
 refine aZ hA [] (ι := Int) (fun x => [(8, .pv (I x))]) (fun x => []) (fun x => (ys.length - x).toNat) (fun x => yY ys x) 0 (by rfl) ?_ ?_ ?_
 all_goals try exact tH
 ·exact yZ ys
 rintro i hinv
 have hi0 := hinv.1
 have hi1 := hinv.2.1
 have hel : i < ys.length → A.el p (A.nat i) = aW (ys.getD i.toNat noY) := by
  intro h; subst hA; rw [hp]; exact yX (show i.toNat < ys.length by omega)
 have hyl : (ys.getD i.toNat noY).2.1.length ≤ 2000000 := by
  rcases Nat.lt_or_ge i.toNat ys.length with h | h
  ·rw [List.getD, List.getElem?_eq_getElem h]; exact hy _ (List.getElem_mem h)
  ·rw [List.getD, List.getElem?_eq_none h]; simp [noY]
 have hok : i < ys.length → kY 3 (A.el p (A.nat i)) := by intro h; rw [hel h]; exact ⟨rfl, rfl⟩
 have hlt : A.lt i (A.cast (A.len p)) = true → i < ys.length := by intro h; subst hA; simp [AR.std] at h; omega
 have hge : A.lt i (A.cast (A.len p)) = false → ys.length ≤ i := by intro h; subst hA; simp [AR.std] at h; omega
 generalize hyy : ys.getD i.toNat noY = y at *
 obtain ⟨s, l, e⟩ := y
 obtain ⟨b, hb⟩ := fV (wP s l e)
 have aJ : i < ys.length → b = true → yY ys (i + 1) := fun h h1 => zA hinv h (by rw [hyy]; exact hb.1 h1)
 have aN : ys.length ≤ i → nO ys := fun h => zB hinv h
 have aMY : i < ys.length → b = false → ¬nO ys := fun h h1 => aFM (k := i.toNat) (by omega) (by rw [hyy]; intro h2; rw [hb.2 h2] at h1; cases h1)
 obtain ⟨pl, hpl⟩ : ∃ x, x = aA l := ⟨_, rfl⟩
 have e1 : i < ys.length → A.gb (A.el p (A.nat i)) 0 = s := fun h => by rw [hel h]; subst hA; rfl
 have e2 : i < ys.length → A.gl (A.el p (A.nat i)) 1 = pl := fun h => by rw [hel h, hpl]; subst hA; rfl
 have e3 : i < ys.length → A.gi (A.el p (A.nat i)) 2 = e := fun h => by rw [hel h]; subst hA; rfl
 have f1 : i < ys.length → A.len_eq (A.el p (A.nat i)) 3 := fun h => by rw [hel h]; subst hA; rfl
 have f2 : i < ys.length → A.len_le 3 (A.el p (A.nat i)) := fun h => by rw [hel h]; subst hA; exact Nat.le_refl 3
 have f3 : i < ys.length → A.peq true 0 3 (A.el p (A.nat i)) (.agg [B (A.gb (A.el p (A.nat i)) 0), .lst (A.gl (A.el p (A.nat i)) 1), I (A.gi (A.el p (A.nat i)) 2)]) := fun h => by rw [hel h]; subst hA; rfl
 clear hinv hyy hel hy
 iterate 2 all_goals try cbv; with_reducible repeat' first | exact ⟨⟩ | apply And.intro | intro _
 all_goals try exact oH
 ·exact f3 (hlt (by assumption))
 ·rename_i g
  have hi := hlt g
  simp only [e1 hi, e2 hi, e3 hi]
  refine aD hA rfl (aQ7 C hpl hb hyl) ?_; rintro _ rfl
  iterate 2 all_goals try cbv; with_reducible repeat' first | exact ⟨⟩ | apply And.intro | intro _
  all_goals try exact oH
  ·rename_i g
   have g : b = false := by cases b <;> first | rfl | exact absurd g (by decide)
   exact ⟨i, rfl, fun _ => aMY hi g, fun _ => hi0⟩
  ·rename_i g
   have g : b = true := by cases b <;> first | rfl | exact absurd g (by decide)
   obtain ⟨y1, hy1⟩ : ∃ y, y = i + 1 := ⟨_, rfl⟩
   refine ⟨⟨y1, ?_⟩, ?_, ?_⟩
   rotate_left
   ·cbv
    exact nH
   ·exact eH
   ·rw [hy1]; exact aJ hi g
 ·rename_i g
  exact ⟨-1, rfl, fun h => absurd h (by decide), fun h => absurd (aN (hge g)) h⟩

theorem aA7 (C : Cx P gl) {ys : List aC} {p : List PV} {b : Bool} (hp : p = aB ys) (hb : b = true ↔ nO ys) (hl : ys.length ≤ 2000000) (hy : ∀ y ∈ ys, y.2.1.length ≤ 2000000) :
  FS P gl 215 [.lst p, .fn 216 [.ptr [.fn 150 []] 0]] (· = B (!b)) := by
 refine gSa1 C (args := fun A => [.lst p, .fn 216 [.ptr [.fn 150 []] 0]]) (R := fun A rr => rr = B (A.bnot b)) func215 rfl rfl rfl fun A hA hI => ?_
 iterate 2 all_goals try cbv; with_reducible repeat' first | exact ⟨⟩ | apply And.intro | intro _
 all_goals try exact oH
 refine aD hA rfl (aI8 C hp hl hy) ?_; rintro _ ⟨c, rfl, hc⟩
 iterate 2 all_goals try cbv; with_reducible repeat' first | exact ⟨⟩ | apply And.intro | intro _
 all_goals try exact oH
 have e : A.le 0 c = A.bnot b := by
  subst hA
  show decide (0 ≤ c) = !b
  rw [Bool.eq_iff_iff, decide_eq_true_eq, hc, ← hb]
  cases b <;> simp
 simp only [e]

theorem aM4 (C : Cx P gl) {ys : List aC} {p : List PV} {b : Bool} (hp : p = aB ys) (hb : b = true ↔ nO ys) (hl : ys.length ≤ 2000000) (hy : ∀ y ∈ ys, y.2.1.length ≤ 2000000) :
  FS P gl 149 [.lst p, .fn 150 []] (· = B b) := by
 refine gS C func149 rfl rfl rfl fun A hA hI => ?_
 iterate 2 all_goals try cbv; with_reducible repeat' first | exact ⟨⟩ | apply And.intro | intro _
 all_goals try exact oH
 refine aD hA rfl (aA7 C hp hb hl hy) ?_; rintro _ rfl
 iterate 2 all_goals try cbv; with_reducible repeat' first | exact ⟨⟩ | apply And.intro | intro _
 all_goals try exact oH
 subst hA; cases b <;> rfl

theorem aMX (C : Cx P gl) {ys : List aC} {p : List PV} {b : Bool} (hp : p = aB ys) (hb : b = true ↔ nO ys) (hl : ys.length ≤ 2000000) (hy : ∀ y ∈ ys, y.2.1.length ≤ 2000000) :
  FS P gl 76 [.lst p] (· = B b) := by
 refine gS C func76 rfl rfl rfl fun A hA hI => ?_
 iterate 2 all_goals try cbv; with_reducible repeat' first | exact ⟨⟩ | apply And.intro | intro _
 all_goals try exact oH
 refine aD hA rfl (aM4 C hp hb hl hy) ?_; rintro _ rfl
 iterate 2 all_goals try cbv; with_reducible repeat' first | exact ⟨⟩ | apply And.intro | intro _
 all_goals try exact oH

end Tryz
end Go.Proofs

set_option maxHeartbeats 1000000
set_option maxRecDepth 100000
namespace Go.Proofs
open Go Go.Pe Go.Dg
namespace Tryz
set_option linter.unusedSimpArgs false
set_option linter.unusedVariables false
variable {P : Program} {gl : List (Nat × Obj)}

theorem nU (C : Cx P gl) {ys : List aC} {p : List PV} {n : Int} (hp : p = aB ys) (hl : ys.length ≤ 2000000) :
  FS P gl 77 [.agg [I n, .lst p]] (· = .agg [I n, .lst p]) := by
 refine gS C func77 rfl rfl rfl fun A hA hI => ?_
 iterate 2 all_goals try cbv; with_reducible repeat' first | exact ⟨⟩ | apply And.intro | intro _
 all_goals try exact oG
 refine aZ hA [.cell 2 1 121 3] (ι := Int × List PV) (fun x => [(12, .pv (I x.1))]) (fun x => [(3, .row 121 3 x.2)]) (fun x => (ys.length - x.1).toNat) (fun x => 0 ≤ x.1 ∧ x.1 ≤ ys.length ∧ x.2 = aB (ys.take x.1.toNat)) (0, []) (by rfl) ?_ ?_ ?_
 all_goals try exact tG
 ·exact ⟨Int.le_refl _, by omega, rfl⟩
 rintro ⟨i, q⟩ ⟨hi0, hi1, hq⟩
 simp only at hi0 hi1 hq
 iterate 2 all_goals try cbv; with_reducible repeat' first | exact ⟨⟩ | apply And.intro | intro _
 all_goals try exact oG
 ·rename_i g
  have gi : i < ys.length := by exact eG
  have hlt : i.toNat < ys.length := by omega
  have aF1 : i + 1 ≤ ys.length := by omega
  have hgl : A.gl (A.el p (A.nat i)) 1 = aA (ys.getD i.toNat noY).2.1 := by (subst hA; subst_vars; simp only [AR.std, bBG, sG, reduceCtorEq] at *; try simp (disch := omega) only [AR.std, bBG, sG, reduceCtorEq] at *)
  have hgb : A.gb (A.el p (A.nat i)) 0 = (ys.getD i.toNat noY).1 := by clear hgl; (subst hA; subst_vars; simp only [AR.std, bBG, sG, reduceCtorEq] at *; try simp (disch := omega) only [AR.std, bBG, sG, reduceCtorEq] at *)
  have hge : A.gi (A.el p (A.nat i)) 2 = (ys.getD i.toNat noY).2.2 := by clear hgl hgb; (subst hA; subst_vars; simp only [AR.std, bBG, sG, reduceCtorEq] at *; try simp (disch := omega) only [AR.std, bBG, sG, reduceCtorEq] at *)
  refine ⟨_, aIY C, ?_⟩
  iterate 2 all_goals try cbv; with_reducible repeat' first | exact ⟨⟩ | apply And.intro | intro _
  all_goals try exact oG
  all_goals try exact kP hA (by intro x hx; rw [List.mem_singleton.1 hx]; exact ⟨rfl, rfl⟩)
  clear hgl hgb hge
  obtain ⟨y1, hy1⟩ : ∃ y, y = i + 1 := ⟨_, rfl⟩
  obtain ⟨y2, hy2⟩ : ∃ y, y = q ++ [aW (ys.getD i.toNat noY)] := ⟨_, rfl⟩
  refine ⟨⟨(y1, y2), ?_⟩, ?_, ?_⟩
  rotate_left
  ·cbv
   exact nG
  ·exact eG
  ·rw [hy1, hy2]
   refine ⟨by simp only; omega, aF1, ?_⟩
   simp only
   rw [show (i + 1).toNat = i.toNat + 1 by omega, hq, aPS hlt]
 ·rename_i g
  have e : q = p := by
   have gi : ys.length ≤ i := by clear hq; exact eG
   rw [hq, List.take_of_length_le (by omega), hp]
  simp only [e]

def gM (n : Int) (ys : List aC) : Prop := 1 ≤ n ∧ n ≤ 4 ∧ (ys.length : Int) = n * n ∧ nO ys

theorem vE {ys : List aC} {n : Int} (h1 : 1 ≤ n) (h4 : n ≤ 4) (hl : (ys.length : Int) = n * n) : ys.length ≤ 16 := by
 have hm2 : n * n ≤ 16 := by
  rcases (by omega : n = 1 ∨ n = 2 ∨ n = 3 ∨ n = 4) with rfl | rfl | rfl | rfl <;> decide
 omega

theorem iA (C : Cx P gl) {ys : List aC} {p : List PV} {n : Int} {b : Bool} (hp : p = aB ys) (hb : b = true ↔ gM n ys) (hl : ys.length ≤ 2000000) (hy : ∀ y ∈ ys, y.2.1.length ≤ 2000000) :
  FS P gl 75 [.agg [I n, .lst p]] (· = B b) := by
 obtain ⟨b1, hb1⟩ : ∃ b1, b1 = (decide (1 ≤ n) && decide (n ≤ 4)) := ⟨_, rfl⟩
 obtain ⟨b2, hb2⟩ : ∃ b2, b2 = decide ((ys.length : Int) = n * n) := ⟨_, rfl⟩
 obtain ⟨b3, hb3⟩ := fV (nO ys)
 have hbb : b = (b1 && b2 && b3) := by
  rw [Bool.eq_iff_iff, hb, Bool.and_eq_true, Bool.and_eq_true, hb3, hb1, hb2, Bool.and_eq_true, decide_eq_true_eq, decide_eq_true_eq, decide_eq_true_eq, gM]
  simp only [and_assoc]
 have h1 := fun (P' : Program) (C' : Cx P' gl) => gN C' hb1
 have h3 := fun (P' : Program) (C' : Cx P' gl) => aMX C' hp hb3 hl hy
 clear hb hb3
 refine gS C func75 rfl rfl rfl fun A hA hI => ?_
 iterate 2 all_goals try cbv; with_reducible repeat' first | exact ⟨⟩ | apply And.intro | intro _
 all_goals try exact oG
 refine aD hA rfl (h1 P C) ?_; rintro _ rfl
 iterate 2 all_goals try cbv; with_reducible repeat' first | exact ⟨⟩ | apply And.intro | intro _
 all_goals try exact oG
 have e : A.pick b1 (A.eq (A.cast (A.len p)) (A.mul .i64 n n)) false = (b1 && b2) := by
  rw [hb2]
  cases b1 with
  | false => subst hA; rfl
  | true =>
   have h2 := hb1.symm
   rw [Bool.and_eq_true, decide_eq_true_eq, decide_eq_true_eq] at h2
   have hm : n * n ≤ 16 ∧ 0 ≤ n * n := by
    rcases (by omega : n = 1 ∨ n = 2 ∨ n = 3 ∨ n = 4) with rfl | rfl | rfl | rfl <;> decide
   subst hA
   simp only [AR.std]
   rw [aX (by omega) (by omega), hp, aKC, Bool.eq_iff_iff]
   simp
 refine ⟨_, fun _ => h3 P C, ?_⟩
 iterate 2 all_goals try cbv; with_reducible repeat' first | exact ⟨⟩ | apply And.intro | intro _
 all_goals try exact oG
 have e2 : A.pick (A.pick b1 (A.eq (A.cast (A.len p)) (A.mul .i64 n n)) false) b3 false = b := by
  rw [e, hbb]
  subst hA
  show (bif b1 && b2 then b3 else false) = _
  cases b1 && b2 <;> rfl
 exact congrArg (fun x => PV.val (.bool x)) e2

theorem gL (C : Cx P gl) {ys : List aC} {p q : List PV} {n i j : Int} {s : Bool} {l : List Int} {e : Int} (hp : p = aB ys) (hi : 0 ≤ i) (hj : 0 ≤ j) (hn : 0 ≤ n) (hn4 : n ≤ 4) (hi4 : i ≤ 4) (hj4 : j ≤ 4) (hk : i * n + j < ys.length) (hg : ys.getD (i * n + j).toNat noY = (s, l, e)) (hq : q = aA l) :
  FS P gl 82 [.agg [I n, .lst p], I i, I j] (· = .agg [B s, .lst q, I e]) := by
 have hm : 0 ≤ i * n ∧ i * n ≤ 16 := by
  rcases (by omega : n = 0 ∨ n = 1 ∨ n = 2 ∨ n = 3 ∨ n = 4) with rfl | rfl | rfl | rfl | rfl <;> omega
 obtain ⟨k, hk'⟩ : ∃ k, k = i * n + j := ⟨_, rfl⟩
 rw [← hk'] at hk hg
 have hk0 : 0 ≤ k := by omega
 have hlt : k.toNat < ys.length := by omega
 refine gS C func82 rfl rfl rfl fun A hA hI => ?_
 have ek : A.add .i64 (A.mul .i64 i n) j = k := by
  clear hg
  subst hA
  simp only [AR.std]
  rw [aX (n := i * n) (by omega) (by omega), ← hk', aX (by omega) (by omega)]
 iterate 2 all_goals try cbv; with_reducible repeat' first | exact ⟨⟩ | apply And.intro | intro _
 all_goals try exact oG
 all_goals simp only [ek]
 all_goals clear ek hk'
 have h0 : A.gb (A.el p (A.nat k)) 0 = s := by
  have e2 : A.gb (A.el p (A.nat k)) 0 = (ys.getD k.toNat noY).1 := by clear hg; (subst hA; subst_vars; simp only [AR.std, bBG, sG, reduceCtorEq] at *; try simp (disch := omega) only [AR.std, bBG, sG, reduceCtorEq] at *)
  rw [e2, hg]
 have h1 : A.gl (A.el p (A.nat k)) 1 = q := by
  have e2 : A.gl (A.el p (A.nat k)) 1 = aA (ys.getD k.toNat noY).2.1 := by clear hg h0; (subst hA; subst_vars; simp only [AR.std, bBG, sG, reduceCtorEq] at *; try simp (disch := omega) only [AR.std, bBG, sG, reduceCtorEq] at *)
  rw [e2, hg, hq]
 have h2 : A.gi (A.el p (A.nat k)) 2 = e := by
  have e2 : A.gi (A.el p (A.nat k)) 2 = (ys.getD k.toNat noY).2.2 := by clear hg h0 h1; (subst hA; subst_vars; simp only [AR.std, bBG, sG, reduceCtorEq] at *; try simp (disch := omega) only [AR.std, bBG, sG, reduceCtorEq] at *)
  rw [e2, hg]
 simp only [h0, h1, h2]

end Tryz
end Go.Proofs

