/- Contracts: forms of wholes and dyadic numbers, as the program tells them. -/
import Derived.Test.YtlkiofkkjbodjaaGreatDoorBN15
set_option maxHeartbeats 1000000
set_option maxRecDepth 100000
namespace Go.Proofs
open Go Go.Pe Go.Dg
namespace Tryz

theorem gSa2 {P : Program} {gl : List (Nat × Obj)} (C : Tryz.Cx P gl) {f : FuncId} {fn : Func} {c : Code} {args : AR → List PV} {R : AR → PV → Prop} (hf : Tryz.prog.funcs[f]? = some fn) (hb : fn.body = some c) (hm : (fn.name == "runtime.NumGoroutine") = false) (hn : Nat.ble (args AR.std).length fn.ntmps = true)
 (hv : ∀ A, A = AR.std → aA = A.ints → iU P Tryz.T A gl .any c (aUX Tryz.T A fn.results.toList (R A)) ⟨cS 0 ((args A).map .pv), [], fn.ntmps, 0⟩) : FS P gl f (args AR.std) (R AR.std) := by
 obtain ⟨rfl, hG⟩ := C
 exact eN (args := args) (R := R) Tryz.hT Tryz.mix hf hb hm (Nat.le_of_ble_eq_true hn) fun A hA => hv A hA (by subst hA; rfl)

set_option linter.unusedSimpArgs false
set_option linter.unusedVariables false
variable {P : Program} {gl : List (Nat × Obj)}

theorem aI2 (C : Cx P gl) {z e : Int} {p : List PV} {s : Bool} (hp : p = aA (dg z.natAbs)) (hs : s = decide (z < 0))
  (h0 : e.natAbs ≤ 1000000000) (hl : (dg z.natAbs).length ≤ 10000000) (hn : z ≠ 0) (nA : ¬fits (mk z e)) :
  FS P gl 111 [.agg [B s, .lst p, I e]] (· = .tup [.agg [B false, .lst [], I 0], B false]) := by
 obtain ⟨d, hd⟩ : ∃ d, d = mk z e := ⟨_, rfl⟩
 obtain ⟨r, hr⟩ : ∃ r, r = aA (dg (cZ d).natAbs) := ⟨_, rfl⟩
 obtain ⟨u, hu⟩ : ∃ u, u = decide (cZ d < 0) := ⟨_, rfl⟩
 obtain ⟨f, hf⟩ : ∃ f, f = cE d := ⟨_, rfl⟩
 rw [← hd] at nA
 have hle : (dg (cZ d).natAbs).length ≤ 1000000000 := by
  rw [hd]; have := eC (aPF z e); omega
 have hl2 : 0 < (dg (cZ d).natAbs).length := by
  rcases Nat.eq_zero_or_pos (dg (cZ d).natAbs).length with h | h
  ·rw [cO] at h
   have : d = 0 := eI.1 (by omega)
   rw [this, ← mk_zero e, mk_inj] at hd
   exact absurd hd.symm hn
  ·exact h
 have aVR := @aDT P gl C z e f p r s u d hp hs hd hr hu hf h0 hl
 by_cases hc : (dg (cZ d).natAbs).length ≤ 100
 ·have hw : false = (decide (-3000 ≤ f) && decide (f ≤ 3000)) := by
   have : ¬(-3000 ≤ f ∧ f ≤ 3000) := by rw [hf]; exact fun h => nA ⟨hc, h.1, h.2⟩
   rw [eq_comm, Bool.and_eq_false_iff, decide_eq_false_iff_not, decide_eq_false_iff_not]; omega
  clear nA aVR
  obtain ⟨rfl, hG⟩ := C
  refine eN (args := fun A => [.agg [B s, .lst p, I e]]) (R := fun A rr => rr = .tup [.agg [B false, .lst [], I 0], B false]) Tryz.hT Tryz.mix Tryz.func111 rfl rfl (Nat.le_of_ble_eq_true rfl) ?_
  generalize hP : Tryz.prog = P
  intro A hA
  have C : Tryz.Cx P gl := ⟨hP.symm, hG⟩
  have hI : aA = A.ints := by subst hA; rfl
  iterate 2 all_goals try cbv; with_reducible repeat' first | exact ⟨⟩ | apply And.intro | intro _
  all_goals try exact oH
  refine aD hA rfl (aDT C hp hs hd hr hu hf h0 hl) ?_; rintro _ rfl
  iterate 2 all_goals try cbv; with_reducible repeat' first | exact ⟨⟩ | apply And.intro | intro _
  all_goals try exact oH
  refine gO hA [] List.nodup_nil rfl rfl rfl (zU C hr hl2 hc) ?_; rintro _ _ ⟨rfl, rfl⟩; refine ⟨rfl, ?_⟩
  iterate 2 all_goals try cbv; with_reducible repeat' first | exact ⟨⟩ | apply And.intro | intro _
  all_goals try exact oH
  refine ⟨_, fun _ => gN C hw, ?_⟩
  iterate 2 all_goals try cbv; with_reducible repeat' first | exact ⟨⟩ | apply And.intro | intro _
  all_goals try exact oH
  iterate 2 all_goals try cbv; with_reducible repeat' first | exact ⟨⟩ | apply And.intro | intro _
  all_goals try exact oH
 ·have hc : 100 < (dg (cZ d).natAbs).length := by omega
  clear nA aVR
  refine gS C func111 rfl rfl rfl fun A hA hI => ?_
  iterate 2 all_goals try cbv; with_reducible repeat' first | exact ⟨⟩ | apply And.intro | intro _
  all_goals try exact oH
  refine aD hA rfl (aDT C hp hs hd hr hu hf h0 hl) ?_; rintro _ rfl
  iterate 2 all_goals try cbv; with_reducible repeat' first | exact ⟨⟩ | apply And.intro | intro _
  all_goals try exact oH
  refine aD hA rfl (aGI C hr hc hle) ?_; rintro _ rfl
  iterate 2 all_goals try cbv; with_reducible repeat' first | exact ⟨⟩ | apply And.intro | intro _
  all_goals try exact oH
  obtain ⟨w, hw⟩ : ∃ w, w = (decide (-3000 ≤ f) && decide (f ≤ 3000)) := ⟨_, rfl⟩
  refine ⟨_, fun _ => gN C hw, ?_⟩
  iterate 2 all_goals try cbv; with_reducible repeat' first | exact ⟨⟩ | apply And.intro | intro _
  all_goals try exact oH
  iterate 2 all_goals try cbv; with_reducible repeat' first | exact ⟨⟩ | apply And.intro | intro _
  all_goals try exact oH

end Tryz
end Go.Proofs

set_option maxHeartbeats 1000000
set_option maxRecDepth 100000
namespace Go.Proofs
open Go Go.Pe Go.Dg
namespace Tryz
set_option linter.unusedSimpArgs false
set_option linter.unusedVariables false
variable {P : Program} {gl : List (Nat × Obj)}

theorem aIY (C : Cx P gl) {e : Int} {p : List PV} {s : Bool} : FS P gl 84 [.agg [B s, .lst p, I e]] (· = .agg [B s, .lst p, I e]) := by
 refine gS C func84 rfl rfl rfl fun A hA hI => ?_
 iterate 2 all_goals try cbv; with_reducible repeat' first | exact ⟨⟩ | apply And.intro | intro _
 all_goals try exact oH
 iterate 2 all_goals try cbv; with_reducible repeat' first | exact ⟨⟩ | apply And.intro | intro _
 all_goals try exact oH

end Tryz
end Go.Proofs

set_option maxHeartbeats 1000000
set_option maxRecDepth 100000
namespace Go.Proofs
open Go Go.Pe Go.Dg
namespace Tryz
set_option linter.unusedSimpArgs false
set_option linter.unusedVariables false
variable {P : Program} {gl : List (Nat × Obj)}

theorem aI7 (C : Cx P gl) {x : Int} {b : Bool} (hb : b = (decide (0 ≤ x) && decide (x ≤ 65535))) : FS P gl 271 [I x] (· = B b) := by
 refine gS C func271 rfl rfl rfl fun A hA hI => ?_
 iterate 2 all_goals try cbv; with_reducible repeat' first | exact ⟨⟩ | apply And.intro | intro _
 all_goals try exact oH
 refine aD hA rfl (gN C hb) ?_; rintro _ rfl
 iterate 2 all_goals try cbv; with_reducible repeat' first | exact ⟨⟩ | apply And.intro | intro _
 all_goals try exact oH

theorem aGJ (C : Cx P gl) {x : Int} {b : Bool} (hb : b = (decide (0 ≤ x) && decide (x ≤ 65535))) : FS P gl 279 [I x, .ptr [.fn 271 []] 0] (· = B (!b)) := by
 refine gSa2 C (args := fun A => [I x, .ptr [.fn 271 []] 0]) (R := fun A rr => rr = B (A.bnot b)) func279 rfl rfl rfl fun A hA hI => ?_
 iterate 2 all_goals try cbv; with_reducible repeat' first | exact ⟨⟩ | apply And.intro | intro _
 all_goals try exact oH
 refine aD hA rfl (aI7 C hb) ?_; rintro _ rfl
 iterate 2 all_goals try cbv; with_reducible repeat' first | exact ⟨⟩ | apply And.intro | intro _
 all_goals try exact oH

theorem aA6 (C : Cx P gl) {l : List Int} {p : List PV} (hp : p = aA l) (hl : l.length ≤ 2000000) :
  FS P gl 280 [.lst p, .fn 279 [.ptr [.fn 271 []] 0]] (fun r => ∃ c, r = I c ∧ (0 ≤ c ↔ ¬Valid l)) := by
 refine gS C func280 rfl rfl rfl fun A hA hI => ?_
 iterate 2 all_goals try cbv; with_reducible repeat' first | exact ⟨⟩ | apply And.intro | intro _
 all_goals try exact oH
 refine aZ hA [] (ι := Int) (fun x => [(8, .pv (I x))]) (fun x => []) (fun x => (l.length - x).toNat) (fun x => aLZ l x) 0 (by rfl) ?_ ?_ ?_
 all_goals try exact tH
 ·exact aB4 l
 rintro i hinv
 have hi0 := hinv.1
 have hi1 := hinv.2.1
 obtain ⟨b, hb⟩ : ∃ b, b = (decide (0 ≤ l.getD i.toNat 0) && decide (l.getD i.toNat 0 ≤ 65535)) := ⟨_, rfl⟩
 iterate 2 all_goals try cbv; with_reducible repeat' first | exact ⟨⟩ | apply And.intro | intro _
 all_goals try exact oH
 iterate 2 all_goals try cbv; with_reducible repeat' first | exact ⟨⟩ | apply And.intro | intro _
 all_goals try exact oH
 ·have hi : i < l.length := by exact eH
  have e : A.gi (A.el p (A.nat i)) 0 = l.getD i.toNat 0 := by (subst hA; subst_vars; simp only [AR.std, bBG, sH, reduceCtorEq] at *; try simp (disch := omega) only [AR.std, bBG, sH, reduceCtorEq] at *)
  have hb' : b = (decide (0 ≤ A.gi (A.el p (A.nat i)) 0) && decide (A.gi (A.el p (A.nat i)) 0 ≤ 65535)) := by rw [e]; exact hb
  refine aD hA rfl (aGJ C hb') ?_; rintro _ rfl
  iterate 2 all_goals try cbv; with_reducible repeat' first | exact ⟨⟩ | apply And.intro | intro _
  all_goals try exact oH
  ·rename_i g
   have g : b = false := by cases b <;> first | rfl | exact absurd g (by decide)
   refine ⟨i, rfl, fun _ hv => ?_, fun _ => hi0⟩
   have := hv.get i.toNat
   rw [hb, decide_eq_true this.1, decide_eq_true (by omega)] at g
   exact absurd g (by decide)
  ·rename_i g
   have g : b = true := by cases b <;> first | rfl | exact absurd g (by decide)
   rw [hb, Bool.and_eq_true, decide_eq_true_eq, decide_eq_true_eq] at g
   obtain ⟨y1, hy1⟩ : ∃ y, y = i + 1 := ⟨_, rfl⟩
   refine ⟨⟨y1, ?_⟩, ?_, ?_⟩
   rotate_left
   ·cbv
    exact nH
   ·exact eH
   ·rw [hy1]; exact aB5 hinv hi g.1 (by omega)
 ·have hi : l.length ≤ i := by exact eH
  have hv := aB6 hinv hi
  exact ⟨-1, rfl, fun h => absurd h (by decide), fun h => absurd hv h⟩

end Tryz
end Go.Proofs

set_option maxHeartbeats 1000000
set_option maxRecDepth 100000
namespace Go.Proofs
open Go Go.Pe Go.Dg
namespace Tryz
set_option linter.unusedSimpArgs false
set_option linter.unusedVariables false
variable {P : Program} {gl : List (Nat × Obj)}

theorem vG (C : Cx P gl) {l : List Int} {p : List PV} {b : Bool} (hp : p = aA l) (hb : b = true ↔ Valid l) (hl : l.length ≤ 2000000) :
  FS P gl 278 [.lst p, .fn 279 [.ptr [.fn 271 []] 0]] (· = B (!b)) := by
 refine gSa2 C (args := fun A => [.lst p, .fn 279 [.ptr [.fn 271 []] 0]]) (R := fun A rr => rr = B (A.bnot b)) func278 rfl rfl rfl fun A hA hI => ?_
 iterate 2 all_goals try cbv; with_reducible repeat' first | exact ⟨⟩ | apply And.intro | intro _
 all_goals try exact oH
 refine aD hA rfl (aA6 C hp hl) ?_; rintro _ ⟨c, rfl, hc⟩
 iterate 2 all_goals try cbv; with_reducible repeat' first | exact ⟨⟩ | apply And.intro | intro _
 all_goals try exact oH
 have e : A.le 0 c = A.bnot b := by
  subst hA
  show decide (0 ≤ c) = !b
  rw [Bool.eq_iff_iff, decide_eq_true_eq, hc, ← hb]
  cases b <;> simp
 simp only [e]

theorem aDU (C : Cx P gl) {l : List Int} {p : List PV} {b : Bool} (hp : p = aA l) (hb : b = true ↔ Valid l) (hl : l.length ≤ 2000000) :
  FS P gl 270 [.lst p, .fn 271 []] (· = B b) := by
 refine gS C func270 rfl rfl rfl fun A hA hI => ?_
 iterate 2 all_goals try cbv; with_reducible repeat' first | exact ⟨⟩ | apply And.intro | intro _
 all_goals try exact oH
 refine aD hA rfl (vG C hp hb hl) ?_; rintro _ rfl
 iterate 2 all_goals try cbv; with_reducible repeat' first | exact ⟨⟩ | apply And.intro | intro _
 all_goals try exact oH
 subst hA; cases b <;> rfl

theorem aTC {A : AR} (hA : A = AR.std) {x y : Bool} (g1 : A.beq x true = true) (g2 : y = false) : A.andb (A.beq x true) (A.beq y false) = true := by
 subst hA g2
 cases x <;> first | rfl | exact absurd g1 (by decide)

theorem aDV (C : Cx P gl) {l : List Int} {p : List PV} {b : Bool} (hp : p = aA l) (hb : b = true ↔ yU l) (hl : l.length ≤ 2000000) :
  FS P gl 254 [.agg [.lst p]] (· = B b) := by
 obtain ⟨c, hc⟩ := fV (Valid l)
 refine gS C func254 rfl rfl rfl fun A hA hI => ?_
 iterate 2 all_goals try cbv; with_reducible repeat' first | exact ⟨⟩ | apply And.intro | intro _
 all_goals try exact oH
 refine ⟨_, fun _ => aDU C hp hc hl, ?_⟩
 iterate 2 all_goals try cbv; with_reducible repeat' first | exact ⟨⟩ | apply And.intro | intro _
 all_goals try exact oH
 ·rename_i g1 g2
  exact aTC hA g1 g2
 have hzl : A.le (A.cast (A.len p)) 100 = decide (l.length ≤ 100) := by
  by_cases h : l.length ≤ 100
  ·rw [decide_eq_true h]; exact eH
  ·rw [decide_eq_false h]; exact eH
 have hgt : l.length ≠ 0 → A.gi (A.el p (A.nat (A.sub .i64 (A.cast (A.len p)) 1))) 0 = l.getD (l.length - 1) 0 := by
  intro h
  have e0 : (l.length - 1 : Int).toNat = l.length - 1 := by omega
  clear hb hc hzl
  subst hA
  subst_vars
  simp only [AR.std, bBG, sH, reduceCtorEq] at *
  try simp (disch := omega) only [AR.std, bBG, sH, reduceCtorEq] at *
  rw [e0]
 have hez : A.eq (A.cast (A.len p)) 0 = decide (l.length = 0) := by
  by_cases h : l.length = 0
  ·rw [decide_eq_true h]; clear hgt; exact eH
  ·rw [decide_eq_false h]; clear hgt; exact eH
 have e : A.pick (A.pick (decide (l.length ≤ 100)) c false) (A.pick (decide (l.length = 0)) true (A.ne (A.gi (A.el p (A.nat (A.sub .i64 (A.cast (A.len p)) 1))) 0) 0)) false = b := by
  rw [Bool.eq_iff_iff, hb, yU]
  by_cases h1 : l.length ≤ 100
  ·by_cases h2 : c = true
   ·have hv := hc.1 h2
    by_cases h3 : l.length = 0
    ·subst hA; simp [AR.std, h1, h2, h3, hv]
    ·have := hv.get (l.length - 1)
     rw [hgt h3]
     clear hgt
     generalize l.getD (l.length - 1) 0 = y at *
     subst hA; simp [AR.std, h1, h2, h3, hv]; omega
   ·have h4 : ¬Valid l := fun h => h2 (hc.2 h)
    subst hA; simp [AR.std, h1, h2, h4]
  ·subst hA; simp [AR.std, h1]
 simp only [hzl, hez, e]

end Tryz
end Go.Proofs

set_option maxHeartbeats 1000000
set_option maxRecDepth 100000
namespace Go.Proofs
open Go Go.Pe Go.Dg
namespace Tryz
set_option linter.unusedSimpArgs false
set_option linter.unusedVariables false
variable {P : Program} {gl : List (Nat × Obj)}

theorem aUA {A : AR} (hA : A = AR.std) {p : List PV} {l : List Int} (hp : p = aA l) : A.eq (A.cast (A.len p)) 0 = decide (l.length = 0) := by
 by_cases h : l.length = 0
 ·rw [decide_eq_true h]; exact eH
 ·rw [decide_eq_false h]; exact eH

theorem zV (C : Cx P gl) {l : List Int} {p : List PV} {s b : Bool} (hp : p = aA l) (hb : b = true ↔ nM s l) (hl : l.length ≤ 2000000) :
  FS P gl 217 [.agg [B s, .lst p]] (· = B b) := by
 obtain ⟨c, hc⟩ := fV (yU l)
 have h1 : b = (c && !(s && decide (l.length = 0))) := by
  rw [Bool.eq_iff_iff, hb, nM, ← hc]
  cases s <;> cases c <;> simp
 clear hb
 refine gS C func217 rfl rfl rfl fun A hA hI => ?_
 iterate 2 all_goals try cbv; with_reducible repeat' first | exact ⟨⟩ | apply And.intro | intro _
 all_goals try exact oH
 refine aD hA rfl (aDV C hp hc hl) ?_; rintro _ rfl
 iterate 2 all_goals try cbv; with_reducible repeat' first | exact ⟨⟩ | apply And.intro | intro _
 all_goals try exact oH
 have e0 := aUA hA hp
 have e1 : A.pick c (A.bnot (A.pick s (decide (l.length = 0)) false)) false = b := by
  subst hA; rw [h1]; cases c <;> cases s <;> rfl
 simp only [e0, e1]

theorem aGK (C : Cx P gl) {l : List Int} {e : Int} {p : List PV} {s b : Bool} (hp : p = aA l) (hb : b = true ↔ wP s l e) (hl : l.length ≤ 2000000) :
  FS P gl 150 [.agg [B s, .lst p, I e]] (· = B b) := by
 obtain ⟨c, hc⟩ := fV (nM s l)
 obtain ⟨v, hv⟩ : ∃ v, v = (decide (-3000 ≤ e) && decide (e ≤ 3000)) := ⟨_, rfl⟩
 have h0 : c = false ∨ v = false → b = false := by
  intro h; cases b
  ·rfl
  ·obtain ⟨h1, h2, h3, _⟩ := hb.1 rfl
   rw [hc.2 h1, hv, decide_eq_true h2, decide_eq_true h3] at h
   simp at h
 have h4 : c = true → v = true → ∃ (n : Nat) (w : Int), l = dg n ∧ w = ((n / 2 ^ (0 : Int).toNat % 2 : Nat) : Int) ∧ b = (decide (w = 1) || (decide (l.length = 0) && decide (e = 0))) := by
  intro a1 a2
  rw [hv, Bool.and_eq_true, decide_eq_true_eq, decide_eq_true_eq] at a2
  obtain ⟨_, n, hn⟩ := tD.1 (hc.1 a1).1
  refine ⟨n, _, hn, rfl, ?_⟩
  have hz : l.length = 0 → n = 0 := by rw [hn, cO]; exact id
  rw [Bool.eq_iff_iff, hb, wP, Bool.or_eq_true, Bool.and_eq_true, decide_eq_true_eq, decide_eq_true_eq, decide_eq_true_eq, show val l = (n : Int) by rw [hn, aQ]]
  rw [show (0 : Int).toNat = 0 from rfl, Nat.pow_zero, Nat.div_one]
  constructor
  ·rintro ⟨_, _, _, h5, h6⟩
   by_cases h : l.length = 0
   ·exact .inr ⟨h, h5 h⟩
   ·left; have := h6 h; omega
  ·intro h
   refine ⟨hc.1 a1, a2.1, a2.2, fun h' => ?_, fun h' => ?_⟩
   ·rcases h with h | h
    ·have := hz h'; rw [this] at h; simp at h
    ·exact h.2
   ·rcases h with h | h
    ·omega
    ·exact absurd h.1 h'
 clear hb
 refine gS C func150 rfl rfl rfl fun A hA hI => ?_
 iterate 2 all_goals try cbv; with_reducible repeat' first | exact ⟨⟩ | apply And.intro | intro _
 all_goals try exact oH
 refine aD hA rfl (zV C hp hc hl) ?_; rintro _ rfl
 iterate 2 all_goals try cbv; with_reducible repeat' first | exact ⟨⟩ | apply And.intro | intro _
 all_goals try exact oH
 refine ⟨_, fun _ => gN C hv, ?_⟩
 iterate 2 all_goals try cbv; with_reducible repeat' first | exact ⟨⟩ | apply And.intro | intro _
 all_goals try exact oH
 iterate 2 all_goals try cbv; with_reducible repeat' first | exact ⟨⟩ | apply And.intro | intro _
 all_goals try exact oH
 ·rename_i g
  have g : c = false ∨ v = false := by subst hA; cases c <;> cases v <;> first | exact .inl rfl | exact .inr rfl | exact absurd g (by decide)
  rw [h0 g]
 ·rename_i g
  have g : c = true ∧ v = true := by subst hA; cases c <;> cases v <;> first | exact ⟨rfl, rfl⟩ | exact absurd g (by decide)
  obtain ⟨n, w, hn, hw, hbw⟩ := h4 g.1 g.2
  have fL := aD4 C (p := p) (by rw [hp, hn]) (Int.le_refl 0) (by decide) hw
  clear hw h4 h0
  refine aD hA rfl (fL) ?_; rintro _ rfl
  iterate 2 all_goals try cbv; with_reducible repeat' first | exact ⟨⟩ | apply And.intro | intro _
  all_goals try exact oH
  have e0 := aUA hA hp
  have e1 : A.pick (A.eq w 1) true (A.pick (decide (l.length = 0)) (A.eq e 0) false) = b := by
   rw [hbw]; subst hA
   show (bif decide (w = 1) then true else bif decide (l.length = 0) then decide (e = 0) else false) = _
   cases decide (w = 1) <;> cases decide (l.length = 0) <;> rfl
  simp only [e0, e1]

theorem zeroCells : wP false [] 0 := ⟨⟨⟨by decide, Valid.nil, .inl rfl⟩, by simp⟩, by decide, by decide, fun _ => rfl, fun h => absurd rfl h⟩

end Tryz
end Go.Proofs

