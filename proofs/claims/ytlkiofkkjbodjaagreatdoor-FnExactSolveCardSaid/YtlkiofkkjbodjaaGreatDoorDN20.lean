/- Contracts: forms of wholes and dyadic numbers, as the program tells them. -/
import Derived.Test.YtlkiofkkjbodjaaGreatDoorDN18
set_option maxHeartbeats 1000000
set_option maxRecDepth 100000
namespace Go.Proofs
open Go Go.Pe Go.Dg
namespace Tryz
set_option linter.unusedSimpArgs false
set_option linter.unusedVariables false
variable {P : Program} {gl : List (Nat × Obj)}

theorem containsDigit_fs (C : Cx P gl) {l : List Int} {p : List PV} {b : Bool} (hp : p = intsL l) (hb : b = true ↔ Valid l) (hl : l.length ≤ 2000000) :
  FS P gl 278 [.lst p, .fn 279 [.ptr [.fn 271 []] 0]] (· = B (!b)) := by
 refine gSa C (args := fun A => [.lst p, .fn 279 [.ptr [.fn 271 []] 0]]) (R := fun A rr => rr = B (A.bnot b)) func278 rfl rfl rfl fun A hA hI => ?_
 iterate 2 all_goals try cbv; with_reducible repeat' first | exact ⟨⟩ | apply And.intro | intro _
 all_goals try exact oH
 refine callS hA rfl (indexDigit_fs C hp hl) ?_; rintro _ ⟨c, rfl, hc⟩
 iterate 2 all_goals try cbv; with_reducible repeat' first | exact ⟨⟩ | apply And.intro | intro _
 all_goals try exact oH
 have e : A.le 0 c = A.bnot b := by
  subst hA
  show decide (0 ≤ c) = !b
  rw [Bool.eq_iff_iff, decide_eq_true_eq, hc, ← hb]
  cases b <;> simp
 simp only [e]

theorem areDigits_fs (C : Cx P gl) {l : List Int} {p : List PV} {b : Bool} (hp : p = intsL l) (hb : b = true ↔ Valid l) (hl : l.length ≤ 2000000) :
  FS P gl 270 [.lst p, .fn 271 []] (· = B b) := by
 refine gS C func270 rfl rfl rfl fun A hA hI => ?_
 iterate 2 all_goals try cbv; with_reducible repeat' first | exact ⟨⟩ | apply And.intro | intro _
 all_goals try exact oH
 refine callS hA rfl (containsDigit_fs C hp hb hl) ?_; rintro _ rfl
 iterate 2 all_goals try cbv; with_reducible repeat' first | exact ⟨⟩ | apply And.intro | intro _
 all_goals try exact oH
 subst hA; cases b <;> rfl

theorem andb_of {A : AR} (hA : A = AR.std) {x y : Bool} (g1 : A.beq x true = true) (g2 : y = false) : A.andb (A.beq x true) (A.beq y false) = true := by
 subst hA g2
 cases x <;> first | rfl | exact absurd g1 (by decide)

theorem implNatOk_fs (C : Cx P gl) {l : List Int} {p : List PV} {b : Bool} (hp : p = intsL l) (hb : b = true ↔ natOk l) (hl : l.length ≤ 2000000) :
  FS P gl 254 [.agg [.lst p]] (· = B b) := by
 obtain ⟨c, hc⟩ := bool_of (Valid l)
 refine gS C func254 rfl rfl rfl fun A hA hI => ?_
 iterate 2 all_goals try cbv; with_reducible repeat' first | exact ⟨⟩ | apply And.intro | intro _
 all_goals try exact oH
 refine ⟨_, fun _ => areDigits_fs C hp hc hl, ?_⟩
 iterate 2 all_goals try cbv; with_reducible repeat' first | exact ⟨⟩ | apply And.intro | intro _
 all_goals try exact oH
 ·rename_i g1 g2
  exact andb_of hA g1 g2
 have hzl : A.le (A.cast (A.len p)) 100 = decide (l.length ≤ 100) := by
  by_cases h : l.length ≤ 100
  ·rw [decide_eq_true h]; exact eH
  ·rw [decide_eq_false h]; exact eH
 have hgt : l.length ≠ 0 → A.gi (A.el p (A.nat (A.sub .i64 (A.cast (A.len p)) 1))) 0 = l.getD (l.length - 1) 0 := by
  intro h
  have e0 : (l.length - 1 : Int).toNat = l.length - 1 := by omega
  clear hb hc hzl
  subst hA
  subst_vars
  simp only [AR.std, natCast_eq, sH, reduceCtorEq] at *
  try simp (disch := omega) only [AR.std, natCast_eq, sH, reduceCtorEq] at *
  rw [e0]
 have hez : A.eq (A.cast (A.len p)) 0 = decide (l.length = 0) := by
  by_cases h : l.length = 0
  ·rw [decide_eq_true h]; clear hgt; exact eH
  ·rw [decide_eq_false h]; clear hgt; exact eH
 have e : A.pick (A.pick (decide (l.length ≤ 100)) c false) (A.pick (decide (l.length = 0)) true (A.ne (A.gi (A.el p (A.nat (A.sub .i64 (A.cast (A.len p)) 1))) 0) 0)) false = b := by
  rw [Bool.eq_iff_iff, hb, natOk]
  by_cases h1 : l.length ≤ 100
  ·by_cases h2 : c = true
   ·have hv := hc.1 h2
    by_cases h3 : l.length = 0
    ·subst hA; simp [AR.std, h1, h2, h3, hv]
    ·have := hv.get (l.length - 1)
     rw [hgt h3]
     clear hgt
     generalize l.getD (l.length - 1) 0 = y at *
     subst hA; simp [AR.std, h1, h2, h3, hv]; omega
   ·have h4 : ¬Valid l := fun h => h2 (hc.2 h)
    subst hA; simp [AR.std, h1, h2, h4]
  ·subst hA; simp [AR.std, h1]
 simp only [hzl, hez, e]

end Tryz
end Go.Proofs

set_option maxHeartbeats 1000000
set_option maxRecDepth 100000
namespace Go.Proofs
open Go Go.Pe Go.Dg
namespace Tryz
set_option linter.unusedSimpArgs false
set_option linter.unusedVariables false
variable {P : Program} {gl : List (Nat × Obj)}

theorem len_z {A : AR} (hA : A = AR.std) {p : List PV} {l : List Int} (hp : p = intsL l) : A.eq (A.cast (A.len p)) 0 = decide (l.length = 0) := by
 by_cases h : l.length = 0
 ·rw [decide_eq_true h]; exact eH
 ·rw [decide_eq_false h]; exact eH

theorem implWholeOk_fs (C : Cx P gl) {l : List Int} {p : List PV} {s b : Bool} (hp : p = intsL l) (hb : b = true ↔ wholeOk s l) (hl : l.length ≤ 2000000) :
  FS P gl 217 [.agg [B s, .lst p]] (· = B b) := by
 obtain ⟨c, hc⟩ := bool_of (natOk l)
 have h1 : b = (c && !(s && decide (l.length = 0))) := by
  rw [Bool.eq_iff_iff, hb, wholeOk, ← hc]
  cases s <;> cases c <;> simp
 clear hb
 refine gS C func217 rfl rfl rfl fun A hA hI => ?_
 iterate 2 all_goals try cbv; with_reducible repeat' first | exact ⟨⟩ | apply And.intro | intro _
 all_goals try exact oH
 refine callS hA rfl (implNatOk_fs C hp hc hl) ?_; rintro _ rfl
 iterate 2 all_goals try cbv; with_reducible repeat' first | exact ⟨⟩ | apply And.intro | intro _
 all_goals try exact oH
 have e0 := len_z hA hp
 have e1 : A.pick c (A.bnot (A.pick s (decide (l.length = 0)) false)) false = b := by
  subst hA; rw [h1]; cases c <;> cases s <;> rfl
 simp only [e0, e1]

theorem implDyOk_fs (C : Cx P gl) {l : List Int} {e : Int} {p : List PV} {s b : Bool} (hp : p = intsL l) (hb : b = true ↔ dyOk s l e) (hl : l.length ≤ 2000000) :
  FS P gl 150 [.agg [B s, .lst p, I e]] (· = B b) := by
 obtain ⟨c, hc⟩ := bool_of (wholeOk s l)
 obtain ⟨v, hv⟩ : ∃ v, v = (decide (-3000 ≤ e) && decide (e ≤ 3000)) := ⟨_, rfl⟩
 have h0 : c = false ∨ v = false → b = false := by
  intro h; cases b
  ·rfl
  ·obtain ⟨h1, h2, h3, _⟩ := hb.1 rfl
   rw [hc.2 h1, hv, decide_eq_true h2, decide_eq_true h3] at h
   simp at h
 have h4 : c = true → v = true → ∃ (n : Nat) (w : Int), l = dg n ∧ w = ((n / 2 ^ (0 : Int).toNat % 2 : Nat) : Int) ∧ b = (decide (w = 1) || (decide (l.length = 0) && decide (e = 0))) := by
  intro a1 a2
  rw [hv, Bool.and_eq_true, decide_eq_true_eq, decide_eq_true_eq] at a2
  obtain ⟨_, n, hn⟩ := natOk_dg.1 (hc.1 a1).1
  refine ⟨n, _, hn, rfl, ?_⟩
  have hz : l.length = 0 → n = 0 := by rw [hn, dg_len0]; exact id
  rw [Bool.eq_iff_iff, hb, dyOk, Bool.or_eq_true, Bool.and_eq_true, decide_eq_true_eq, decide_eq_true_eq, decide_eq_true_eq, show val l = (n : Int) by rw [hn, val_dg]]
  rw [show (0 : Int).toNat = 0 from rfl, Nat.pow_zero, Nat.div_one]
  constructor
  ·rintro ⟨_, _, _, h5, h6⟩
   by_cases h : l.length = 0
   ·exact .inr ⟨h, h5 h⟩
   ·left; have := h6 h; omega
  ·intro h
   refine ⟨hc.1 a1, a2.1, a2.2, fun h' => ?_, fun h' => ?_⟩
   ·rcases h with h | h
    ·have := hz h'; rw [this] at h; simp at h
    ·exact h.2
   ·rcases h with h | h
    ·omega
    ·exact absurd h.1 h'
 clear hb
 refine gS C func150 rfl rfl rfl fun A hA hI => ?_
 iterate 2 all_goals try cbv; with_reducible repeat' first | exact ⟨⟩ | apply And.intro | intro _
 all_goals try exact oH
 refine callS hA rfl (implWholeOk_fs C hp hc hl) ?_; rintro _ rfl
 iterate 2 all_goals try cbv; with_reducible repeat' first | exact ⟨⟩ | apply And.intro | intro _
 all_goals try exact oH
 refine ⟨_, fun _ => within_fs C hv, ?_⟩
 iterate 2 all_goals try cbv; with_reducible repeat' first | exact ⟨⟩ | apply And.intro | intro _
 all_goals try exact oH
 iterate 2 all_goals try cbv; with_reducible repeat' first | exact ⟨⟩ | apply And.intro | intro _
 all_goals try exact oH
 ·rename_i g
  have g : c = false ∨ v = false := by subst hA; cases c <;> cases v <;> first | exact .inl rfl | exact .inr rfl | exact absurd g (by decide)
  rw [h0 g]
 ·rename_i g
  have g : c = true ∧ v = true := by subst hA; cases c <;> cases v <;> first | exact ⟨rfl, rfl⟩ | exact absurd g (by decide)
  obtain ⟨n, w, hn, hw, hbw⟩ := h4 g.1 g.2
  have hcall := bitOf_fs C (p := p) (by rw [hp, hn]) (Int.le_refl 0) (by decide) hw
  clear hw h4 h0
  refine callS hA rfl (hcall) ?_; rintro _ rfl
  iterate 2 all_goals try cbv; with_reducible repeat' first | exact ⟨⟩ | apply And.intro | intro _
  all_goals try exact oH
  have e0 := len_z hA hp
  have e1 : A.pick (A.eq w 1) true (A.pick (decide (l.length = 0)) (A.eq e 0) false) = b := by
   rw [hbw]; subst hA
   show (bif decide (w = 1) then true else bif decide (l.length = 0) then decide (e = 0) else false) = _
   cases decide (w = 1) <;> cases decide (l.length = 0) <;> rfl
  simp only [e0, e1]

theorem zeroCells : dyOk false [] 0 := ⟨⟨⟨by decide, Valid.nil, .inl rfl⟩, by simp⟩, by decide, by decide, fun _ => rfl, fun h => absurd rfl h⟩

end Tryz
end Go.Proofs

