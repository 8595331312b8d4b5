/- Contracts: exact numbers. -/
import Derived.Test.YtlkiofkkjbodjaaGreatDoorDN8
import Derived.Test.YtlkiofkkjbodjaaGreatDoorDEvD
set_option maxHeartbeats 1000000
set_option maxRecDepth 100000
namespace Go.Proofs
open Go Go.Pe Go.Dg
namespace Tryz
set_option linter.unusedSimpArgs false
set_option linter.unusedVariables false
variable {P : Program} {gl : List (Nat × Obj)}

theorem NatOk_fs (C : Cx P gl) {l : List Int} {p : List PV} {b : Bool} (hp : p = intsL l) (hb : b = true ↔ natOk l) (hl : l.length ≤ 2000000) :
  FS P gl 228 [.agg [.lst p]] (· = B b) := by
 have f1 : 100 < l.length → b = false := by
  intro h; cases b
  ·rfl
  ·have := (hb.1 rfl).1; omega
 have f2 : ∀ i : Nat, i < l.length → (l.getD i 0 < 0 ∨ 65536 ≤ l.getD i 0) → b = false := by
  intro i hi h; cases b
  ·rfl
  ·have := (hb.1 rfl).2.1.get i; omega
 have f3 : Valid l → l.length ≤ 100 → (l.length = 0 ∨ 0 < l.getD (l.length - 1) 0) → b = true := fun h1 h2 h3 => hb.2 ⟨h2, h1, h3⟩
 have f4 : l.length ≠ 0 → l.getD (l.length - 1) 0 ≤ 0 → b = false := by
  intro h1 h2; cases b
  ·rfl
  ·have := (hb.1 rfl).2.2; omega
 clear hb
 refine gS C func228 rfl rfl rfl fun A hA hI => ?_
 iterate 2 all_goals try cbv; with_reducible repeat' first | exact ⟨⟩ | apply And.intro | intro _
 all_goals try exact oH
 iterate 2 all_goals try cbv; with_reducible repeat' first | exact ⟨⟩ | apply And.intro | intro _
 all_goals try exact oH
 ·rw [f1 (by exact eH)]
 have g1 : l.length ≤ 100 := by exact eH
 refine loopI hA [] (ι := Int) (fun x => [(3, .pv (I x))]) (fun x => []) (fun x => (l.length - x).toNat) (fun x => nokI l x) 0 (by rfl) ?_ ?_ ?_
 all_goals try exact tH
 ·exact nokI_zero l
 rintro i hinv
 have hi0 := hinv.1
 have hi1 := hinv.2.1
 iterate 2 all_goals try cbv; with_reducible repeat' first | exact ⟨⟩ | apply And.intro | intro _
 all_goals try exact oH
 iterate 2 all_goals try cbv; with_reducible repeat' first | exact ⟨⟩ | apply And.intro | intro _
 all_goals try exact oH
 ·have h1 : i < l.length := by exact eH
  have h : l.getD i.toNat 0 < 0 ∨ 65536 ≤ l.getD i.toNat 0 := by exact eH
  rw [f2 i.toNat (by omega) h]
 ·have h1 : i < l.length := by exact eH
  have h : 0 ≤ l.getD i.toNat 0 ∧ l.getD i.toNat 0 < 65536 := by exact eH
  obtain ⟨y1, hy1⟩ : ∃ y, y = i + 1 := ⟨_, rfl⟩
  refine ⟨⟨y1, ?_⟩, ?_, ?_⟩
  rotate_left
  ·cbv
   exact nH
  ·exact eH
  ·rw [hy1]; exact nokI_next hinv h1 h.1 h.2
 ·have h1 : l.length ≤ i := by exact eH
  have hv := nokI_exit hinv h1
  have e : A.pick (A.eq (A.cast (A.len p)) 0) true (A.lt 0 (A.gi (A.el p (A.nat (A.sub .i64 (A.cast (A.len p)) 1))) 0)) = b := by
   have e0 : (l.length - 1 : Int).toNat = l.length - 1 := by omega
   by_cases hc : l.length = 0
   ·rw [f3 hv g1 (.inl hc)]
    clear f1 f2 f3 f4 hinv hv
    exact eH
   ·by_cases hd : 0 < l.getD (l.length - 1) 0
    ·rw [f3 hv g1 (.inr hd)]
     clear f1 f2 f3 f4 hinv hv
     (subst hA; subst_vars; simp only [AR.std, natCast_eq, sH, reduceCtorEq] at *; try simp (disch := omega) only [AR.std, natCast_eq, sH, reduceCtorEq] at *); rw [e0]; omega
    ·rw [f4 hc (by omega)]
     clear f1 f2 f3 f4 hinv hv
     (subst hA; subst_vars; simp only [AR.std, natCast_eq, sH, reduceCtorEq] at *; try simp (disch := omega) only [AR.std, natCast_eq, sH, reduceCtorEq] at *); rw [e0]; omega
  simp only [e]

theorem len_d {A : AR} (hA : A = AR.std) {p : List PV} {l : List Int} (hp : p = intsL l) : A.lt 0 (A.cast (A.len p)) = decide (l.length ≠ 0) := by
 by_cases h : l.length = 0
 ·rw [decide_eq_false (by omega)]; exact eH
 ·rw [decide_eq_true h]; exact eH

theorem dyok_t {A : AR} (hA : A = AR.std) {c : Bool} {e : Int} (h : A.pick (A.pick (A.bnot c) true (A.lt e (-3000))) true (A.lt 3000 e) = true) : c = false ∨ e < -3000 ∨ 3000 < e := by
 subst hA; cases c
 ·exact .inl rfl
 ·right; simp only [AR.std, AR.std, natCast_eq, sH, reduceCtorEq] at h; simpa using h
theorem dyok_f {A : AR} (hA : A = AR.std) {c : Bool} {e : Int} (h : A.pick (A.pick (A.bnot c) true (A.lt e (-3000))) true (A.lt 3000 e) = false) : c = true ∧ -3000 ≤ e ∧ e ≤ 3000 := by
 subst hA; cases c
 ·exact absurd h (by simp [AR.std])
 ·simp [AR.std] at h; exact ⟨rfl, by omega, by omega⟩

theorem bool_of (p : Prop) : ∃ b : Bool, b = true ↔ p := by
 classical
 exact ⟨decide p, by simp⟩

theorem WholeOk_fs (C : Cx P gl) {l : List Int} {p : List PV} {s b : Bool} (hp : p = intsL l) (hb : b = true ↔ wholeOk s l) (hl : l.length ≤ 2000000) :
  FS P gl 167 [.agg [B s, .lst p]] (· = B b) := by
 obtain ⟨c, hc⟩ := bool_of (natOk l)
 have h1 : b = (c && (!s || decide (l.length ≠ 0))) := by
  rw [Bool.eq_iff_iff, hb, wholeOk, ← hc]
  cases s <;> cases c <;> simp
 clear hb
 refine gS C func167 rfl rfl rfl fun A hA hI => ?_
 iterate 2 all_goals try cbv; with_reducible repeat' first | exact ⟨⟩ | apply And.intro | intro _
 all_goals try exact oH
 refine callS hA rfl (NatOk_fs C hp hc hl) ?_; rintro _ rfl
 iterate 2 all_goals try cbv; with_reducible repeat' first | exact ⟨⟩ | apply And.intro | intro _
 all_goals try exact oH
 ·rename_i g1 g2
  subst hA
  cases c <;> cases s <;> first | rfl | exact absurd g1 (by decide) | exact absurd g2 (by decide)
 have e0 := len_d hA hp
 have e1 : A.pick c (A.pick (A.bnot s) true (decide (l.length ≠ 0))) false = b := by
  subst hA; rw [h1]; cases c <;> cases s <;> rfl
 simp only [e0, e1]

theorem DyOk_fs (C : Cx P gl) {l : List Int} {e : Int} {p : List PV} {s b : Bool} (hp : p = intsL l) (hb : b = true ↔ dyOk s l e) (hl : l.length ≤ 2000000) :
  FS P gl 91 [.agg [B s, .lst p, I e]] (· = B b) := by
 obtain ⟨c, hc⟩ := bool_of (wholeOk s l)
 have h1 : c = false → b = false := by
  intro h; cases b
  ·rfl
  ·have := hc.2 (hb.1 rfl).1; rw [h] at this; cases this
 have h2 : e < -3000 ∨ 3000 < e → b = false := by
  intro h; cases b
  ·rfl
  ·have := hb.1 rfl; have := this.2; omega
 have h3 : c = true → -3000 ≤ e → e ≤ 3000 → l.length = 0 → b = decide (e = 0) := by
  intro a1 a2 a3 a4
  rw [Bool.eq_iff_iff, hb, dyOk, decide_eq_true_eq]
  exact ⟨fun h => h.2.2.2.1 a4, fun h => ⟨hc.1 a1, a2, a3, fun _ => h, fun h => absurd a4 h⟩⟩
 have h4 : c = true → -3000 ≤ e → e ≤ 3000 → l.length ≠ 0 → ∃ (n : Nat) (w : Int), l = dg n ∧ w = ((n / 2 ^ (0 : Int).toNat % 2 : Nat) : Int) ∧ b = decide (w = 1) := by
  intro a1 a2 a3 a4
  obtain ⟨_, n, hn⟩ := natOk_dg.1 (hc.1 a1).1
  refine ⟨n, _, hn, rfl, ?_⟩
  rw [Bool.eq_iff_iff, hb, dyOk, decide_eq_true_eq, hn, val_dg]
  rw [← hn, show (0 : Int).toNat = 0 from rfl, Nat.pow_zero, Nat.div_one]
  exact ⟨fun h => by have := h.2.2.2.2 a4; omega, fun h => ⟨hc.1 a1, a2, a3, fun h => absurd h a4, fun _ => by omega⟩⟩
 clear hb
 refine gS C func91 rfl rfl rfl fun A hA hI => ?_
 iterate 2 all_goals try cbv; with_reducible repeat' first | exact ⟨⟩ | apply And.intro | intro _
 all_goals try exact oH
 refine callS hA rfl (WholeOk_fs C hp hc hl) ?_; rintro _ rfl
 iterate 2 all_goals try cbv; with_reducible repeat' first | exact ⟨⟩ | apply And.intro | intro _
 all_goals try exact oH
 ·rename_i g
  rcases dyok_t hA g with g | g
  ·rw [h1 g]
  ·rw [h2 g]
 ·rename_i g g2
  obtain ⟨g, ge1, ge2⟩ := dyok_f hA g
  have hz := len_t hA hp g2
  iterate 2 all_goals try cbv; with_reducible repeat' first | exact ⟨⟩ | apply And.intro | intro _
  all_goals try exact oH
  have e1 : A.eq e 0 = b := by rw [h3 g ge1 ge2 hz]; subst hA; rfl
  simp only [e1]
 ·rename_i g g2
  obtain ⟨g, ge1, ge2⟩ := dyok_f hA g
  have hz := len_f hA hp g2
  obtain ⟨n, w, hn, hw, hb⟩ := h4 g ge1 ge2 hz
  have hcall := l2bit_fs C (p := p) (by rw [hp, hn]) (Int.le_refl 0) (by decide) hw
  clear hw h1 h2 h3 h4
  iterate 2 all_goals try cbv; with_reducible repeat' first | exact ⟨⟩ | apply And.intro | intro _
  all_goals try exact oH
  refine callS hA rfl (hcall) ?_; rintro _ rfl
  iterate 2 all_goals try cbv; with_reducible repeat' first | exact ⟨⟩ | apply And.intro | intro _
  all_goals try exact oH
  have e1 : A.eq w 1 = b := by rw [hb]; subst hA; rfl
  simp only [e1]

end Tryz
end Go.Proofs

namespace Go.Proofs
open Go Go.Pe Go.Dg
namespace Tryz
set_option linter.unusedSimpArgs false
set_option linter.unusedVariables false
variable {P : Program} {gl : List (Nat × Obj)}

end Tryz
end Go.Proofs

set_option maxHeartbeats 1000000
set_option maxRecDepth 100000
namespace Go.Proofs
open Go Go.Pe Go.Dg
namespace Tryz
set_option linter.unusedSimpArgs false
set_option linter.unusedVariables false
variable {P : Program} {gl : List (Nat × Obj)}

theorem negated_fs (C : Cx P gl) {z e : Int} {p : List PV} {s s' : Bool} (hp : p = intsL (dg z.natAbs)) (hs : s = decide (z < 0)) (hs' : s' = decide (0 < z)) (hl : (dg z.natAbs).length ≤ 1000000000) :
  FS P gl 219 [.agg [B s, .lst p, I e]] (· = .agg [B s', .lst p, I e]) := by
 have h0 : s' = (!s && decide ((dg z.natAbs).length ≠ 0)) := by
  have h : decide ((dg z.natAbs).length ≠ 0) = decide (z ≠ 0) := by rw [decide_eq_decide, ne_eq, dg_len0]; omega
  rw [h, hs, hs', Bool.eq_iff_iff]
  simp only [Bool.and_eq_true, Bool.not_eq_true', decide_eq_true_eq, decide_eq_false_iff_not]
  omega
 clear hs hs'
 refine gS C func219 rfl rfl rfl fun A hA hI => ?_
 iterate 2 all_goals try cbv; with_reducible repeat' first | exact ⟨⟩ | apply And.intro | intro _
 all_goals try exact oH
 have e0 := len_d hA hp
 have e1 : A.pick (A.bnot s) (decide ((dg z.natAbs).length ≠ 0)) false = s' := by subst hA; rw [h0]; cases s <;> rfl
 simp only [e0, e1]

theorem min_std2 (a b : Int) : AR.std.min a b = min a b := by show (if b < a then b else a) = _; split <;> omega

theorem max_sub {A : AR} (hA : A = AR.std) {a w e : Int} (hw : w = e) (h1 : a.natAbs ≤ 100000) (h2 : e.natAbs ≤ 100000) : A.max (A.sub .i64 a w) 0 = max (a - e) 0 := by
 subst hA hw
 have h : AR.std.sub .i64 a w = a - w := wrapi (by omega) (by omega)
 rw [h]
 show (if (0 : Int) > a - w then (0 : Int) else a - w) = _
 split <;> omega

theorem aligned_fs (C : Cx P gl) {z1 e1 z2 e2 x y e : Int} {p q p' q' : List PV} {s t : Bool} (hp : p = intsL (dg z1.natAbs)) (hq : q = intsL (dg z2.natAbs))
  (hI : alignI z2 e2 z1 e1 y x e) (hp' : p' = intsL (dg x.natAbs)) (hq' : q' = intsL (dg y.natAbs))
  (h1 : e1.natAbs ≤ 100000) (h2 : e2.natAbs ≤ 100000) (hl : (dg z1.natAbs).length ≤ 1000000) (hm : (dg z2.natAbs).length ≤ 1000000) :
  FS P gl 156 [.agg [B s, .lst p, I e1], .agg [B t, .lst q, I e2]] (· = .tup [.lst p', .lst q', I e]) := by
 obtain ⟨u1, u2, d1, d2, d3⟩ := align_up hI
 have b3 := (align_len hI hm hl h2 h1).2.2
 have hx := valid_dg z1.natAbs
 have hy := valid_dg z2.natAbs
 have k1 : (dg z1.natAbs).length = 0 ↔ z1 = 0 := by rw [dg_len0]; omega
 have k2 : (dg z2.natAbs).length = 0 ↔ z2 = 0 := by rw [dg_len0]; omega
 have v1 : val (dg z1.natAbs) * 2 ^ (max (e1 - e) 0).toNat = (x.natAbs : Nat) := by rw [val_dg, ← u1, Int.natCast_mul, Int.natCast_pow]; rfl
 have v2 : val (dg z2.natAbs) * 2 ^ (max (e2 - e) 0).toNat = (y.natAbs : Nat) := by rw [val_dg, ← u2, Int.natCast_mul, Int.natCast_pow]; rfl
 clear hI u1 u2
 refine gS C func156 rfl rfl rfl fun A hA hI => ?_
 iterate 2 all_goals try cbv; with_reducible repeat' first | exact ⟨⟩ | apply And.intro | intro _
 all_goals try exact oH
 iterate 2 all_goals try cbv; with_reducible repeat' first | exact ⟨⟩ | apply And.intro | intro _
 all_goals try exact oH
 ·rename_i g1 g2
  have hw : e1 = e := (d1 (k2.1 (len_t hA hq g2))).symm
  refine ⟨_, up_fs C hp hx (max_sub hA hw h1 b3) v1 hp' (by omega) (by omega) (by omega), ?_⟩
  iterate 2 all_goals try cbv; with_reducible repeat' first | exact ⟨⟩ | apply And.intro | intro _
  all_goals try exact oH
  refine ⟨_, up_fs C hq hy (max_sub hA hw h2 b3) v2 hq' (by omega) (by omega) (by omega), ?_⟩
  iterate 2 all_goals try cbv; with_reducible repeat' first | exact ⟨⟩ | apply And.intro | intro _
  all_goals try exact oH
  simp only [hw]
 ·rename_i g1 g2
  have hw : e2 = e := (d2 (fun h => len_f hA hq g2 (k2.2 h)) (k1.1 (len_t hA hp g1))).symm
  refine ⟨_, up_fs C hp hx (max_sub hA hw h1 b3) v1 hp' (by omega) (by omega) (by omega), ?_⟩
  iterate 2 all_goals try cbv; with_reducible repeat' first | exact ⟨⟩ | apply And.intro | intro _
  all_goals try exact oH
  refine ⟨_, up_fs C hq hy (max_sub hA hw h2 b3) v2 hq' (by omega) (by omega) (by omega), ?_⟩
  iterate 2 all_goals try cbv; with_reducible repeat' first | exact ⟨⟩ | apply And.intro | intro _
  all_goals try exact oH
  simp only [hw]
 ·rename_i g1 g2
  have hw : e1 = e := (d1 (k2.1 (len_t hA hq g2))).symm
  refine ⟨_, up_fs C hp hx (max_sub hA hw h1 b3) v1 hp' (by omega) (by omega) (by omega), ?_⟩
  iterate 2 all_goals try cbv; with_reducible repeat' first | exact ⟨⟩ | apply And.intro | intro _
  all_goals try exact oH
  refine ⟨_, up_fs C hq hy (max_sub hA hw h2 b3) v2 hq' (by omega) (by omega) (by omega), ?_⟩
  iterate 2 all_goals try cbv; with_reducible repeat' first | exact ⟨⟩ | apply And.intro | intro _
  all_goals try exact oH
  simp only [hw]
 ·rename_i g1 g2
  have hw : A.min e1 e2 = e := by rw [d3 (fun h => len_f hA hq g2 (k2.2 h)) (fun h => len_f hA hp g1 (k1.2 h))]; subst hA; exact min_std2 _ _
  refine ⟨_, up_fs C hp hx (max_sub hA hw h1 b3) v1 hp' (by omega) (by omega) (by omega), ?_⟩
  iterate 2 all_goals try cbv; with_reducible repeat' first | exact ⟨⟩ | apply And.intro | intro _
  all_goals try exact oH
  refine ⟨_, up_fs C hq hy (max_sub hA hw h2 b3) v2 hq' (by omega) (by omega) (by omega), ?_⟩
  iterate 2 all_goals try cbv; with_reducible repeat' first | exact ⟨⟩ | apply And.intro | intro _
  all_goals try exact oH
  simp only [hw]

end Tryz
end Go.Proofs

