/- Contracts: the reference's forms. -/
import Derived.Test.YtlkiofkkjbodjaaGreatDoorAN8
import Derived.Test.YtlkiofkkjbodjaaGreatDoorAEvD
set_option maxHeartbeats 1000000
set_option maxRecDepth 100000
namespace Go.Proofs
open Go Go.Pe Go.Dg
namespace Tryz
set_option linter.unusedSimpArgs false
set_option linter.unusedVariables false
variable {P : Program} {gl : List (Nat × Obj)}

theorem NatOk_fs (C : Cx P gl) {l : List Int} {p : List PV} {b : Bool} (hp : p = intsL l) (hb : b = true ↔ natOk l) (hl : l.length ≤ 2000000) :
  FS P gl 228 [.agg [.lst p]] (· = B b) := by
 have f1 : 100 < l.length → b = false := by
  intro h; cases b
  ·rfl
  ·have := (hb.1 rfl).1; omega
 have f2 : ∀ i : Nat, i < l.length → (l.getD i 0 < 0 ∨ 65536 ≤ l.getD i 0) → b = false := by
  intro i hi h; cases b
  ·rfl
  ·have := (hb.1 rfl).2.1.get i; omega
 have f3 : Valid l → l.length ≤ 100 → (l.length = 0 ∨ 0 < l.getD (l.length - 1) 0) → b = true := fun h1 h2 h3 => hb.2 ⟨h2, h1, h3⟩
 have f4 : l.length ≠ 0 → l.getD (l.length - 1) 0 ≤ 0 → b = false := by
  intro h1 h2; cases b
  ·rfl
  ·have := (hb.1 rfl).2.2; omega
 clear hb
 obtain ⟨rfl, hG⟩ := C
 refine FS_ofT (args := fun A => [.agg [.lst p]]) (R := fun A rr => rr = B b) Tryz.hT Tryz.mix Tryz.func228 rfl rfl (Nat.le_of_ble_eq_true rfl) ?_
 generalize hP : Tryz.prog = P
 intro A hA
 have C : Tryz.Cx P gl := ⟨hP.symm, hG⟩
 have hI : intsL = A.ints := by subst hA; rfl
 iterate 2 (all_goals try cbv; all_goals with_reducible repeat' first | exact True.intro | refine And.intro ?_ ?_ | intro _)
 all_goals try exact oH
 iterate 2 (all_goals try cbv; all_goals with_reducible repeat' first | exact True.intro | refine And.intro ?_ ?_ | intro _)
 all_goals try exact oH
 ·rw [f1 (by (subst hA; subst_vars; simp only [AR.std, natCast_eq, sH, reduceCtorEq] at *; try simp (disch := omega) only [AR.std, natCast_eq, sH, reduceCtorEq] at *); omega)]
 have g1 : l.length ≤ 100 := by (subst hA; subst_vars; simp only [AR.std, natCast_eq, sH, reduceCtorEq] at *; try simp (disch := omega) only [AR.std, natCast_eq, sH, reduceCtorEq] at *); omega
 refine loopI hA [] (ι := Int) (fun x => [(3, .pv (I x))]) (fun x => []) (fun x => (l.length - x).toNat) (fun x => nokI l x) 0 (by rfl) ?_ ?_ ?_
 all_goals try exact tH
 ·exact nokI_zero l
 rintro i hinv
 have hi0 := hinv.1
 have hi1 := hinv.2.1
 iterate 2 (all_goals try cbv; all_goals with_reducible repeat' first | exact True.intro | refine And.intro ?_ ?_ | intro _)
 all_goals try exact oH
 iterate 2 (all_goals try cbv; all_goals with_reducible repeat' first | exact True.intro | refine And.intro ?_ ?_ | intro _)
 all_goals try exact oH
 ·have h1 : i < l.length := by (subst hA; subst_vars; simp only [AR.std, natCast_eq, sH, reduceCtorEq] at *; try simp (disch := omega) only [AR.std, natCast_eq, sH, reduceCtorEq] at *); omega
  have h : l.getD i.toNat 0 < 0 ∨ 65536 ≤ l.getD i.toNat 0 := by (subst hA; subst_vars; simp only [AR.std, natCast_eq, sH, reduceCtorEq] at *; try simp (disch := omega) only [AR.std, natCast_eq, sH, reduceCtorEq] at *); omega
  rw [f2 i.toNat (by omega) h]
 ·have h1 : i < l.length := by (subst hA; subst_vars; simp only [AR.std, natCast_eq, sH, reduceCtorEq] at *; try simp (disch := omega) only [AR.std, natCast_eq, sH, reduceCtorEq] at *); omega
  have h : 0 ≤ l.getD i.toNat 0 ∧ l.getD i.toNat 0 < 65536 := by (subst hA; subst_vars; simp only [AR.std, natCast_eq, sH, reduceCtorEq] at *; try simp (disch := omega) only [AR.std, natCast_eq, sH, reduceCtorEq] at *); omega
  obtain ⟨y1, hy1⟩ : ∃ y, y = i + 1 := ⟨_, rfl⟩
  refine ⟨⟨y1, ?_⟩, ?_, ?_⟩
  rotate_left
  ·cbv
   exact nH
  ·(subst hA; subst_vars; simp only [AR.std, natCast_eq, sH, reduceCtorEq] at *; try simp (disch := omega) only [AR.std, natCast_eq, sH, reduceCtorEq] at *); omega
  ·rw [hy1]; exact nokI_next hinv h1 h.1 h.2
 ·have h1 : l.length ≤ i := by (subst hA; subst_vars; simp only [AR.std, natCast_eq, sH, reduceCtorEq] at *; try simp (disch := omega) only [AR.std, natCast_eq, sH, reduceCtorEq] at *); omega
  have hv := nokI_exit hinv h1
  have e : A.pick (A.eq (A.cast (A.len p)) 0) true (A.lt 0 (A.gi (A.el p (A.nat (A.sub .i64 (A.cast (A.len p)) 1))) 0)) = b := by
   have e0 : (l.length - 1 : Int).toNat = l.length - 1 := by omega
   by_cases hc : l.length = 0
   ·rw [f3 hv g1 (.inl hc)]
    clear f1 f2 f3 f4 hinv hv
    (subst hA; subst_vars; simp only [AR.std, natCast_eq, sH, reduceCtorEq] at *; try simp (disch := omega) only [AR.std, natCast_eq, sH, reduceCtorEq] at *); omega
   ·by_cases hd : 0 < l.getD (l.length - 1) 0
    ·rw [f3 hv g1 (.inr hd)]
     clear f1 f2 f3 f4 hinv hv
     (subst hA; subst_vars; simp only [AR.std, natCast_eq, sH, reduceCtorEq] at *; try simp (disch := omega) only [AR.std, natCast_eq, sH, reduceCtorEq] at *); rw [e0]; omega
    ·rw [f4 hc (by omega)]
     clear f1 f2 f3 f4 hinv hv
     (subst hA; subst_vars; simp only [AR.std, natCast_eq, sH, reduceCtorEq] at *; try simp (disch := omega) only [AR.std, natCast_eq, sH, reduceCtorEq] at *); rw [e0]; omega
  simp only [e]

theorem len_d {A : AR} (hA : A = AR.std) {p : List PV} {l : List Int} (hp : p = intsL l) : A.lt 0 (A.cast (A.len p)) = decide (l.length ≠ 0) := by
 by_cases h : l.length = 0
 ·rw [decide_eq_false (by omega)]; (subst hA; subst_vars; simp only [AR.std, natCast_eq, sH, reduceCtorEq] at *; try simp (disch := omega) only [AR.std, natCast_eq, sH, reduceCtorEq] at *); omega
 ·rw [decide_eq_true h]; (subst hA; subst_vars; simp only [AR.std, natCast_eq, sH, reduceCtorEq] at *; try simp (disch := omega) only [AR.std, natCast_eq, sH, reduceCtorEq] at *); omega

theorem dyok_t {A : AR} (hA : A = AR.std) {c : Bool} {e : Int} (h : A.pick (A.pick (A.bnot c) true (A.lt e (-3000))) true (A.lt 3000 e) = true) : c = false ∨ e < -3000 ∨ 3000 < e := by
 subst hA; cases c
 ·exact .inl rfl
 ·right; simp only [AR.std, AR.std, natCast_eq, sH, reduceCtorEq] at h; simpa using h
theorem dyok_f {A : AR} (hA : A = AR.std) {c : Bool} {e : Int} (h : A.pick (A.pick (A.bnot c) true (A.lt e (-3000))) true (A.lt 3000 e) = false) : c = true ∧ -3000 ≤ e ∧ e ≤ 3000 := by
 subst hA; cases c
 ·exact absurd h (by simp [AR.std])
 ·simp [AR.std] at h; exact ⟨rfl, by omega, by omega⟩

theorem bool_of (p : Prop) : ∃ b : Bool, b = true ↔ p := by
 classical
 exact ⟨decide p, by simp⟩

theorem WholeOk_fs (C : Cx P gl) {l : List Int} {p : List PV} {s b : Bool} (hp : p = intsL l) (hb : b = true ↔ wholeOk s l) (hl : l.length ≤ 2000000) :
  FS P gl 167 [.agg [B s, .lst p]] (· = B b) := by
 obtain ⟨c, hc⟩ := bool_of (natOk l)
 have h1 : b = (c && (!s || decide (l.length ≠ 0))) := by
  rw [Bool.eq_iff_iff, hb, wholeOk, ← hc]
  cases s <;> cases c <;> simp
 clear hb
 obtain ⟨rfl, hG⟩ := C
 refine FS_ofT (args := fun A => [.agg [B s, .lst p]]) (R := fun A rr => rr = B b) Tryz.hT Tryz.mix Tryz.func167 rfl rfl (Nat.le_of_ble_eq_true rfl) ?_
 generalize hP : Tryz.prog = P
 intro A hA
 have C : Tryz.Cx P gl := ⟨hP.symm, hG⟩
 have hI : intsL = A.ints := by subst hA; rfl
 iterate 2 (all_goals try cbv; all_goals with_reducible repeat' first | exact True.intro | refine And.intro ?_ ?_ | intro _)
 all_goals try exact oH
 refine callS hA rfl (NatOk_fs C hp hc hl) ?_; rintro _ rfl
 iterate 2 (all_goals try cbv; all_goals with_reducible repeat' first | exact True.intro | refine And.intro ?_ ?_ | intro _)
 all_goals try exact oH
 ·rename_i g1 g2
  subst hA
  cases c <;> cases s <;> first | rfl | exact absurd g1 (by decide) | exact absurd g2 (by decide)
 have e0 := len_d hA hp
 have e1 : A.pick c (A.pick (A.bnot s) true (decide (l.length ≠ 0))) false = b := by
  subst hA; rw [h1]; cases c <;> cases s <;> rfl
 simp only [e0, e1]

theorem DyOk_fs (C : Cx P gl) {l : List Int} {e : Int} {p : List PV} {s b : Bool} (hp : p = intsL l) (hb : b = true ↔ dyOk s l e) (hl : l.length ≤ 2000000) :
  FS P gl 91 [.agg [B s, .lst p, I e]] (· = B b) := by
 obtain ⟨c, hc⟩ := bool_of (wholeOk s l)
 have h1 : c = false → b = false := by
  intro h; cases b
  ·rfl
  ·have := hc.2 (hb.1 rfl).1; rw [h] at this; cases this
 have h2 : e < -3000 ∨ 3000 < e → b = false := by
  intro h; cases b
  ·rfl
  ·have := hb.1 rfl; have := this.2; omega
 have h3 : c = true → -3000 ≤ e → e ≤ 3000 → l.length = 0 → b = decide (e = 0) := by
  intro a1 a2 a3 a4
  rw [Bool.eq_iff_iff, hb, dyOk, decide_eq_true_eq]
  exact ⟨fun h => h.2.2.2.1 a4, fun h => ⟨hc.1 a1, a2, a3, fun _ => h, fun h => absurd a4 h⟩⟩
 have h4 : c = true → -3000 ≤ e → e ≤ 3000 → l.length ≠ 0 → ∃ (n : Nat) (w : Int), l = dg n ∧ w = ((n / 2 ^ (0 : Int).toNat % 2 : Nat) : Int) ∧ b = decide (w = 1) := by
  intro a1 a2 a3 a4
  obtain ⟨_, n, hn⟩ := natOk_dg.1 (hc.1 a1).1
  refine ⟨n, _, hn, rfl, ?_⟩
  rw [Bool.eq_iff_iff, hb, dyOk, decide_eq_true_eq, hn, val_dg]
  rw [← hn, show (0 : Int).toNat = 0 from rfl, Nat.pow_zero, Nat.div_one]
  exact ⟨fun h => by have := h.2.2.2.2 a4; omega, fun h => ⟨hc.1 a1, a2, a3, fun h => absurd h a4, fun _ => by omega⟩⟩
 clear hb
 obtain ⟨rfl, hG⟩ := C
 refine FS_ofT (args := fun A => [.agg [B s, .lst p, I e]]) (R := fun A rr => rr = B b) Tryz.hT Tryz.mix Tryz.func91 rfl rfl (Nat.le_of_ble_eq_true rfl) ?_
 generalize hP : Tryz.prog = P
 intro A hA
 have C : Tryz.Cx P gl := ⟨hP.symm, hG⟩
 have hI : intsL = A.ints := by subst hA; rfl
 iterate 2 (all_goals try cbv; all_goals with_reducible repeat' first | exact True.intro | refine And.intro ?_ ?_ | intro _)
 all_goals try exact oH
 refine callS hA rfl (WholeOk_fs C hp hc hl) ?_; rintro _ rfl
 iterate 2 (all_goals try cbv; all_goals with_reducible repeat' first | exact True.intro | refine And.intro ?_ ?_ | intro _)
 all_goals try exact oH
 ·rename_i g
  rcases dyok_t hA g with g | g
  ·rw [h1 g]
  ·rw [h2 g]
 ·rename_i g g2
  obtain ⟨g, ge1, ge2⟩ := dyok_f hA g
  have hz := len_t hA hp g2
  iterate 2 (all_goals try cbv; all_goals with_reducible repeat' first | exact True.intro | refine And.intro ?_ ?_ | intro _)
  all_goals try exact oH
  have e1 : A.eq e 0 = b := by rw [h3 g ge1 ge2 hz]; subst hA; rfl
  simp only [e1]
 ·rename_i g g2
  obtain ⟨g, ge1, ge2⟩ := dyok_f hA g
  have hz := len_f hA hp g2
  obtain ⟨n, w, hn, hw, hb⟩ := h4 g ge1 ge2 hz
  have hcall := l2bit_fs C (p := p) (by rw [hp, hn]) (Int.le_refl 0) (by decide) hw
  clear hw h1 h2 h3 h4
  iterate 2 (all_goals try cbv; all_goals with_reducible repeat' first | exact True.intro | refine And.intro ?_ ?_ | intro _)
  all_goals try exact oH
  refine callS hA rfl (hcall) ?_; rintro _ rfl
  iterate 2 (all_goals try cbv; all_goals with_reducible repeat' first | exact True.intro | refine And.intro ?_ ?_ | intro _)
  all_goals try exact oH
  have e1 : A.eq w 1 = b := by rw [hb]; subst hA; rfl
  simp only [e1]

end Tryz
end Go.Proofs
