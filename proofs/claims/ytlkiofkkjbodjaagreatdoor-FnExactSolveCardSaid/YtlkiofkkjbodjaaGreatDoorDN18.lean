/- Contracts: lists whose elements all are in form. -/
import Derived.Test.YtlkiofkkjbodjaaGreatDoorDN15
set_option maxHeartbeats 1000000
set_option maxRecDepth 100000
namespace Go.Proofs
open Go Go.Pe Go.Dg
namespace Tryz
set_option linter.unusedSimpArgs false
set_option linter.unusedVariables false
variable {P : Program} {gl : List (Nat × Obj)}

theorem dyn_fs (C : Cx P gl) {z e : Int} {p : List PV} {s : Bool} (hp : p = intsL (dg z.natAbs)) (hs : s = decide (z < 0))
  (h0 : e.natAbs ≤ 1000000000) (hl : (dg z.natAbs).length ≤ 10000000) (hn : z ≠ 0) (hfit : ¬fits (mk z e)) :
  FS P gl 111 [.agg [B s, .lst p, I e]] (· = .tup [.agg [B false, .lst [], I 0], B false]) := by
 obtain ⟨d, hd⟩ : ∃ d, d = mk z e := ⟨_, rfl⟩
 obtain ⟨r, hr⟩ : ∃ r, r = intsL (dg (cZ d).natAbs) := ⟨_, rfl⟩
 obtain ⟨u, hu⟩ : ∃ u, u = decide (cZ d < 0) := ⟨_, rfl⟩
 obtain ⟨f, hf⟩ : ∃ f, f = cE d := ⟨_, rfl⟩
 rw [← hd] at hfit
 have hle : (dg (cZ d).natAbs).length ≤ 1000000000 := by
  rw [hd]; have := dg_len_mono (cZ_le z e); omega
 have hl2 : 0 < (dg (cZ d).natAbs).length := by
  rcases Nat.eq_zero_or_pos (dg (cZ d).natAbs).length with h | h
  ·rw [dg_len0] at h
   have : d = 0 := cZ_eq_zero.1 (by omega)
   rw [this, ← mk_zero e, mk_inj] at hd
   exact absurd hd.symm hn
  ·exact h
 have hodd := @odd_fs P gl C z e f p r s u d hp hs hd hr hu hf h0 hl
 by_cases hc : (dg (cZ d).natAbs).length ≤ 100
 ·have hw : false = (decide (-3000 ≤ f) && decide (f ≤ 3000)) := by
   have : ¬(-3000 ≤ f ∧ f ≤ 3000) := by rw [hf]; exact fun h => hfit ⟨hc, h.1, h.2⟩
   rw [eq_comm, Bool.and_eq_false_iff, decide_eq_false_iff_not, decide_eq_false_iff_not]; omega
  clear hfit hodd
  obtain ⟨rfl, hG⟩ := C
  refine FS_ofT (args := fun A => [.agg [B s, .lst p, I e]]) (R := fun A rr => rr = .tup [.agg [B false, .lst [], I 0], B false]) Tryz.hT Tryz.mix Tryz.func111 rfl rfl (Nat.le_of_ble_eq_true rfl) ?_
  generalize hP : Tryz.prog = P
  intro A hA
  have C : Tryz.Cx P gl := ⟨hP.symm, hG⟩
  have hI : intsL = A.ints := by subst hA; rfl
  iterate 2 all_goals try cbv; with_reducible repeat' first | exact ⟨⟩ | apply And.intro | intro _
  all_goals try exact oH
  refine callS hA rfl (odd_fs C hp hs hd hr hu hf h0 hl) ?_; rintro _ rfl
  iterate 2 all_goals try cbv; with_reducible repeat' first | exact ⟨⟩ | apply And.intro | intro _
  all_goals try exact oH
  refine callX hA [] List.nodup_nil rfl rfl rfl (wholeOf_fx C hr hl2 hc) ?_; rintro _ _ ⟨rfl, rfl⟩; refine ⟨rfl, ?_⟩
  iterate 2 all_goals try cbv; with_reducible repeat' first | exact ⟨⟩ | apply And.intro | intro _
  all_goals try exact oH
  refine ⟨_, fun _ => within_fs C hw, ?_⟩
  iterate 2 all_goals try cbv; with_reducible repeat' first | exact ⟨⟩ | apply And.intro | intro _
  all_goals try exact oH
  iterate 2 all_goals try cbv; with_reducible repeat' first | exact ⟨⟩ | apply And.intro | intro _
  all_goals try exact oH
 ·have hc : 100 < (dg (cZ d).natAbs).length := by omega
  clear hfit hodd
  refine gS C func111 rfl rfl rfl fun A hA hI => ?_
  iterate 2 all_goals try cbv; with_reducible repeat' first | exact ⟨⟩ | apply And.intro | intro _
  all_goals try exact oH
  refine callS hA rfl (odd_fs C hp hs hd hr hu hf h0 hl) ?_; rintro _ rfl
  iterate 2 all_goals try cbv; with_reducible repeat' first | exact ⟨⟩ | apply And.intro | intro _
  all_goals try exact oH
  refine callS hA rfl (wholeOfn_fs C hr hc hle) ?_; rintro _ rfl
  iterate 2 all_goals try cbv; with_reducible repeat' first | exact ⟨⟩ | apply And.intro | intro _
  all_goals try exact oH
  obtain ⟨w, hw⟩ : ∃ w, w = (decide (-3000 ≤ f) && decide (f ≤ 3000)) := ⟨_, rfl⟩
  refine ⟨_, fun _ => within_fs C hw, ?_⟩
  iterate 2 all_goals try cbv; with_reducible repeat' first | exact ⟨⟩ | apply And.intro | intro _
  all_goals try exact oH
  iterate 2 all_goals try cbv; with_reducible repeat' first | exact ⟨⟩ | apply And.intro | intro _
  all_goals try exact oH

end Tryz
end Go.Proofs

set_option maxHeartbeats 1000000
set_option maxRecDepth 100000
namespace Go.Proofs
open Go Go.Pe Go.Dg
namespace Tryz
set_option linter.unusedSimpArgs false
set_option linter.unusedVariables false
variable {P : Program} {gl : List (Nat × Obj)}

theorem dyExact_fs (C : Cx P gl) {e : Int} {p : List PV} {s : Bool} : FS P gl 84 [.agg [B s, .lst p, I e]] (· = .agg [B s, .lst p, I e]) := by
 refine gS C func84 rfl rfl rfl fun A hA hI => ?_
 iterate 2 all_goals try cbv; with_reducible repeat' first | exact ⟨⟩ | apply And.intro | intro _
 all_goals try exact oH
 iterate 2 all_goals try cbv; with_reducible repeat' first | exact ⟨⟩ | apply And.intro | intro _
 all_goals try exact oH

end Tryz
end Go.Proofs

set_option maxHeartbeats 1000000
set_option maxRecDepth 100000
namespace Go.Proofs
open Go Go.Pe Go.Dg
namespace Tryz
set_option linter.unusedSimpArgs false
set_option linter.unusedVariables false
variable {P : Program} {gl : List (Nat × Obj)}

theorem digitIs_fs (C : Cx P gl) {x : Int} {b : Bool} (hb : b = (decide (0 ≤ x) && decide (x ≤ 65535))) : FS P gl 271 [I x] (· = B b) := by
 refine gS C func271 rfl rfl rfl fun A hA hI => ?_
 iterate 2 all_goals try cbv; with_reducible repeat' first | exact ⟨⟩ | apply And.intro | intro _
 all_goals try exact oH
 refine callS hA rfl (within_fs C hb) ?_; rintro _ rfl
 iterate 2 all_goals try cbv; with_reducible repeat' first | exact ⟨⟩ | apply And.intro | intro _
 all_goals try exact oH

theorem notDigit_fs (C : Cx P gl) {x : Int} {b : Bool} (hb : b = (decide (0 ≤ x) && decide (x ≤ 65535))) : FS P gl 279 [I x, .ptr [.fn 271 []] 0] (· = B (!b)) := by
 refine gSa C (args := fun A => [I x, .ptr [.fn 271 []] 0]) (R := fun A rr => rr = B (A.bnot b)) func279 rfl rfl rfl fun A hA hI => ?_
 iterate 2 all_goals try cbv; with_reducible repeat' first | exact ⟨⟩ | apply And.intro | intro _
 all_goals try exact oH
 refine callS hA rfl (digitIs_fs C hb) ?_; rintro _ rfl
 iterate 2 all_goals try cbv; with_reducible repeat' first | exact ⟨⟩ | apply And.intro | intro _
 all_goals try exact oH

theorem indexDigit_fs (C : Cx P gl) {l : List Int} {p : List PV} (hp : p = intsL l) (hl : l.length ≤ 2000000) :
  FS P gl 280 [.lst p, .fn 279 [.ptr [.fn 271 []] 0]] (fun r => ∃ c, r = I c ∧ (0 ≤ c ↔ ¬Valid l)) := by
 refine gS C func280 rfl rfl rfl fun A hA hI => ?_
 iterate 2 all_goals try cbv; with_reducible repeat' first | exact ⟨⟩ | apply And.intro | intro _
 all_goals try exact oH
 refine loopI hA [] (ι := Int) (fun x => [(8, .pv (I x))]) (fun x => []) (fun x => (l.length - x).toNat) (fun x => nokI l x) 0 (by rfl) ?_ ?_ ?_
 all_goals try exact tH
 ·exact nokI_zero l
 rintro i hinv
 have hi0 := hinv.1
 have hi1 := hinv.2.1
 obtain ⟨b, hb⟩ : ∃ b, b = (decide (0 ≤ l.getD i.toNat 0) && decide (l.getD i.toNat 0 ≤ 65535)) := ⟨_, rfl⟩
 iterate 2 all_goals try cbv; with_reducible repeat' first | exact ⟨⟩ | apply And.intro | intro _
 all_goals try exact oH
 iterate 2 all_goals try cbv; with_reducible repeat' first | exact ⟨⟩ | apply And.intro | intro _
 all_goals try exact oH
 ·have hi : i < l.length := by exact eH
  have e : A.gi (A.el p (A.nat i)) 0 = l.getD i.toNat 0 := by (subst hA; subst_vars; simp only [AR.std, natCast_eq, sH, reduceCtorEq] at *; try simp (disch := omega) only [AR.std, natCast_eq, sH, reduceCtorEq] at *)
  have hb' : b = (decide (0 ≤ A.gi (A.el p (A.nat i)) 0) && decide (A.gi (A.el p (A.nat i)) 0 ≤ 65535)) := by rw [e]; exact hb
  refine callS hA rfl (notDigit_fs C hb') ?_; rintro _ rfl
  iterate 2 all_goals try cbv; with_reducible repeat' first | exact ⟨⟩ | apply And.intro | intro _
  all_goals try exact oH
  ·rename_i g
   have g : b = false := by cases b <;> first | rfl | exact absurd g (by decide)
   refine ⟨i, rfl, fun _ hv => ?_, fun _ => hi0⟩
   have := hv.get i.toNat
   rw [hb, decide_eq_true this.1, decide_eq_true (by omega)] at g
   exact absurd g (by decide)
  ·rename_i g
   have g : b = true := by cases b <;> first | rfl | exact absurd g (by decide)
   rw [hb, Bool.and_eq_true, decide_eq_true_eq, decide_eq_true_eq] at g
   obtain ⟨y1, hy1⟩ : ∃ y, y = i + 1 := ⟨_, rfl⟩
   refine ⟨⟨y1, ?_⟩, ?_, ?_⟩
   rotate_left
   ·cbv
    exact nH
   ·exact eH
   ·rw [hy1]; exact nokI_next hinv hi g.1 (by omega)
 ·have hi : l.length ≤ i := by exact eH
  have hv := nokI_exit hinv hi
  exact ⟨-1, rfl, fun h => absurd h (by decide), fun h => absurd hv h⟩

end Tryz
end Go.Proofs

