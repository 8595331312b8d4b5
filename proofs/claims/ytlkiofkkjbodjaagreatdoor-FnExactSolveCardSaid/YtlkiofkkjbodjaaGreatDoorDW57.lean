/- The walk of the law FnExactSolve, out of contracts of the two functions that it compares. -/
import Derived.Test.YtlkiofkkjbodjaaGreatDoorDP2
import Derived.Test.YtlkiofkkjbodjaaGreatDoorDN40a
import Derived.Test.YtlkiofkkjbodjaaGreatDoorDP3
import Derived.Test.YtlkiofkkjbodjaaGreatDoorDM1
import Derived.Test.YtlkiofkkjbodjaaGreatDoorDM2
import Derived.Test.YtlkiofkkjbodjaaGreatDoorDM3
set_option maxHeartbeats 4000000
set_option maxRecDepth 100000
namespace Go.Proofs
open Go Go.Pe Go.Dg
namespace Tryz
set_option linter.unusedSimpArgs false
set_option linter.unusedVariables false
variable {P : Program} {gl : List (Nat × Obj)}

theorem lawL_fs (C : Cx P gl) {l0 : List Cell3} {p0 : List PV} {n0 : Int} {l1 : List Cell3} {p1 : List PV} {n2 : Int} (hp0 : p0 = cells3 l0) (hp1 : p1 = cells3 l1)
  (hb_l0 : l0.length ≤ 9223372036854775807) (hb_l1 : l1.length ≤ 9223372036854775807) (hyb0 : ∀ y ∈ l0, y.2.1.length ≤ 9223372036854775807) (hyb1 : ∀ y ∈ l1, y.2.1.length ≤ 9223372036854775807) (hbig : 1048576 < l0.length + tot l0 + l1.length + tot l1) :
  FS P gl 6 [.agg [I n0, .lst p0], .lst p1, I n2] (· = B true) := by
 obtain ⟨k1, hk1⟩ : ∃ k : Int, k = if (l0.length : Int) + tot l0 ≤ (1048576 : Int) then (1048576 : Int) - l0.length - tot l0 else -1 := ⟨_, rfl⟩
 have hc1 : ((l0.length : Int) + tot l0 ≤ (1048576 : Int) ∧ k1 = (1048576 : Int) - l0.length - tot l0) ∨ ((1048576 : Int) < (l0.length : Int) + tot l0 ∧ k1 = -1) := by
  rw [hk1]; split
  ·exact .inl ⟨by assumption, rfl⟩
  ·exact .inr ⟨by omega, rfl⟩
 obtain ⟨k2, hk2⟩ : ∃ k : Int, k = if (l1.length : Int) + tot l1 ≤ k1 then k1 - l1.length - tot l1 else -1 := ⟨_, rfl⟩
 have hc2 : ((l1.length : Int) + tot l1 ≤ k1 ∧ k2 = k1 - l1.length - tot l1) ∨ (k1 < (l1.length : Int) + tot l1 ∧ k2 = -1) := by
  rw [hk2]; split
  ·exact .inl ⟨by assumption, rfl⟩
  ·exact .inr ⟨by omega, rfl⟩
 have hu1 : k1 ≤ 1048576 := by omega
 have hu2 : k2 ≤ 1048576 := by omega
 have hfin : 0 ≤ k1 → k2 = -1 := by omega
 clear hc1 hc2
 refine gS C func6 rfl rfl rfl fun A hA hI => ?_
 iterate 2 all_goals try cbv; with_reducible repeat' first | exact ⟨⟩ | apply And.intro | intro _
 all_goals try exact oI
 refine callS hA rfl (szMat_fs C hp0 (by omega) hyb0 (by decide) (by decide) hk1) ?_; rintro _ rfl
 iterate 2 all_goals try cbv; with_reducible repeat' first | exact ⟨⟩ | apply And.intro | intro _
 all_goals try exact oI
 rename_i g
 have g1 : 0 ≤ k1 := by clear hfin hk1 hk2; (subst hA; subst_vars; simp only [AR.std, natCast_eq, sI, reduceCtorEq] at *; try simp (disch := omega) only [AR.std, natCast_eq, sI, reduceCtorEq] at *); omega
 clear g
 refine callS hA rfl (szDyS_fs C hp1 (by omega) hyb1 g1 hu1 hk2) ?_; rintro _ rfl
 iterate 2 all_goals try cbv; with_reducible repeat' first | exact ⟨⟩ | apply And.intro | intro _
 all_goals try exact oI
 all_goals (exfalso; rename_i g; have hz := hfin g1; clear hfin hk1 hk2; (subst hA; subst_vars; simp only [AR.std, natCast_eq, sI, reduceCtorEq] at *; try simp (disch := omega) only [AR.std, natCast_eq, sI, reduceCtorEq] at *); omega)

theorem law_o_fs (C : Cx P gl) {l0 : List Cell3} {p0 : List PV} {n0 : Int} {l1 : List Cell3} {p1 : List PV} {n2 : Int} {r : List PV} {o : List Cell6} {w : Bool} (hp0 : p0 = cells3 l0) (hp1 : p1 = cells3 l1) (hr_r : r = cells6 o) (ho_o : o.length ≤ 100) (hoy : ∀ y ∈ o, y.1.2.1.length ≤ 100 ∧ y.2.2.1.length ≤ 100)
  (hbig : l0.length + tot l0 + l1.length + tot l1 ≤ 1048576)
  (hspec : ∀ P', Cx P' gl → FS P' gl 22 [.agg [I n0, .lst p0], .lst p1, I n2] (· = .tup [.lst r, B w]))
  (himpl : ∀ P', Cx P' gl → FN P' gl 25 [.agg [I n0, .lst p0], .lst p1, I n2] (fun own rr => own = [.tree 110 6 3 r] ∧ rr = .tup [.own 0, .pv (B w)])) :
  FS P gl 6 [.agg [I n0, .lst p0], .lst p1, I n2] (· = B true) := by
 obtain ⟨k1, hk1⟩ : ∃ k : Int, k = if (l0.length : Int) + tot l0 ≤ (1048576 : Int) then (1048576 : Int) - l0.length - tot l0 else -1 := ⟨_, rfl⟩
 have hc1 : ((l0.length : Int) + tot l0 ≤ (1048576 : Int) ∧ k1 = (1048576 : Int) - l0.length - tot l0) ∨ ((1048576 : Int) < (l0.length : Int) + tot l0 ∧ k1 = -1) := by
  rw [hk1]; split
  ·exact .inl ⟨by assumption, rfl⟩
  ·exact .inr ⟨by omega, rfl⟩
 obtain ⟨k2, hk2⟩ : ∃ k : Int, k = if (l1.length : Int) + tot l1 ≤ k1 then k1 - l1.length - tot l1 else -1 := ⟨_, rfl⟩
 have hc2 : ((l1.length : Int) + tot l1 ≤ k1 ∧ k2 = k1 - l1.length - tot l1) ∨ (k1 < (l1.length : Int) + tot l1 ∧ k2 = -1) := by
  rw [hk2]; split
  ·exact .inl ⟨by assumption, rfl⟩
  ·exact .inr ⟨by omega, rfl⟩
 have hz1 : 0 ≤ k1 := by omega
 have hu1 : k1 ≤ 1048576 := by omega
 have hz2 : 0 ≤ k2 := by omega
 have hu2 : k2 ≤ 1048576 := by omega
 clear hc1 hc2
 have hy0 : ∀ y ∈ l0, y.2.1.length ≤ 2000000 := fun y hy => Nat.le_trans (tot_mem hy) (by omega)
 have hyb0 : ∀ y ∈ l0, y.2.1.length ≤ 9223372036854775807 := fun y hy => Nat.le_trans (hy0 y hy) (by decide)
 have ht0 : tot l0 ≤ 2000000 := by omega
 have hy1 : ∀ y ∈ l1, y.2.1.length ≤ 2000000 := fun y hy => Nat.le_trans (tot_mem hy) (by omega)
 have hyb1 : ∀ y ∈ l1, y.2.1.length ≤ 9223372036854775807 := fun y hy => Nat.le_trans (hy1 y hy) (by decide)
 have ht1 : tot l1 ≤ 2000000 := by omega
 obtain ⟨a1, ha1⟩ : ∃ x, x = cells3 (mkL3 l0 1) := ⟨_, rfl⟩
 obtain ⟨c1, hc1⟩ : ∃ c : Int, c = 1 + 2 * l0.length + tot l0 := ⟨_, rfl⟩
 obtain ⟨a2, ha2⟩ : ∃ x, x = cells3 (mkL3 l1 c1) := ⟨_, rfl⟩
 obtain ⟨c2, hc2⟩ : ∃ c : Int, c = c1 + 2 * l1.length + tot l1 := ⟨_, rfl⟩
 have hcn : 0 ≤ c2 := by omega
 have hb_l0 : l0.length ≤ 2000000 := by omega
 have hb_l1 : l1.length ≤ 2000000 := by omega
 have hmark0 := fun (P' : Program) (C' : Cx P' gl) => @markMat_fx P' gl C' l0 p0 a1 1 c1 n0 hp0 ha1 hc1 hb_l0 ht0 (by decide) (by decide)
 have hmark1 := fun (P' : Program) (C' : Cx P' gl) => @markDyS_fx P' gl C' l1 p1 a2 c1 c2 hp1 ha2 hc2 hb_l1 ht1 (by omega) (by omega)
 have hto : tot6 o ≤ 20000 := tot6_bound (fun v hv => by have := hoy v hv; unfold dig6; omega) ho_o
 obtain ⟨b1, hb1⟩ : ∃ x, x = cells6 (mkL6 o 1) := ⟨_, rfl⟩
 obtain ⟨d1, hd1⟩ : ∃ c : Int, c = 1 + 4 * o.length + tot6 o := ⟨_, rfl⟩
 have hdn1 : 0 ≤ d1 := by omega
 have hb_o : o.length ≤ 2000000 := by omega
 have hoy2 : ∀ y ∈ o, y.1.2.1.length ≤ 2000000 ∧ y.2.2.1.length ≤ 2000000 := fun y hy => by have := hoy y hy; omega
 have hmarkr := fun (P' : Program) (C' : Cx P' gl) => @markIvS_fx P' gl C' o r b1 1 d1 hr_r hb1 hd1 hb_o (by omega) (by decide) (by decide)
 have hheld := fun (P' : Program) (C' : Cx P' gl) => @heldIvS_fs P' gl C' o b1 1 d1 hb1 hd1 hb_o (by omega) (by decide) (by decide)
 refine gS C func6 rfl rfl rfl fun A hA hI => ?_
 iterate 2 all_goals try cbv; with_reducible repeat' first | exact ⟨⟩ | apply And.intro | intro _
 all_goals try exact oI
 refine callS hA rfl (szMat_fs C hp0 (by omega) hyb0 (by decide) (by decide) hk1) ?_; rintro _ rfl
 clear hk1
 iterate 2 all_goals try cbv; with_reducible repeat' first | exact ⟨⟩ | apply And.intro | intro _
 all_goals try exact oI
 refine callS hA rfl (szDyS_fs C hp1 (by omega) hyb1 hz1 hu1 hk2) ?_; rintro _ rfl
 clear hk2
 iterate 2 all_goals try cbv; with_reducible repeat' first | exact ⟨⟩ | apply And.intro | intro _
 all_goals try exact oI
 refine callN hA rfl (toMat_fn C hp0 hb_l0 hy0) ?_; rintro _ _ ⟨rfl, rfl⟩; refine ⟨rfl, ?_⟩
 iterate 2 all_goals try cbv; with_reducible repeat' first | exact ⟨⟩ | apply And.intro | intro _
 all_goals try exact oI
 refine callN hA rfl (toDyS_fn C hp1 hb_l1 hy1) ?_; rintro _ _ ⟨rfl, rfl⟩; refine ⟨rfl, ?_⟩
 iterate 2 all_goals try cbv; with_reducible repeat' first | exact ⟨⟩ | apply And.intro | intro _
 all_goals try exact oI
 refine callS hA rfl (hspec P C) ?_; rintro _ rfl
 iterate 2 all_goals try cbv; with_reducible repeat' first | exact ⟨⟩ | apply And.intro | intro _
 all_goals try exact oI
 refine callN hA rfl (toMat_fn C hp0 hb_l0 hy0) ?_; rintro _ _ ⟨rfl, rfl⟩; refine ⟨rfl, ?_⟩
 iterate 2 all_goals try cbv; with_reducible repeat' first | exact ⟨⟩ | apply And.intro | intro _
 all_goals try exact oI
 refine callN hA rfl (toDyS_fn C hp1 hb_l1 hy1) ?_; rintro _ _ ⟨rfl, rfl⟩; refine ⟨rfl, ?_⟩
 iterate 2 all_goals try cbv; with_reducible repeat' first | exact ⟨⟩ | apply And.intro | intro _
 all_goals try exact oI
 refine callN hA rfl (himpl P C) ?_; rintro _ _ ⟨rfl, rfl⟩; refine ⟨rfl, ?_⟩
 iterate 2 all_goals try cbv; with_reducible repeat' first | exact ⟨⟩ | apply And.intro | intro _
 all_goals try exact oI
 refine callB hA rfl (eqIvS_fs C hr_r hb_o hoy2) ?_; rintro _ rfl; refine ⟨⟨_, rfl⟩, ?_⟩
 iterate 2 all_goals try cbv; with_reducible repeat' first | exact ⟨⟩ | apply And.intro | intro _
 all_goals try exact oI
 refine ⟨_, toMat_fs C hp0 hb_l0 hy0, ?_⟩
 iterate 2 all_goals try cbv; with_reducible repeat' first | exact ⟨⟩ | apply And.intro | intro _
 all_goals try exact oI
 refine callB hA rfl (eqMat_fs C hp0 hb_l0 hy0) ?_; rintro _ rfl; refine ⟨⟨_, rfl⟩, ?_⟩
 iterate 2 all_goals try cbv; with_reducible repeat' first | exact ⟨⟩ | apply And.intro | intro _
 all_goals try exact oI
 refine callS hA rfl (toDyS_fs C hp1 hb_l1 hy1) ?_; rintro _ rfl
 iterate 2 all_goals try cbv; with_reducible repeat' first | exact ⟨⟩ | apply And.intro | intro _
 all_goals try exact oI
 refine callB hA rfl (eqDyS_fs C hp1 hb_l1 hy1) ?_; rintro _ rfl; refine ⟨⟨_, rfl⟩, ?_⟩
 iterate 2 all_goals try cbv; with_reducible repeat' first | exact ⟨⟩ | apply And.intro | intro _
 all_goals try exact oI
 refine callX hA [3] (by decide) rfl rfl rfl (hmark0 P C) ?_
 rintro _ _ ⟨rfl, rfl⟩
 refine ⟨rfl, ?_⟩
 iterate 2 all_goals try cbv; with_reducible repeat' first | exact ⟨⟩ | apply And.intro | intro _
 all_goals try exact oI
 refine callX hA [5] (by decide) rfl rfl rfl (hmark1 P C) ?_
 rintro _ _ ⟨rfl, rfl⟩
 refine ⟨rfl, ?_⟩
 iterate 2 all_goals try cbv; with_reducible repeat' first | exact ⟨⟩ | apply And.intro | intro _
 all_goals try exact oI
 refine ⟨_, fun _ => eqIvS_fs C hr_r hb_o hoy2, ⟨_, rfl⟩, ?_⟩
 iterate 2 all_goals try cbv; with_reducible repeat' first | exact ⟨⟩ | apply And.intro | intro _
 all_goals try exact oI
 refine callX hA [6] (by decide) rfl rfl rfl (hmarkr P C) ?_
 rintro _ _ ⟨rfl, rfl⟩
 refine ⟨rfl, ?_⟩
 iterate 2 all_goals try cbv; with_reducible repeat' first | exact ⟨⟩ | apply And.intro | intro _
 all_goals try exact oI
 refine callB hA rfl (hheld P C) ?_; rintro _ rfl; refine ⟨⟨_, rfl⟩, ?_⟩
 iterate 2 all_goals try cbv; with_reducible repeat' first | exact ⟨⟩ | apply And.intro | intro _
 all_goals try exact oI
 iterate 2 all_goals try cbv; with_reducible repeat' first | exact ⟨⟩ | apply And.intro | intro _
 all_goals try exact oI
 refine callN hA rfl (toMat_fn C hp0 hb_l0 hy0) ?_; rintro _ _ ⟨rfl, rfl⟩; refine ⟨rfl, ?_⟩
 iterate 2 all_goals try cbv; with_reducible repeat' first | exact ⟨⟩ | apply And.intro | intro _
 all_goals try exact oI
 refine callN hA rfl (toDyS_fn C hp1 hb_l1 hy1) ?_; rintro _ _ ⟨rfl, rfl⟩; refine ⟨rfl, ?_⟩
 iterate 2 all_goals try cbv; with_reducible repeat' first | exact ⟨⟩ | apply And.intro | intro _
 all_goals try exact oI
 refine callN hA rfl (himpl P C) ?_; rintro _ _ ⟨rfl, rfl⟩; refine ⟨rfl, ?_⟩
 iterate 2 all_goals try cbv; with_reducible repeat' first | exact ⟨⟩ | apply And.intro | intro _
 all_goals try exact oI
 refine callB hA rfl (eqIvS_fs C hr_r hb_o hoy2) ?_; rintro _ rfl; refine ⟨⟨_, rfl⟩, ?_⟩
 iterate 2 all_goals try cbv; with_reducible repeat' first | exact ⟨⟩ | apply And.intro | intro _
 all_goals try exact oI
 refine callB hA rfl (hheld P C) ?_; rintro _ rfl; refine ⟨⟨_, rfl⟩, ?_⟩
 iterate 2 all_goals try cbv; with_reducible repeat' first | exact ⟨⟩ | apply And.intro | intro _
 all_goals try exact oI
 iterate 2 all_goals try cbv; with_reducible repeat' first | exact ⟨⟩ | apply And.intro | intro _
 all_goals try exact oI

theorem law_n_fs (C : Cx P gl) {l0 : List Cell3} {p0 : List PV} {n0 : Int} {l1 : List Cell3} {p1 : List PV} {n2 : Int}  {w : Bool} (hp0 : p0 = cells3 l0) (hp1 : p1 = cells3 l1)
  (hbig : l0.length + tot l0 + l1.length + tot l1 ≤ 1048576)
  (hspec : ∀ P', Cx P' gl → FS P' gl 22 [.agg [I n0, .lst p0], .lst p1, I n2] (· = .tup [.lst [], B w]))
  (himpl : ∀ P', Cx P' gl → FS P' gl 25 [.agg [I n0, .lst p0], .lst p1, I n2] (· = .tup [.lst [], B w])) :
  FS P gl 6 [.agg [I n0, .lst p0], .lst p1, I n2] (· = B true) := by
 obtain ⟨k1, hk1⟩ : ∃ k : Int, k = if (l0.length : Int) + tot l0 ≤ (1048576 : Int) then (1048576 : Int) - l0.length - tot l0 else -1 := ⟨_, rfl⟩
 have hc1 : ((l0.length : Int) + tot l0 ≤ (1048576 : Int) ∧ k1 = (1048576 : Int) - l0.length - tot l0) ∨ ((1048576 : Int) < (l0.length : Int) + tot l0 ∧ k1 = -1) := by
  rw [hk1]; split
  ·exact .inl ⟨by assumption, rfl⟩
  ·exact .inr ⟨by omega, rfl⟩
 obtain ⟨k2, hk2⟩ : ∃ k : Int, k = if (l1.length : Int) + tot l1 ≤ k1 then k1 - l1.length - tot l1 else -1 := ⟨_, rfl⟩
 have hc2 : ((l1.length : Int) + tot l1 ≤ k1 ∧ k2 = k1 - l1.length - tot l1) ∨ (k1 < (l1.length : Int) + tot l1 ∧ k2 = -1) := by
  rw [hk2]; split
  ·exact .inl ⟨by assumption, rfl⟩
  ·exact .inr ⟨by omega, rfl⟩
 have hz1 : 0 ≤ k1 := by omega
 have hu1 : k1 ≤ 1048576 := by omega
 have hz2 : 0 ≤ k2 := by omega
 have hu2 : k2 ≤ 1048576 := by omega
 clear hc1 hc2
 have hy0 : ∀ y ∈ l0, y.2.1.length ≤ 2000000 := fun y hy => Nat.le_trans (tot_mem hy) (by omega)
 have hyb0 : ∀ y ∈ l0, y.2.1.length ≤ 9223372036854775807 := fun y hy => Nat.le_trans (hy0 y hy) (by decide)
 have ht0 : tot l0 ≤ 2000000 := by omega
 have hy1 : ∀ y ∈ l1, y.2.1.length ≤ 2000000 := fun y hy => Nat.le_trans (tot_mem hy) (by omega)
 have hyb1 : ∀ y ∈ l1, y.2.1.length ≤ 9223372036854775807 := fun y hy => Nat.le_trans (hy1 y hy) (by decide)
 have ht1 : tot l1 ≤ 2000000 := by omega
 obtain ⟨a1, ha1⟩ : ∃ x, x = cells3 (mkL3 l0 1) := ⟨_, rfl⟩
 obtain ⟨c1, hc1⟩ : ∃ c : Int, c = 1 + 2 * l0.length + tot l0 := ⟨_, rfl⟩
 obtain ⟨a2, ha2⟩ : ∃ x, x = cells3 (mkL3 l1 c1) := ⟨_, rfl⟩
 obtain ⟨c2, hc2⟩ : ∃ c : Int, c = c1 + 2 * l1.length + tot l1 := ⟨_, rfl⟩
 have hcn : 0 ≤ c2 := by omega
 have hb_l0 : l0.length ≤ 2000000 := by omega
 have hb_l1 : l1.length ≤ 2000000 := by omega
 have hmark0 := fun (P' : Program) (C' : Cx P' gl) => @markMat_fx P' gl C' l0 p0 a1 1 c1 n0 hp0 ha1 hc1 hb_l0 ht0 (by decide) (by decide)
 have hmark1 := fun (P' : Program) (C' : Cx P' gl) => @markDyS_fx P' gl C' l1 p1 a2 c1 c2 hp1 ha2 hc2 hb_l1 ht1 (by omega) (by omega)
 have hmarkr := fun (P' : Program) (C' : Cx P' gl) => @markIvS0_fs P' gl C' 1
 have hheld := fun (P' : Program) (C' : Cx P' gl) => @heldIvS_fs P' gl C' [] [] 1 1 rfl rfl (by decide) (by decide) (by decide) (by decide)
 refine gS C func6 rfl rfl rfl fun A hA hI => ?_
 iterate 2 all_goals try cbv; with_reducible repeat' first | exact ⟨⟩ | apply And.intro | intro _
 all_goals try exact oI
 refine callS hA rfl (szMat_fs C hp0 (by omega) hyb0 (by decide) (by decide) hk1) ?_; rintro _ rfl
 clear hk1
 iterate 2 all_goals try cbv; with_reducible repeat' first | exact ⟨⟩ | apply And.intro | intro _
 all_goals try exact oI
 refine callS hA rfl (szDyS_fs C hp1 (by omega) hyb1 hz1 hu1 hk2) ?_; rintro _ rfl
 clear hk2
 iterate 2 all_goals try cbv; with_reducible repeat' first | exact ⟨⟩ | apply And.intro | intro _
 all_goals try exact oI
 refine callN hA rfl (toMat_fn C hp0 hb_l0 hy0) ?_; rintro _ _ ⟨rfl, rfl⟩; refine ⟨rfl, ?_⟩
 iterate 2 all_goals try cbv; with_reducible repeat' first | exact ⟨⟩ | apply And.intro | intro _
 all_goals try exact oI
 refine callN hA rfl (toDyS_fn C hp1 hb_l1 hy1) ?_; rintro _ _ ⟨rfl, rfl⟩; refine ⟨rfl, ?_⟩
 iterate 2 all_goals try cbv; with_reducible repeat' first | exact ⟨⟩ | apply And.intro | intro _
 all_goals try exact oI
 refine callS hA rfl (hspec P C) ?_; rintro _ rfl
 iterate 2 all_goals try cbv; with_reducible repeat' first | exact ⟨⟩ | apply And.intro | intro _
 all_goals try exact oI
 refine callN hA rfl (toMat_fn C hp0 hb_l0 hy0) ?_; rintro _ _ ⟨rfl, rfl⟩; refine ⟨rfl, ?_⟩
 iterate 2 all_goals try cbv; with_reducible repeat' first | exact ⟨⟩ | apply And.intro | intro _
 all_goals try exact oI
 refine callN hA rfl (toDyS_fn C hp1 hb_l1 hy1) ?_; rintro _ _ ⟨rfl, rfl⟩; refine ⟨rfl, ?_⟩
 iterate 2 all_goals try cbv; with_reducible repeat' first | exact ⟨⟩ | apply And.intro | intro _
 all_goals try exact oI
 refine callN hA rfl (FN_ofS (himpl P C) rfl) ?_; rintro _ _ ⟨rfl, rfl⟩; refine ⟨rfl, ?_⟩
 iterate 2 all_goals try cbv; with_reducible repeat' first | exact ⟨⟩ | apply And.intro | intro _
 all_goals try exact oI
 refine callS hA rfl (eqIvS_fs C (vs := []) rfl (by decide) (fun _ h => by cases h)) ?_; rintro _ rfl
 iterate 2 all_goals try cbv; with_reducible repeat' first | exact ⟨⟩ | apply And.intro | intro _
 all_goals try exact oI
 refine ⟨_, toMat_fs C hp0 hb_l0 hy0, ?_⟩
 iterate 2 all_goals try cbv; with_reducible repeat' first | exact ⟨⟩ | apply And.intro | intro _
 all_goals try exact oI
 refine callB hA rfl (eqMat_fs C hp0 hb_l0 hy0) ?_; rintro _ rfl; refine ⟨⟨_, rfl⟩, ?_⟩
 iterate 2 all_goals try cbv; with_reducible repeat' first | exact ⟨⟩ | apply And.intro | intro _
 all_goals try exact oI
 refine callS hA rfl (toDyS_fs C hp1 hb_l1 hy1) ?_; rintro _ rfl
 iterate 2 all_goals try cbv; with_reducible repeat' first | exact ⟨⟩ | apply And.intro | intro _
 all_goals try exact oI
 refine callB hA rfl (eqDyS_fs C hp1 hb_l1 hy1) ?_; rintro _ rfl; refine ⟨⟨_, rfl⟩, ?_⟩
 iterate 2 all_goals try cbv; with_reducible repeat' first | exact ⟨⟩ | apply And.intro | intro _
 all_goals try exact oI
 refine callX hA [3] (by decide) rfl rfl rfl (hmark0 P C) ?_
 rintro _ _ ⟨rfl, rfl⟩
 refine ⟨rfl, ?_⟩
 iterate 2 all_goals try cbv; with_reducible repeat' first | exact ⟨⟩ | apply And.intro | intro _
 all_goals try exact oI
 refine callX hA [5] (by decide) rfl rfl rfl (hmark1 P C) ?_
 rintro _ _ ⟨rfl, rfl⟩
 refine ⟨rfl, ?_⟩
 iterate 2 all_goals try cbv; with_reducible repeat' first | exact ⟨⟩ | apply And.intro | intro _
 all_goals try exact oI
 refine ⟨_, fun _ => eqIvS_fs C (vs := []) rfl (by decide) (fun _ h => by cases h), ?_⟩
 iterate 2 all_goals try cbv; with_reducible repeat' first | exact ⟨⟩ | apply And.intro | intro _
 all_goals try exact oI
 refine callS hA rfl (hmarkr P C) ?_; rintro _ rfl
 iterate 2 all_goals try cbv; with_reducible repeat' first | exact ⟨⟩ | apply And.intro | intro _
 all_goals try exact oI
 refine callS hA rfl (hheld P C) ?_; rintro _ rfl
 iterate 2 all_goals try cbv; with_reducible repeat' first | exact ⟨⟩ | apply And.intro | intro _
 all_goals try exact oI
 iterate 2 all_goals try cbv; with_reducible repeat' first | exact ⟨⟩ | apply And.intro | intro _
 all_goals try exact oI
 refine callN hA rfl (toMat_fn C hp0 hb_l0 hy0) ?_; rintro _ _ ⟨rfl, rfl⟩; refine ⟨rfl, ?_⟩
 iterate 2 all_goals try cbv; with_reducible repeat' first | exact ⟨⟩ | apply And.intro | intro _
 all_goals try exact oI
 refine callN hA rfl (toDyS_fn C hp1 hb_l1 hy1) ?_; rintro _ _ ⟨rfl, rfl⟩; refine ⟨rfl, ?_⟩
 iterate 2 all_goals try cbv; with_reducible repeat' first | exact ⟨⟩ | apply And.intro | intro _
 all_goals try exact oI
 refine callN hA rfl (FN_ofS (himpl P C) rfl) ?_; rintro _ _ ⟨rfl, rfl⟩; refine ⟨rfl, ?_⟩
 iterate 2 all_goals try cbv; with_reducible repeat' first | exact ⟨⟩ | apply And.intro | intro _
 all_goals try exact oI
 refine callS hA rfl (eqIvS_fs C (vs := []) rfl (by decide) (fun _ h => by cases h)) ?_; rintro _ rfl
 iterate 2 all_goals try cbv; with_reducible repeat' first | exact ⟨⟩ | apply And.intro | intro _
 all_goals try exact oI
 refine callS hA rfl (hheld P C) ?_; rintro _ rfl
 iterate 2 all_goals try cbv; with_reducible repeat' first | exact ⟨⟩ | apply And.intro | intro _
 all_goals try exact oI
 iterate 2 all_goals try cbv; with_reducible repeat' first | exact ⟨⟩ | apply And.intro | intro _
 all_goals try exact oI

end Tryz
end Go.Proofs
