/- The walk of the law FnExactIvMatDiv, out of contracts of the two functions that it compares. -/
import Derived.Test.YtlkiofkkjbodjaaGreatDoorAP1
import Derived.Test.YtlkiofkkjbodjaaGreatDoorAP2
import Derived.Test.YtlkiofkkjbodjaaGreatDoorAP3a
import Derived.Test.YtlkiofkkjbodjaaGreatDoorAP3
set_option maxHeartbeats 4000000
set_option maxRecDepth 100000
namespace Go.Proofs
open Go Go.Pe Go.Dg
namespace Tryz
set_option linter.unusedSimpArgs false
set_option linter.unusedVariables false
variable {P : Program} {gl : List (Nat × Obj)}

theorem lawL_fs (C : Cx P gl) {l0 : List Cell6} {p0 : List PV} {n0 : Int} {n1 : Int} {n2 : Int} (hp0 : p0 = cells6 l0)
  (hb_l0 : l0.length ≤ 9223372036854775807) (hyb0 : ∀ y ∈ l0, y.1.2.1.length ≤ 9223372036854775807 ∧ y.2.2.1.length ≤ 9223372036854775807) (hbig : 1048576 < l0.length + tot6 l0) :
  FS P gl 4 [.agg [I n0, .lst p0], I n1, I n2] (· = B true) := by
 obtain ⟨k1, hk1⟩ : ∃ k : Int, k = if (l0.length : Int) + tot6 l0 ≤ (1048576 : Int) then (1048576 : Int) - l0.length - tot6 l0 else -1 := ⟨_, rfl⟩
 have hc1 : ((l0.length : Int) + tot6 l0 ≤ (1048576 : Int) ∧ k1 = (1048576 : Int) - l0.length - tot6 l0) ∨ ((1048576 : Int) < (l0.length : Int) + tot6 l0 ∧ k1 = -1) := by
  rw [hk1]; split
  ·exact .inl ⟨by assumption, rfl⟩
  ·exact .inr ⟨by omega, rfl⟩
 have hu1 : k1 ≤ 1048576 := by omega
 have hfin : k1 = -1 := by omega
 clear hc1
 obtain ⟨rfl, hG⟩ := C
 refine FS_ofT (args := fun A => [.agg [I n0, .lst p0], I n1, I n2]) (R := fun A rr => rr = B true) Tryz.hT Tryz.mix Tryz.func4 rfl rfl (Nat.le_of_ble_eq_true rfl) ?_
 generalize hP : Tryz.prog = P
 intro A hA
 have C : Tryz.Cx P gl := ⟨hP.symm, hG⟩
 have hI : intsL = A.ints := by subst hA; rfl
 iterate 2 (all_goals try cbv; all_goals with_reducible repeat' first | exact True.intro | refine And.intro ?_ ?_ | intro _)
 all_goals try exact oI
 refine callS hA rfl (szIvMat_fs C hp0 (by omega) hyb0 (by decide) (by decide) hk1) ?_; rintro _ rfl
 iterate 2 (all_goals try cbv; all_goals with_reducible repeat' first | exact True.intro | refine And.intro ?_ ?_ | intro _)
 all_goals try exact oI
 all_goals (exfalso; rename_i g; have hz := hfin; clear hfin hk1; (subst hA; subst_vars; simp only [AR.std, natCast_eq, sI, reduceCtorEq] at *; try simp (disch := omega) only [AR.std, natCast_eq, sI, reduceCtorEq] at *); omega)

theorem law_o_fs (C : Cx P gl) {l0 : List Cell6} {p0 : List PV} {n0 : Int} {n1 : Int} {n2 : Int} {u : Int} {r : List PV} {o : List Cell6} {w : Bool} (hp0 : p0 = cells6 l0) (hr_r : r = cells6 o) (ho_o : o.length ≤ 100) (hoy : ∀ y ∈ o, y.1.2.1.length ≤ 100 ∧ y.2.2.1.length ≤ 100)
  (hbig : l0.length + tot6 l0 ≤ 1048576)
  (hspec : ∀ P', Cx P' gl → FS P' gl 16 [.agg [I n0, .lst p0], I n1, I n2] (· = .tup [.agg [I u, .lst r], B w]))
  (himpl : ∀ P', Cx P' gl → FN P' gl 17 [.agg [I n0, .lst p0], I n1, I n2] (fun own rr => own = [.tree 110 6 3 r] ∧ rr = .tup [.agg [.pv (I u), .own 0], .pv (B w)])) :
  FS P gl 4 [.agg [I n0, .lst p0], I n1, I n2] (· = B true) := by
 obtain ⟨k1, hk1⟩ : ∃ k : Int, k = if (l0.length : Int) + tot6 l0 ≤ (1048576 : Int) then (1048576 : Int) - l0.length - tot6 l0 else -1 := ⟨_, rfl⟩
 have hc1 : ((l0.length : Int) + tot6 l0 ≤ (1048576 : Int) ∧ k1 = (1048576 : Int) - l0.length - tot6 l0) ∨ ((1048576 : Int) < (l0.length : Int) + tot6 l0 ∧ k1 = -1) := by
  rw [hk1]; split
  ·exact .inl ⟨by assumption, rfl⟩
  ·exact .inr ⟨by omega, rfl⟩
 have hz1 : 0 ≤ k1 := by omega
 have hu1 : k1 ≤ 1048576 := by omega
 clear hc1
 have hy0 : ∀ y ∈ l0, y.1.2.1.length ≤ 2000000 ∧ y.2.2.1.length ≤ 2000000 := fun y hy => by have := tot6_mem hy; unfold dig6 at this; omega
 have hyb0 : ∀ y ∈ l0, y.1.2.1.length ≤ 9223372036854775807 ∧ y.2.2.1.length ≤ 9223372036854775807 := fun y hy => by have := hy0 y hy; omega
 have ht0 : tot6 l0 ≤ 2000000 := by omega
 obtain ⟨a1, ha1⟩ : ∃ x, x = cells6 (mkL6 l0 1) := ⟨_, rfl⟩
 obtain ⟨c1, hc1⟩ : ∃ c : Int, c = 1 + 4 * l0.length + tot6 l0 := ⟨_, rfl⟩
 have hcn : 0 ≤ c1 := by omega
 have hb_l0 : l0.length ≤ 2000000 := by omega
 have hmark0 := fun (P' : Program) (C' : Cx P' gl) => @markIvMat_fx P' gl C' l0 p0 a1 1 c1 n0 hp0 ha1 hc1 hb_l0 ht0 (by decide) (by decide)
 have hto : tot6 o ≤ 20000 := tot6_bound (fun v hv => by have := hoy v hv; unfold dig6; omega) ho_o
 obtain ⟨b1, hb1⟩ : ∃ x, x = cells6 (mkL6 o 1) := ⟨_, rfl⟩
 obtain ⟨d1, hd1⟩ : ∃ c : Int, c = 1 + 4 * o.length + tot6 o := ⟨_, rfl⟩
 have hdn1 : 0 ≤ d1 := by omega
 have hb_o : o.length ≤ 2000000 := by omega
 have hoy2 : ∀ y ∈ o, y.1.2.1.length ≤ 2000000 ∧ y.2.2.1.length ≤ 2000000 := fun y hy => by have := hoy y hy; omega
 have hmarkr := fun (P' : Program) (C' : Cx P' gl) => @markIvMat_fx P' gl C' o r b1 1 d1 u hr_r hb1 hd1 hb_o (by omega) (by decide) (by decide)
 have hheld := fun (P' : Program) (C' : Cx P' gl) => @heldIvMat_fs P' gl C' o b1 1 d1 u hb1 hd1 hb_o (by omega) (by decide) (by decide)
 obtain ⟨rfl, hG⟩ := C
 refine FS_ofT (args := fun A => [.agg [I n0, .lst p0], I n1, I n2]) (R := fun A rr => rr = B true) Tryz.hT Tryz.mix Tryz.func4 rfl rfl (Nat.le_of_ble_eq_true rfl) ?_
 generalize hP : Tryz.prog = P
 intro A hA
 have C : Tryz.Cx P gl := ⟨hP.symm, hG⟩
 have hI : intsL = A.ints := by subst hA; rfl
 iterate 2 (all_goals try cbv; all_goals with_reducible repeat' first | exact True.intro | refine And.intro ?_ ?_ | intro _)
 all_goals try exact oI
 refine callS hA rfl (szIvMat_fs C hp0 (by omega) hyb0 (by decide) (by decide) hk1) ?_; rintro _ rfl
 clear hk1
 iterate 2 (all_goals try cbv; all_goals with_reducible repeat' first | exact True.intro | refine And.intro ?_ ?_ | intro _)
 all_goals try exact oI
 refine callN hA rfl (toIvMat_fn C hp0 hb_l0 hy0) ?_; rintro _ _ ⟨rfl, rfl⟩; refine ⟨rfl, ?_⟩
 iterate 2 (all_goals try cbv; all_goals with_reducible repeat' first | exact True.intro | refine And.intro ?_ ?_ | intro _)
 all_goals try exact oI
 refine callS hA rfl (hspec P C) ?_; rintro _ rfl
 iterate 2 (all_goals try cbv; all_goals with_reducible repeat' first | exact True.intro | refine And.intro ?_ ?_ | intro _)
 all_goals try exact oI
 refine callN hA rfl (toIvMat_fn C hp0 hb_l0 hy0) ?_; rintro _ _ ⟨rfl, rfl⟩; refine ⟨rfl, ?_⟩
 iterate 2 (all_goals try cbv; all_goals with_reducible repeat' first | exact True.intro | refine And.intro ?_ ?_ | intro _)
 all_goals try exact oI
 refine callN hA rfl (himpl P C) ?_; rintro _ _ ⟨rfl, rfl⟩; refine ⟨rfl, ?_⟩
 iterate 2 (all_goals try cbv; all_goals with_reducible repeat' first | exact True.intro | refine And.intro ?_ ?_ | intro _)
 all_goals try exact oI
 refine callB hA rfl (eqIvMat_fs C hr_r hb_o hoy2) ?_; rintro _ rfl; refine ⟨⟨_, rfl⟩, ?_⟩
 iterate 2 (all_goals try cbv; all_goals with_reducible repeat' first | exact True.intro | refine And.intro ?_ ?_ | intro _)
 all_goals try exact oI
 refine ⟨_, toIvMat_fs C hp0 hb_l0 hy0, ?_⟩
 iterate 2 (all_goals try cbv; all_goals with_reducible repeat' first | exact True.intro | refine And.intro ?_ ?_ | intro _)
 all_goals try exact oI
 refine callB hA rfl (eqIvMat_fs C hp0 hb_l0 hy0) ?_; rintro _ rfl; refine ⟨⟨_, rfl⟩, ?_⟩
 iterate 2 (all_goals try cbv; all_goals with_reducible repeat' first | exact True.intro | refine And.intro ?_ ?_ | intro _)
 all_goals try exact oI
 refine callX hA [3] (by decide) rfl rfl rfl (hmark0 P C) ?_
 rintro _ _ ⟨rfl, rfl⟩
 refine ⟨rfl, ?_⟩
 iterate 2 (all_goals try cbv; all_goals with_reducible repeat' first | exact True.intro | refine And.intro ?_ ?_ | intro _)
 all_goals try exact oI
 refine ⟨_, fun _ => eqIvMat_fs C hr_r hb_o hoy2, ⟨_, rfl⟩, ?_⟩
 iterate 2 (all_goals try cbv; all_goals with_reducible repeat' first | exact True.intro | refine And.intro ?_ ?_ | intro _)
 all_goals try exact oI
 refine callX hA [5] (by decide) rfl rfl rfl (hmarkr P C) ?_
 rintro _ _ ⟨rfl, rfl⟩
 refine ⟨rfl, ?_⟩
 iterate 2 (all_goals try cbv; all_goals with_reducible repeat' first | exact True.intro | refine And.intro ?_ ?_ | intro _)
 all_goals try exact oI
 refine callB hA rfl (hheld P C) ?_; rintro _ rfl; refine ⟨⟨_, rfl⟩, ?_⟩
 iterate 2 (all_goals try cbv; all_goals with_reducible repeat' first | exact True.intro | refine And.intro ?_ ?_ | intro _)
 all_goals try exact oI
 iterate 2 (all_goals try cbv; all_goals with_reducible repeat' first | exact True.intro | refine And.intro ?_ ?_ | intro _)
 all_goals try exact oI
 refine callN hA rfl (toIvMat_fn C hp0 hb_l0 hy0) ?_; rintro _ _ ⟨rfl, rfl⟩; refine ⟨rfl, ?_⟩
 iterate 2 (all_goals try cbv; all_goals with_reducible repeat' first | exact True.intro | refine And.intro ?_ ?_ | intro _)
 all_goals try exact oI
 refine callN hA rfl (himpl P C) ?_; rintro _ _ ⟨rfl, rfl⟩; refine ⟨rfl, ?_⟩
 iterate 2 (all_goals try cbv; all_goals with_reducible repeat' first | exact True.intro | refine And.intro ?_ ?_ | intro _)
 all_goals try exact oI
 refine callB hA rfl (eqIvMat_fs C hr_r hb_o hoy2) ?_; rintro _ rfl; refine ⟨⟨_, rfl⟩, ?_⟩
 iterate 2 (all_goals try cbv; all_goals with_reducible repeat' first | exact True.intro | refine And.intro ?_ ?_ | intro _)
 all_goals try exact oI
 refine callB hA rfl (hheld P C) ?_; rintro _ rfl; refine ⟨⟨_, rfl⟩, ?_⟩
 iterate 2 (all_goals try cbv; all_goals with_reducible repeat' first | exact True.intro | refine And.intro ?_ ?_ | intro _)
 all_goals try exact oI
 iterate 2 (all_goals try cbv; all_goals with_reducible repeat' first | exact True.intro | refine And.intro ?_ ?_ | intro _)
 all_goals try exact oI

theorem law_n_fs (C : Cx P gl) {l0 : List Cell6} {p0 : List PV} {n0 : Int} {n1 : Int} {n2 : Int} {u : Int} {w : Bool} (hp0 : p0 = cells6 l0)
  (hbig : l0.length + tot6 l0 ≤ 1048576)
  (hspec : ∀ P', Cx P' gl → FS P' gl 16 [.agg [I n0, .lst p0], I n1, I n2] (· = .tup [.agg [I u, .lst []], B w]))
  (himpl : ∀ P', Cx P' gl → FS P' gl 17 [.agg [I n0, .lst p0], I n1, I n2] (· = .tup [.agg [I u, .lst []], B w])) :
  FS P gl 4 [.agg [I n0, .lst p0], I n1, I n2] (· = B true) := by
 obtain ⟨k1, hk1⟩ : ∃ k : Int, k = if (l0.length : Int) + tot6 l0 ≤ (1048576 : Int) then (1048576 : Int) - l0.length - tot6 l0 else -1 := ⟨_, rfl⟩
 have hc1 : ((l0.length : Int) + tot6 l0 ≤ (1048576 : Int) ∧ k1 = (1048576 : Int) - l0.length - tot6 l0) ∨ ((1048576 : Int) < (l0.length : Int) + tot6 l0 ∧ k1 = -1) := by
  rw [hk1]; split
  ·exact .inl ⟨by assumption, rfl⟩
  ·exact .inr ⟨by omega, rfl⟩
 have hz1 : 0 ≤ k1 := by omega
 have hu1 : k1 ≤ 1048576 := by omega
 clear hc1
 have hy0 : ∀ y ∈ l0, y.1.2.1.length ≤ 2000000 ∧ y.2.2.1.length ≤ 2000000 := fun y hy => by have := tot6_mem hy; unfold dig6 at this; omega
 have hyb0 : ∀ y ∈ l0, y.1.2.1.length ≤ 9223372036854775807 ∧ y.2.2.1.length ≤ 9223372036854775807 := fun y hy => by have := hy0 y hy; omega
 have ht0 : tot6 l0 ≤ 2000000 := by omega
 obtain ⟨a1, ha1⟩ : ∃ x, x = cells6 (mkL6 l0 1) := ⟨_, rfl⟩
 obtain ⟨c1, hc1⟩ : ∃ c : Int, c = 1 + 4 * l0.length + tot6 l0 := ⟨_, rfl⟩
 have hcn : 0 ≤ c1 := by omega
 have hb_l0 : l0.length ≤ 2000000 := by omega
 have hmark0 := fun (P' : Program) (C' : Cx P' gl) => @markIvMat_fx P' gl C' l0 p0 a1 1 c1 n0 hp0 ha1 hc1 hb_l0 ht0 (by decide) (by decide)
 have hmarkr := fun (P' : Program) (C' : Cx P' gl) => @markIvMat0_fs P' gl C' 1 u
 have hheld := fun (P' : Program) (C' : Cx P' gl) => @heldIvMat_fs P' gl C' [] [] 1 1 u rfl rfl (by decide) (by decide) (by decide) (by decide)
 obtain ⟨rfl, hG⟩ := C
 refine FS_ofT (args := fun A => [.agg [I n0, .lst p0], I n1, I n2]) (R := fun A rr => rr = B true) Tryz.hT Tryz.mix Tryz.func4 rfl rfl (Nat.le_of_ble_eq_true rfl) ?_
 generalize hP : Tryz.prog = P
 intro A hA
 have C : Tryz.Cx P gl := ⟨hP.symm, hG⟩
 have hI : intsL = A.ints := by subst hA; rfl
 iterate 2 (all_goals try cbv; all_goals with_reducible repeat' first | exact True.intro | refine And.intro ?_ ?_ | intro _)
 all_goals try exact oI
 refine callS hA rfl (szIvMat_fs C hp0 (by omega) hyb0 (by decide) (by decide) hk1) ?_; rintro _ rfl
 clear hk1
 iterate 2 (all_goals try cbv; all_goals with_reducible repeat' first | exact True.intro | refine And.intro ?_ ?_ | intro _)
 all_goals try exact oI
 refine callN hA rfl (toIvMat_fn C hp0 hb_l0 hy0) ?_; rintro _ _ ⟨rfl, rfl⟩; refine ⟨rfl, ?_⟩
 iterate 2 (all_goals try cbv; all_goals with_reducible repeat' first | exact True.intro | refine And.intro ?_ ?_ | intro _)
 all_goals try exact oI
 refine callS hA rfl (hspec P C) ?_; rintro _ rfl
 iterate 2 (all_goals try cbv; all_goals with_reducible repeat' first | exact True.intro | refine And.intro ?_ ?_ | intro _)
 all_goals try exact oI
 refine callN hA rfl (toIvMat_fn C hp0 hb_l0 hy0) ?_; rintro _ _ ⟨rfl, rfl⟩; refine ⟨rfl, ?_⟩
 iterate 2 (all_goals try cbv; all_goals with_reducible repeat' first | exact True.intro | refine And.intro ?_ ?_ | intro _)
 all_goals try exact oI
 refine callN hA rfl (FN_ofS (himpl P C) rfl) ?_; rintro _ _ ⟨rfl, rfl⟩; refine ⟨rfl, ?_⟩
 iterate 2 (all_goals try cbv; all_goals with_reducible repeat' first | exact True.intro | refine And.intro ?_ ?_ | intro _)
 all_goals try exact oI
 refine callS hA rfl (eqIvMat_fs C (vs := []) rfl (by decide) (fun _ h => by cases h)) ?_; rintro _ rfl
 iterate 2 (all_goals try cbv; all_goals with_reducible repeat' first | exact True.intro | refine And.intro ?_ ?_ | intro _)
 all_goals try exact oI
 refine ⟨_, toIvMat_fs C hp0 hb_l0 hy0, ?_⟩
 iterate 2 (all_goals try cbv; all_goals with_reducible repeat' first | exact True.intro | refine And.intro ?_ ?_ | intro _)
 all_goals try exact oI
 refine callB hA rfl (eqIvMat_fs C hp0 hb_l0 hy0) ?_; rintro _ rfl; refine ⟨⟨_, rfl⟩, ?_⟩
 iterate 2 (all_goals try cbv; all_goals with_reducible repeat' first | exact True.intro | refine And.intro ?_ ?_ | intro _)
 all_goals try exact oI
 refine callX hA [3] (by decide) rfl rfl rfl (hmark0 P C) ?_
 rintro _ _ ⟨rfl, rfl⟩
 refine ⟨rfl, ?_⟩
 iterate 2 (all_goals try cbv; all_goals with_reducible repeat' first | exact True.intro | refine And.intro ?_ ?_ | intro _)
 all_goals try exact oI
 refine ⟨_, fun _ => eqIvMat_fs C (vs := []) rfl (by decide) (fun _ h => by cases h), ?_⟩
 iterate 2 (all_goals try cbv; all_goals with_reducible repeat' first | exact True.intro | refine And.intro ?_ ?_ | intro _)
 all_goals try exact oI
 refine callS hA rfl (hmarkr P C) ?_; rintro _ rfl
 iterate 2 (all_goals try cbv; all_goals with_reducible repeat' first | exact True.intro | refine And.intro ?_ ?_ | intro _)
 all_goals try exact oI
 refine callS hA rfl (hheld P C) ?_; rintro _ rfl
 iterate 2 (all_goals try cbv; all_goals with_reducible repeat' first | exact True.intro | refine And.intro ?_ ?_ | intro _)
 all_goals try exact oI
 iterate 2 (all_goals try cbv; all_goals with_reducible repeat' first | exact True.intro | refine And.intro ?_ ?_ | intro _)
 all_goals try exact oI
 refine callN hA rfl (toIvMat_fn C hp0 hb_l0 hy0) ?_; rintro _ _ ⟨rfl, rfl⟩; refine ⟨rfl, ?_⟩
 iterate 2 (all_goals try cbv; all_goals with_reducible repeat' first | exact True.intro | refine And.intro ?_ ?_ | intro _)
 all_goals try exact oI
 refine callN hA rfl (FN_ofS (himpl P C) rfl) ?_; rintro _ _ ⟨rfl, rfl⟩; refine ⟨rfl, ?_⟩
 iterate 2 (all_goals try cbv; all_goals with_reducible repeat' first | exact True.intro | refine And.intro ?_ ?_ | intro _)
 all_goals try exact oI
 refine callS hA rfl (eqIvMat_fs C (vs := []) rfl (by decide) (fun _ h => by cases h)) ?_; rintro _ rfl
 iterate 2 (all_goals try cbv; all_goals with_reducible repeat' first | exact True.intro | refine And.intro ?_ ?_ | intro _)
 all_goals try exact oI
 refine callS hA rfl (hheld P C) ?_; rintro _ rfl
 iterate 2 (all_goals try cbv; all_goals with_reducible repeat' first | exact True.intro | refine And.intro ?_ ?_ | intro _)
 all_goals try exact oI
 iterate 2 (all_goals try cbv; all_goals with_reducible repeat' first | exact True.intro | refine And.intro ?_ ?_ | intro _)
 all_goals try exact oI

end Tryz
end Go.Proofs
