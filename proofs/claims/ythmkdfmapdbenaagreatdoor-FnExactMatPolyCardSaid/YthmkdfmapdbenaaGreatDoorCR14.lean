/- Proved: at every argument the law laws.FnExactMatPoly returns true, and its arguments read as they did; the tables of math/bits are tied to the program's text by the card; no further condition. -/
import Derived.Test.YthmkdfmapdbenaaGreatDoorCM1
import Derived.Test.YthmkdfmapdbenaaGreatDoorCM2
import Derived.Test.YthmkdfmapdbenaaGreatDoorCM3
import Derived.Test.YthmkdfmapdbenaaGreatDoorCM45
import Derived.Test.YthmkdfmapdbenaaGreatDoorCR0
import Derived.Test.YthmkdfmapdbenaaGreatDoorCEvD
import Derived.SevenTiedAt
import Derived.Test.YthmkdfmapdbenaaGreatDoorCards
import Derived.Test.YthmkdfmapdbenaaGreatDoorTie
namespace Go.Proofs
open Go Go.Pe Go.Dg
namespace Tryz
set_option linter.unusedSimpArgs false
set_option linter.unusedVariables false
variable {P : Program} {gl : List (Nat × Obj)}

set_option maxHeartbeats 4000000 in
set_option maxRecDepth 100000 in
/-- too long an argument -/
theorem lawL_fs (C : Cx P gl) {l0 : List Cell3} {p0 : List PV} {n0 : Int} (hp0 : p0 = cells3 l0)
    (hb_l0 : l0.length ≤ 9223372036854775807) (hyb0 : ∀ y ∈ l0, y.2.1.length ≤ 9223372036854775807) (hbig : 1048576 < l0.length + tot l0) :
    FS P gl 11 [.agg [I n0, .lst p0]] (· = B true) := by
  obtain ⟨k1, hk1⟩ : ∃ k : Int, k = if (l0.length : Int) + tot l0 ≤ (1048576 : Int) then (1048576 : Int) - l0.length - tot l0 else -1 := ⟨_, rfl⟩
  have hc1 : ((l0.length : Int) + tot l0 ≤ (1048576 : Int) ∧ k1 = (1048576 : Int) - l0.length - tot l0) ∨ ((1048576 : Int) < (l0.length : Int) + tot l0 ∧ k1 = -1) := by
    rw [hk1]; split
    · exact .inl ⟨by assumption, rfl⟩
    · exact .inr ⟨by omega, rfl⟩
  have hu1 : k1 ≤ 1048576 := by omega
  have hfin : k1 = -1 := by omega
  clear hc1
  obtain ⟨rfl, hG⟩ := C
  refine FS_ofT (args := fun A => [.agg [I n0, .lst p0]]) (R := fun A rr => rr = B true) Tryz.hT Tryz.mix Tryz.func11 rfl rfl (Nat.le_of_ble_eq_true rfl) ?_
  generalize hP : Tryz.prog = P
  intro A hA
  have C : Tryz.Cx P gl := ⟨hP.symm, hG⟩
  have hI : intsL = A.ints := by subst hA; rfl
  iterate 2 (all_goals try cbv; all_goals repeat' (first | with_reducible exact True.intro | with_reducible refine And.intro ?_ ?_ | intro _))
  all_goals try exact oG
  refine callS hA rfl (szMat_fs C hp0 (by omega) hyb0 (by decide) (by decide) hk1) ?_; rintro _ rfl
  iterate 2 (all_goals try cbv; all_goals repeat' (first | with_reducible exact True.intro | with_reducible refine And.intro ?_ ?_ | intro _))
  all_goals try exact oG
  all_goals (exfalso; rename_i g; have hz := hfin; clear hfin hk1; (subst hA; subst_vars; simp only [AR.std, natCast_eq, sG, reduceCtorEq] at *; try simp (disch := omega) only [AR.std, natCast_eq, sG, reduceCtorEq] at *); omega)

set_option maxHeartbeats 4000000 in
set_option maxRecDepth 100000 in
/-- the walk where the answer's lists are of memory of their own (o) or empty (n): o -/
theorem law_o_fs (C : Cx P gl) {l0 : List Cell3} {p0 : List PV} {n0 : Int} {r : List PV} {o : List Cell3} {w : Bool} (hp0 : p0 = cells3 l0) (hr_r : r = cells3 o) (ho_o : o.length ≤ 100) (hoy : ∀ y ∈ o, y.2.1.length ≤ 100)
    (hbig : l0.length + tot l0 ≤ 1048576)
    (hspec : ∀ P', Cx P' gl → FS P' gl 38 [.agg [I n0, .lst p0]] (· = .tup [.lst r, B w]))
    (himpl : ∀ P', Cx P' gl → FN P' gl 39 [.agg [I n0, .lst p0]] (fun own rr => own = [.tree 41 3 3 r] ∧ rr = .tup [.own 0, .pv (B w)])) :
    FS P gl 11 [.agg [I n0, .lst p0]] (· = B true) := by
  obtain ⟨k1, hk1⟩ : ∃ k : Int, k = if (l0.length : Int) + tot l0 ≤ (1048576 : Int) then (1048576 : Int) - l0.length - tot l0 else -1 := ⟨_, rfl⟩
  have hc1 : ((l0.length : Int) + tot l0 ≤ (1048576 : Int) ∧ k1 = (1048576 : Int) - l0.length - tot l0) ∨ ((1048576 : Int) < (l0.length : Int) + tot l0 ∧ k1 = -1) := by
    rw [hk1]; split
    · exact .inl ⟨by assumption, rfl⟩
    · exact .inr ⟨by omega, rfl⟩
  have hz1 : 0 ≤ k1 := by omega
  have hu1 : k1 ≤ 1048576 := by omega
  clear hc1
  have hy0 : ∀ y ∈ l0, y.2.1.length ≤ 2000000 := fun y hy => Nat.le_trans (tot_mem hy) (by omega)
  have hyb0 : ∀ y ∈ l0, y.2.1.length ≤ 9223372036854775807 := fun y hy => Nat.le_trans (hy0 y hy) (by decide)
  have ht0 : tot l0 ≤ 2000000 := by omega
  obtain ⟨a1, ha1⟩ : ∃ x, x = cells3 (mkL3 l0 1) := ⟨_, rfl⟩
  obtain ⟨c1, hc1⟩ : ∃ c : Int, c = 1 + 2 * l0.length + tot l0 := ⟨_, rfl⟩
  have hcn : 0 ≤ c1 := by omega
  have hb_l0 : l0.length ≤ 2000000 := by omega
  have hmark0 := fun (P' : Program) (C' : Cx P' gl) => @markMat_fx P' gl C' l0 p0 a1 1 c1 n0 hp0 ha1 hc1 hb_l0 ht0 (by decide) (by decide)
  have hto : tot o ≤ 10000 := tot_bound hoy ho_o
  obtain ⟨b1, hb1⟩ : ∃ x, x = cells3 (mkL3 o 1) := ⟨_, rfl⟩
  obtain ⟨d1, hd1⟩ : ∃ c : Int, c = 1 + 2 * o.length + tot o := ⟨_, rfl⟩
  have hdn1 : 0 ≤ d1 := by omega
  have hb_o : o.length ≤ 2000000 := by omega
  have hoy2 : ∀ y ∈ o, y.2.1.length ≤ 2000000 := fun y hy => Nat.le_trans (hoy y hy) (by decide)
  have hmarkr := fun (P' : Program) (C' : Cx P' gl) => @markDyS_fx P' gl C' o r b1 1 d1 hr_r hb1 hd1 hb_o (by omega) (by decide) (by decide)
  have hheld := fun (P' : Program) (C' : Cx P' gl) => @heldDyS_fs P' gl C' o b1 1 d1 hb1 hd1 hb_o (by omega) (by decide) (by decide)
  obtain ⟨rfl, hG⟩ := C
  refine FS_ofT (args := fun A => [.agg [I n0, .lst p0]]) (R := fun A rr => rr = B true) Tryz.hT Tryz.mix Tryz.func11 rfl rfl (Nat.le_of_ble_eq_true rfl) ?_
  generalize hP : Tryz.prog = P
  intro A hA
  have C : Tryz.Cx P gl := ⟨hP.symm, hG⟩
  have hI : intsL = A.ints := by subst hA; rfl
  iterate 2 (all_goals try cbv; all_goals repeat' (first | with_reducible exact True.intro | with_reducible refine And.intro ?_ ?_ | intro _))
  all_goals try exact oG
  refine callS hA rfl (szMat_fs C hp0 (by omega) hyb0 (by decide) (by decide) hk1) ?_; rintro _ rfl
  clear hk1
  iterate 2 (all_goals try cbv; all_goals repeat' (first | with_reducible exact True.intro | with_reducible refine And.intro ?_ ?_ | intro _))
  all_goals try exact oG
  refine callN hA rfl (toMat_fn C hp0 hb_l0 hy0) ?_; rintro _ _ ⟨rfl, rfl⟩; refine ⟨rfl, ?_⟩
  iterate 2 (all_goals try cbv; all_goals repeat' (first | with_reducible exact True.intro | with_reducible refine And.intro ?_ ?_ | intro _))
  all_goals try exact oG
  refine callS hA rfl (hspec P C) ?_; rintro _ rfl
  iterate 2 (all_goals try cbv; all_goals repeat' (first | with_reducible exact True.intro | with_reducible refine And.intro ?_ ?_ | intro _))
  all_goals try exact oG
  refine callN hA rfl (toMat_fn C hp0 hb_l0 hy0) ?_; rintro _ _ ⟨rfl, rfl⟩; refine ⟨rfl, ?_⟩
  iterate 2 (all_goals try cbv; all_goals repeat' (first | with_reducible exact True.intro | with_reducible refine And.intro ?_ ?_ | intro _))
  all_goals try exact oG
  refine callN hA rfl (himpl P C) ?_; rintro _ _ ⟨rfl, rfl⟩; refine ⟨rfl, ?_⟩
  iterate 2 (all_goals try cbv; all_goals repeat' (first | with_reducible exact True.intro | with_reducible refine And.intro ?_ ?_ | intro _))
  all_goals try exact oG
  refine callB hA rfl (eqDyS_fs C hr_r hb_o hoy2) ?_; rintro _ rfl; refine ⟨⟨_, rfl⟩, ?_⟩
  iterate 2 (all_goals try cbv; all_goals repeat' (first | with_reducible exact True.intro | with_reducible refine And.intro ?_ ?_ | intro _))
  all_goals try exact oG
  refine ⟨_, toMat_fs C hp0 hb_l0 hy0, ?_⟩
  iterate 2 (all_goals try cbv; all_goals repeat' (first | with_reducible exact True.intro | with_reducible refine And.intro ?_ ?_ | intro _))
  all_goals try exact oG
  refine callB hA rfl (eqMat_fs C hp0 hb_l0 hy0) ?_; rintro _ rfl; refine ⟨⟨_, rfl⟩, ?_⟩
  iterate 2 (all_goals try cbv; all_goals repeat' (first | with_reducible exact True.intro | with_reducible refine And.intro ?_ ?_ | intro _))
  all_goals try exact oG
  refine callX hA [2] (by decide) rfl rfl rfl (hmark0 P C) ?_
  rintro _ _ ⟨rfl, rfl⟩
  refine ⟨rfl, ?_⟩
  iterate 2 (all_goals try cbv; all_goals repeat' (first | with_reducible exact True.intro | with_reducible refine And.intro ?_ ?_ | intro _))
  all_goals try exact oG
  refine ⟨_, fun _ => eqDyS_fs C hr_r hb_o hoy2, ⟨_, rfl⟩, ?_⟩
  iterate 2 (all_goals try cbv; all_goals repeat' (first | with_reducible exact True.intro | with_reducible refine And.intro ?_ ?_ | intro _))
  all_goals try exact oG
  refine callX hA [4] (by decide) rfl rfl rfl (hmarkr P C) ?_
  rintro _ _ ⟨rfl, rfl⟩
  refine ⟨rfl, ?_⟩
  iterate 2 (all_goals try cbv; all_goals repeat' (first | with_reducible exact True.intro | with_reducible refine And.intro ?_ ?_ | intro _))
  all_goals try exact oG
  refine callB hA rfl (hheld P C) ?_; rintro _ rfl; refine ⟨⟨_, rfl⟩, ?_⟩
  iterate 2 (all_goals try cbv; all_goals repeat' (first | with_reducible exact True.intro | with_reducible refine And.intro ?_ ?_ | intro _))
  all_goals try exact oG
  iterate 2 (all_goals try cbv; all_goals repeat' (first | with_reducible exact True.intro | with_reducible refine And.intro ?_ ?_ | intro _))
  all_goals try exact oG
  refine callN hA rfl (toMat_fn C hp0 hb_l0 hy0) ?_; rintro _ _ ⟨rfl, rfl⟩; refine ⟨rfl, ?_⟩
  iterate 2 (all_goals try cbv; all_goals repeat' (first | with_reducible exact True.intro | with_reducible refine And.intro ?_ ?_ | intro _))
  all_goals try exact oG
  refine callN hA rfl (himpl P C) ?_; rintro _ _ ⟨rfl, rfl⟩; refine ⟨rfl, ?_⟩
  iterate 2 (all_goals try cbv; all_goals repeat' (first | with_reducible exact True.intro | with_reducible refine And.intro ?_ ?_ | intro _))
  all_goals try exact oG
  refine callB hA rfl (eqDyS_fs C hr_r hb_o hoy2) ?_; rintro _ rfl; refine ⟨⟨_, rfl⟩, ?_⟩
  iterate 2 (all_goals try cbv; all_goals repeat' (first | with_reducible exact True.intro | with_reducible refine And.intro ?_ ?_ | intro _))
  all_goals try exact oG
  refine callB hA rfl (hheld P C) ?_; rintro _ rfl; refine ⟨⟨_, rfl⟩, ?_⟩
  iterate 2 (all_goals try cbv; all_goals repeat' (first | with_reducible exact True.intro | with_reducible refine And.intro ?_ ?_ | intro _))
  all_goals try exact oG
  iterate 2 (all_goals try cbv; all_goals repeat' (first | with_reducible exact True.intro | with_reducible refine And.intro ?_ ?_ | intro _))
  all_goals try exact oG

set_option maxHeartbeats 4000000 in
set_option maxRecDepth 100000 in
/-- the walk where the answer's lists are of memory of their own (o) or empty (n): n -/
theorem law_n_fs (C : Cx P gl) {l0 : List Cell3} {p0 : List PV} {n0 : Int}  {w : Bool} (hp0 : p0 = cells3 l0) 
    (hbig : l0.length + tot l0 ≤ 1048576)
    (hspec : ∀ P', Cx P' gl → FS P' gl 38 [.agg [I n0, .lst p0]] (· = .tup [.lst [], B w]))
    (himpl : ∀ P', Cx P' gl → FS P' gl 39 [.agg [I n0, .lst p0]] (· = .tup [.lst [], B w])) :
    FS P gl 11 [.agg [I n0, .lst p0]] (· = B true) := by
  obtain ⟨k1, hk1⟩ : ∃ k : Int, k = if (l0.length : Int) + tot l0 ≤ (1048576 : Int) then (1048576 : Int) - l0.length - tot l0 else -1 := ⟨_, rfl⟩
  have hc1 : ((l0.length : Int) + tot l0 ≤ (1048576 : Int) ∧ k1 = (1048576 : Int) - l0.length - tot l0) ∨ ((1048576 : Int) < (l0.length : Int) + tot l0 ∧ k1 = -1) := by
    rw [hk1]; split
    · exact .inl ⟨by assumption, rfl⟩
    · exact .inr ⟨by omega, rfl⟩
  have hz1 : 0 ≤ k1 := by omega
  have hu1 : k1 ≤ 1048576 := by omega
  clear hc1
  have hy0 : ∀ y ∈ l0, y.2.1.length ≤ 2000000 := fun y hy => Nat.le_trans (tot_mem hy) (by omega)
  have hyb0 : ∀ y ∈ l0, y.2.1.length ≤ 9223372036854775807 := fun y hy => Nat.le_trans (hy0 y hy) (by decide)
  have ht0 : tot l0 ≤ 2000000 := by omega
  obtain ⟨a1, ha1⟩ : ∃ x, x = cells3 (mkL3 l0 1) := ⟨_, rfl⟩
  obtain ⟨c1, hc1⟩ : ∃ c : Int, c = 1 + 2 * l0.length + tot l0 := ⟨_, rfl⟩
  have hcn : 0 ≤ c1 := by omega
  have hb_l0 : l0.length ≤ 2000000 := by omega
  have hmark0 := fun (P' : Program) (C' : Cx P' gl) => @markMat_fx P' gl C' l0 p0 a1 1 c1 n0 hp0 ha1 hc1 hb_l0 ht0 (by decide) (by decide)
  have hmarkr := fun (P' : Program) (C' : Cx P' gl) => @markDyS0_fs P' gl C' 1
  have hheld := fun (P' : Program) (C' : Cx P' gl) => @heldDyS_fs P' gl C' [] [] 1 1 rfl rfl (by decide) (by decide) (by decide) (by decide)
  obtain ⟨rfl, hG⟩ := C
  refine FS_ofT (args := fun A => [.agg [I n0, .lst p0]]) (R := fun A rr => rr = B true) Tryz.hT Tryz.mix Tryz.func11 rfl rfl (Nat.le_of_ble_eq_true rfl) ?_
  generalize hP : Tryz.prog = P
  intro A hA
  have C : Tryz.Cx P gl := ⟨hP.symm, hG⟩
  have hI : intsL = A.ints := by subst hA; rfl
  iterate 2 (all_goals try cbv; all_goals repeat' (first | with_reducible exact True.intro | with_reducible refine And.intro ?_ ?_ | intro _))
  all_goals try exact oG
  refine callS hA rfl (szMat_fs C hp0 (by omega) hyb0 (by decide) (by decide) hk1) ?_; rintro _ rfl
  clear hk1
  iterate 2 (all_goals try cbv; all_goals repeat' (first | with_reducible exact True.intro | with_reducible refine And.intro ?_ ?_ | intro _))
  all_goals try exact oG
  refine callN hA rfl (toMat_fn C hp0 hb_l0 hy0) ?_; rintro _ _ ⟨rfl, rfl⟩; refine ⟨rfl, ?_⟩
  iterate 2 (all_goals try cbv; all_goals repeat' (first | with_reducible exact True.intro | with_reducible refine And.intro ?_ ?_ | intro _))
  all_goals try exact oG
  refine callS hA rfl (hspec P C) ?_; rintro _ rfl
  iterate 2 (all_goals try cbv; all_goals repeat' (first | with_reducible exact True.intro | with_reducible refine And.intro ?_ ?_ | intro _))
  all_goals try exact oG
  refine callN hA rfl (toMat_fn C hp0 hb_l0 hy0) ?_; rintro _ _ ⟨rfl, rfl⟩; refine ⟨rfl, ?_⟩
  iterate 2 (all_goals try cbv; all_goals repeat' (first | with_reducible exact True.intro | with_reducible refine And.intro ?_ ?_ | intro _))
  all_goals try exact oG
  refine callN hA rfl (FN_ofS (himpl P C) rfl) ?_; rintro _ _ ⟨rfl, rfl⟩; refine ⟨rfl, ?_⟩
  iterate 2 (all_goals try cbv; all_goals repeat' (first | with_reducible exact True.intro | with_reducible refine And.intro ?_ ?_ | intro _))
  all_goals try exact oG
  refine callS hA rfl (eqDyS_fs C (ys := []) rfl (by decide) (fun _ h => by cases h)) ?_; rintro _ rfl
  iterate 2 (all_goals try cbv; all_goals repeat' (first | with_reducible exact True.intro | with_reducible refine And.intro ?_ ?_ | intro _))
  all_goals try exact oG
  refine ⟨_, toMat_fs C hp0 hb_l0 hy0, ?_⟩
  iterate 2 (all_goals try cbv; all_goals repeat' (first | with_reducible exact True.intro | with_reducible refine And.intro ?_ ?_ | intro _))
  all_goals try exact oG
  refine callB hA rfl (eqMat_fs C hp0 hb_l0 hy0) ?_; rintro _ rfl; refine ⟨⟨_, rfl⟩, ?_⟩
  iterate 2 (all_goals try cbv; all_goals repeat' (first | with_reducible exact True.intro | with_reducible refine And.intro ?_ ?_ | intro _))
  all_goals try exact oG
  refine callX hA [2] (by decide) rfl rfl rfl (hmark0 P C) ?_
  rintro _ _ ⟨rfl, rfl⟩
  refine ⟨rfl, ?_⟩
  iterate 2 (all_goals try cbv; all_goals repeat' (first | with_reducible exact True.intro | with_reducible refine And.intro ?_ ?_ | intro _))
  all_goals try exact oG
  refine ⟨_, fun _ => eqDyS_fs C (ys := []) rfl (by decide) (fun _ h => by cases h), ?_⟩
  iterate 2 (all_goals try cbv; all_goals repeat' (first | with_reducible exact True.intro | with_reducible refine And.intro ?_ ?_ | intro _))
  all_goals try exact oG
  refine callS hA rfl (hmarkr P C) ?_; rintro _ rfl
  iterate 2 (all_goals try cbv; all_goals repeat' (first | with_reducible exact True.intro | with_reducible refine And.intro ?_ ?_ | intro _))
  all_goals try exact oG
  refine callS hA rfl (hheld P C) ?_; rintro _ rfl
  iterate 2 (all_goals try cbv; all_goals repeat' (first | with_reducible exact True.intro | with_reducible refine And.intro ?_ ?_ | intro _))
  all_goals try exact oG
  iterate 2 (all_goals try cbv; all_goals repeat' (first | with_reducible exact True.intro | with_reducible refine And.intro ?_ ?_ | intro _))
  all_goals try exact oG
  refine callN hA rfl (toMat_fn C hp0 hb_l0 hy0) ?_; rintro _ _ ⟨rfl, rfl⟩; refine ⟨rfl, ?_⟩
  iterate 2 (all_goals try cbv; all_goals repeat' (first | with_reducible exact True.intro | with_reducible refine And.intro ?_ ?_ | intro _))
  all_goals try exact oG
  refine callN hA rfl (FN_ofS (himpl P C) rfl) ?_; rintro _ _ ⟨rfl, rfl⟩; refine ⟨rfl, ?_⟩
  iterate 2 (all_goals try cbv; all_goals repeat' (first | with_reducible exact True.intro | with_reducible refine And.intro ?_ ?_ | intro _))
  all_goals try exact oG
  refine callS hA rfl (eqDyS_fs C (ys := []) rfl (by decide) (fun _ h => by cases h)) ?_; rintro _ rfl
  iterate 2 (all_goals try cbv; all_goals repeat' (first | with_reducible exact True.intro | with_reducible refine And.intro ?_ ?_ | intro _))
  all_goals try exact oG
  refine callS hA rfl (hheld P C) ?_; rintro _ rfl
  iterate 2 (all_goals try cbv; all_goals repeat' (first | with_reducible exact True.intro | with_reducible refine And.intro ?_ ?_ | intro _))
  all_goals try exact oG
  iterate 2 (all_goals try cbv; all_goals repeat' (first | with_reducible exact True.intro | with_reducible refine And.intro ?_ ?_ | intro _))
  all_goals try exact oG

end Tryz
end Go.Proofs

namespace Go.Proofs
open Go Go.Pe Go.Dg
namespace Tryz
set_option linter.unusedSimpArgs false
set_option linter.unusedVariables false
variable {P : Program} {gl : List (Nat × Obj)}

theorem law_fs (C : Cx P gl) {l0 : List Cell3} {p0 : List PV} {n0 : Int} (hp0 : p0 = cells3 l0)
    (h0 : l0.length ≤ 9223372036854775807) (y0 : ∀ y ∈ l0, y.2.1.length ≤ 9223372036854775807) :
    FS P gl 11 [.agg [I n0, .lst p0]] (· = B true) := by
  rcases Nat.lt_or_ge 1048576 (l0.length + tot l0) with hbig | hbig
  · exact lawL_fs C hp0 h0 y0 hbig
  have b0 : l0.length ≤ 2000000 := by omega
  have z0 : ∀ y ∈ l0, y.2.1.length ≤ 2000000 := fun y hy => Nat.le_trans (tot_mem hy) (by omega)
  by_cases hok : matOk n0 l0
  · have hn4 := hok.2.1
    by_cases hf : ∀ k, k < n0.toNat + 1 → fits ((polyP n0.toNat (dvY l0) (2 ^ n0.toNat)) k)
    · have hw : true = true ↔ matOk n0 l0 ∧ ∀ k, k < n0.toNat + 1 → fits ((polyP n0.toNat (dvY l0) (2 ^ n0.toNat)) k) := ⟨fun _ => ⟨hok, hf⟩, fun _ => rfl⟩
      refine law_o_fs C hp0 (w := true) (r := cells3 (canL (polyP n0.toNat (dvY l0) (2 ^ n0.toNat)) (n0.toNat + 1))) rfl (by rw [canL_len]; omega) (fun y hy => ?_) hbig (fun P' C' => specMatPoly_fs C' hp0 hw (fun _ => rfl) (fun h => absurd h (by decide)) b0 z0) (fun P' C' => implMatPoly_o_fn C' hp0 hok hf rfl b0 z0)
      obtain ⟨k, hk, rfl⟩ := List.mem_map.1 hy
      exact (hf k (List.mem_range.1 hk)).1
    · have hw : false = true ↔ matOk n0 l0 ∧ ∀ k, k < n0.toNat + 1 → fits ((polyP n0.toNat (dvY l0) (2 ^ n0.toNat)) k) := ⟨fun h => absurd h (by decide), fun h => absurd h.2 hf⟩
      exact law_n_fs C hp0 (w := false) hbig (fun P' C' => specMatPoly_fs C' hp0 hw (fun h => absurd h (by decide)) (fun _ => rfl) b0 z0) (fun P' C' => implMatPoly_X_fs C' hp0 hok hf b0 z0)
  · have hw : false = true ↔ matOk n0 l0 ∧ ∀ k, k < n0.toNat + 1 → fits ((polyP n0.toNat (dvY l0) (2 ^ n0.toNat)) k) := ⟨fun h => absurd h (by decide), fun h => absurd h.1 hok⟩
    exact law_n_fs C hp0 (w := false) hbig (fun P' C' => specMatPoly_fs C' hp0 hw (fun h => absurd h (by decide)) (fun _ => rfl) b0 z0) (fun P' C' => implMatPoly_N_fs C' hp0 hok b0 z0)

end Tryz
end Go.Proofs

set_option linter.unusedSimpArgs false
set_option linter.unusedVariables false
namespace Go.Proofs.YthmkdfmapdbenaaGreatDoor.fnExactMatPoly
open Go Go.Pe Go.Dg Go.ChangeShapes Go.WideShapes Go.ChangeAt Go.RowKit
set_option linter.unusedVariables false
set_option maxRecDepth 100000

theorem shape_mat {c : List PV} (h : Typed Tryz.prog 8 24 c) : ∃ (n : Int) (l : List Cell3), c = [.val (.int .i64 n), .lst (cells3 l)] ∧ l.length ≤ maxLen ∧ ∀ y ∈ l, y.2.1.length ≤ maxLen := by
  have dy : ∀ (c : List PV), Typed Tryz.prog 6 96 c → ∃ (s : Bool) (l : List Int) (e : Int), c = [.val (.bool s), .lst (intsL l), .val (.int .i64 e)] ∧ l.length ≤ maxLen := by
    intro c h
    obtain ⟨p, q, h1, h2, rfl⟩ := typed_st2 Tryz.underlying96 h
    obtain ⟨e, rfl, _⟩ := typed_int Tryz.underlying3 h2
    obtain ⟨p1, p2, h3, h4, rfl⟩ := typed_st2 Tryz.underlying94 h1
    obtain ⟨s, rfl⟩ := typed_bool Tryz.underlying4 h3
    obtain ⟨l, rfl, hl⟩ := typed_ints Tryz.underlying35 Tryz.underlying3 (typed_st1 Tryz.underlying92 h4)
    exact ⟨s, l, e, rfl, hl⟩
  obtain ⟨p, q, h1, h2, rfl⟩ := typed_st2 Tryz.underlying24 h
  obtain ⟨n, rfl, _⟩ := typed_int Tryz.underlying3 h1
  obtain ⟨ys, rfl, h3, h4⟩ := typed_dys Tryz.underlying22 (by unfold isSt; rw [Tryz.underlying96]) dy h2
  exact ⟨n, ys, rfl, h3, h4⟩

theorem lifted (os : Os) (started : os.Started) (H : Type) (enc : TypeId × Value → H) :
    ReturnsInHanded {} Tryz.checked os 11 .any (fun w args => (Rows.fnExactMatPolySpec.pre enc Tryz.prog Tryz.f11 [] false w args ∧ laidMetH Tryz.prog laidB w) ∧ sizedMet enc Tryz.prog Tryz.f11 (OpenSpec.ofChange Rows.fnExactMatPolySpec) false w args)
      (Rows.fnExactMatPolySpec.post enc Tryz.prog Tryz.f11 false true false false) := by
  refine returnsInHanded_of_change_and (C := Tryz.checked) (X := fun w _ => laidMetH Tryz.prog laidB w) (fun _ _ _ hh h => h.of_heap hh) own started (by kernel_rfl) Tryz.func11
    (ChangeSpec.witness_shaped (enc := enc) (C := Tryz.checked) (os := os) (X := fun w _ => laidMetH Tryz.prog laidB w) false (World.doorLaid Tryz.prog 400 os) #[.agg #[.int .i64 0, .slice none 0 0]] 8 rfl (World.shaped_of_RefB (by kernel_rfl) (by kernel_rfl)) (by kernel_rfl) (by kernel_rfl) (by kernel_rfl) (door_met os _)) ?_
  intro W base args ds gs before hval0 hW _ _ hL _
  have hval : ∀ (j : Nat) t v, Tryz.f11.params[j]? = some t → args[j]? = some v → Value.okWide Tryz.prog W .any base t v := hval0
  have hW' := hW
  obtain ⟨p, q, hA0, hV, rfl, hfz, hnd⟩ := hW
  have hA : DataW.TrodAll enc Tryz.prog W 0 (fun _ => true) true Tryz.f11.params.toList args.toList ds p := hA0
  have hA1 := hA
  rw [Tryz.params11] at hA hval
  obtain ⟨v0, d0, rfl, rfl, h0⟩ := trodAll_one hA
  obtain ⟨rfl, rfl⟩ := trodVars_none hV
  obtain ⟨c0, hty0, hrep0⟩ := rep_arg kids (m := 8) (show 24 < Tryz.prog.types.size by decide +kernel) (by kernel_rfl) (hval 0 24 v0 rfl rfl) h0
  obtain ⟨n0, l0, rfl, hl0, hyl0⟩ := shape_mat hty0
  obtain ⟨gl, htab, hgl⟩ := of_laid hL
  have hlaw := Tryz.law_fs (P := Tryz.prog) (gl := gl) ⟨rfl, htab⟩ (n0 := n0) (l0 := l0) rfl hl0 hyl0
  refine (law_calls hlaw W hgl (vs := #[v0]) rfl (fun j hj => ?_)).mono fun e W' ⟨he, hg⟩ => ?_
  · simp only [List.length_singleton] at hj
    obtain rfl : j = 0 := by omega
    have : isSt Tryz.prog 24 = true := by unfold isSt; rw [Tryz.underlying24]
    simpa [mkEl, this] using hrep0
  subst he
  exact ⟨_, rfl, _, _, _, [], p, [], hW', trodAll_mk1 (shut_bool Tryz.underlying4 _), args_again kids full (fun t ht => by
    rw [Tryz.params11] at ht
    have hall : ([24].all fun u => decide (u < Tryz.prog.types.size)) = true := by decide +kernel
    exact of_decide_eq_true (List.all_eq_true.1 hall t (by simpa using ht))) hA1 hg, rfl, hg.frame _, fun h => by cases h⟩

theorem holds : Rows.FnExactMatPolySaid :=
  OpenClaim.holds_of_wide 11 Tryz.f11 rfl rfl rfl rfl rfl rfl rfl ⟨rfl, rfl, rfl, rfl, rfl⟩ rfl rfl rfl rfl rfl (by kernel_rfl) Tryz.func11 (by kernel_rfl)
    (of_decide_eq_true (by kernel_rfl)) (by unfold Func.isWrapper; first | (rw [if_pos (by decide +kernel)]; kernel_rfl) | (rw [if_neg (by decide +kernel)]; exact ⟨rfl, rfl⟩))
    (fun os started H enc _ => lifted os started H enc)

/-- the statement: the tied card -/
theorem proved : Rows.FnExactMatPolyCardSaid :=
  Claim7.holds_tied_plain_at .later [] [.data, .data] true (true, "eafcfc0a6f4958edb2f7ef481d712bca7e501864f1dc436bd2de778d539293d3") false
    holds (fun _ h => by cases h) (by kernel_rfl) (fun _ h => by cases h) fnExactMatPoly_row_tie rfl ⟨rfl, rfl⟩ (by kernel_rfl) rfl
    (fun f fn hf hfn => by
      obtain rfl : f = 11 := Option.some.inj ((show Tryz.prog.funcNamed "loop.example/g00382/laws.FnExactMatPoly" = some 11 by kernel_rfl).symm.trans hf) |>.symm
      obtain rfl : fn = Tryz.f11 := (Option.some.inj (Tryz.func11.symm.trans hfn)).symm
      exact ⟨by kernel_rfl, fun j t ht => by
        rw [Tryz.params11] at ht
        have hm : t ∈ [24] := by simpa using Array.mem_of_getElem? ht
        have hall : ([24].all fun u => !Tryz.prog.wantsStandIn u) = true := by kernel_rfl
        exact (show Tryz.prog.wantsStandIn t = false by simpa using List.all_eq_true.1 hall t hm)⟩)
    (by kernel_rfl)
#print axioms proved
end Go.Proofs.YthmkdfmapdbenaaGreatDoor.fnExactMatPoly

