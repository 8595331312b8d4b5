/- Contracts: an interval made coarser. -/
import Derived.Test.YtlkiofkkjbodjaaGreatDoorDM1
import Derived.Test.YtlkiofkkjbodjaaGreatDoorDPeTi
import Derived.Test.YtlkiofkkjbodjaaGreatDoorRows
import Derived.ProofKit
import Derived.LaidMore
import Derived.OpenShut
import Derived.Stop.Joined
import Derived.Lib.LaidTab
import Derived.Test.YtlkiofkkjbodjaaGreatDoorDSx
import Derived.Test.YtlkiofkkjbodjaaGreatDoorDEvD
import Derived.Test.YtlkiofkkjbodjaaGreatDoorDN35
import Derived.Test.YtlkiofkkjbodjaaGreatDoorDN24
import Derived.Test.YtlkiofkkjbodjaaGreatDoorDN32
set_option maxHeartbeats 2000000
set_option maxRecDepth 100000
namespace Go.Proofs
open Go Go.Pe Go.Dg
namespace Tryz
set_option linter.unusedSimpArgs false
set_option linter.unusedVariables false
variable {P : Program} {gl : List (Nat × Obj)}

theorem heldIvS_fs (C : Cx P gl) {vs : List Cell6} {p : List PV} {k z : Int} (hp : p = cells6 (mkL6 vs k)) (hz : z = k + 4 * vs.length + tot6 vs) (hl : vs.length ≤ 2000000) (ht : tot6 vs ≤ 2000000) (hk0 : 0 ≤ k) (hk : k ≤ 50000000) :
  FS P gl 32 [.lst p, I k] (· = I z) := by
 obtain ⟨zs, hzs⟩ : ∃ zs, zs = mkL6 vs k := ⟨_, rfl⟩
 have hzl : zs.length = vs.length := by rw [hzs, mkL6_len]
 have hzg : ∀ j : Nat, j < vs.length → zs.getD j noV = mark6 (koff6 vs k j) (vs.getD j noV).1.2.1.length (vs.getD j noV).2.2.1.length := fun j hj => by rw [hzs]; exact mkL6_get hj
 rw [← hzs] at hp
 clear hzs
 refine gS C func32 rfl rfl rfl fun A hA hI => ?_
 iterate 2 all_goals try cbv; with_reducible repeat' first | exact ⟨⟩ | apply And.intro | intro _
 all_goals try exact oI
 refine loopI hA [] (ι := Int × Int) (fun x => [(1, .pv (I x.2)), (5, .pv (I x.1))]) (fun x => []) (fun x => (vs.length - x.1).toNat) (fun x => 0 ≤ x.1 ∧ x.1 ≤ vs.length ∧ x.2 = koff6 vs k x.1.toNat) (0, k) (by rfl) ?_ ?_ ?_
 all_goals try exact tI
 ·exact ⟨Int.le_refl _, by omega, (koff6_zero vs k).symm⟩
 rintro ⟨i, q⟩ ⟨hi0, hi1, hq⟩
 simp only at hi0 hi1 hq
 obtain ⟨hq1, hq2⟩ := koff6_le (vs := vs) (k := k) (show i.toNat ≤ vs.length by omega)
 rw [← hq] at hq1 hq2
 obtain ⟨n, hn⟩ : ∃ n, n = (vs.getD i.toNat noV).1.2.1.length := ⟨_, rfl⟩
 obtain ⟨m, hm⟩ : ∃ n, n = (vs.getD i.toNat noV).2.2.1.length := ⟨_, rfl⟩
 have hnb : n ≤ 2000000 ∧ m ≤ 2000000 := by
  by_cases hi : i < vs.length
  ·have := tot6_get (show i.toNat < vs.length by omega)
   unfold dig6 at this
   omega
  ·rw [hn, hm, List.getD, List.getElem?_eq_none (by omega)]; simp [noV, noY]
 obtain ⟨hnb, hmb⟩ := hnb
 obtain ⟨r1, hq1'⟩ : ∃ r1, r1 = q + 1 := ⟨_, rfl⟩
 obtain ⟨r2, hq2'⟩ : ∃ r2, r2 = r1 + (n : Int) := ⟨_, rfl⟩
 obtain ⟨r3, hq3'⟩ : ∃ r3, r3 = r2 + 1 := ⟨_, rfl⟩
 obtain ⟨r4, hq4'⟩ : ∃ r4, r4 = r3 + 1 := ⟨_, rfl⟩
 obtain ⟨r5, hq5'⟩ : ∃ r5, r5 = r4 + (m : Int) := ⟨_, rfl⟩
 obtain ⟨u, hu⟩ : ∃ u, u = intsL (up1 r1 n) := ⟨_, rfl⟩
 obtain ⟨u2, hu2⟩ : ∃ u, u = intsL (up1 r4 m) := ⟨_, rfl⟩
 have b1 : 0 ≤ r1 := by omega
 have b2 : r1 ≤ 1000000000 := by omega
 have b3 : 0 ≤ r2 ∧ 0 ≤ r3 ∧ r3 ≤ 1000000000 := by omega
 have b4 : 0 ≤ r4 ∧ r4 ≤ 1000000000 ∧ 0 ≤ r5 ∧ r5 ≤ 1000000000 := by omega
 have b5 : 0 ≤ q := by omega
 have hin : ∀ _ : Unit, i < vs.length → zs.getD i.toNat noV = ((decide (q % 3 = 0), up1 r1 n, r2), (decide (r3 % 3 = 0), up1 r4 m, r5)) ∧ koff6 vs k (i + 1).toNat = r5 + 1 := by
  intro _ hi
  refine ⟨?_, by rw [show (i + 1).toNat = i.toNat + 1 by omega, koff6_succ (by omega), ← hq, dig6, ← hn, ← hm]; omega⟩
  rw [hzg _ (by omega), ← hq, ← hn, ← hm, mark6, mark1, mark1, show q + 2 + (n : Int) = r3 by omega, ← hq1', ← hq2', ← hq4', ← hq5']
 have hex : vs.length ≤ i → q = z := by
  intro hi
  rw [hq, hz, show i.toNat = vs.length by omega, koff6_end]
 have hlt : ∀ _ : Unit, A.lt i (A.cast (A.len p)) = true → i < vs.length := by intro _ h; clear hin hex hzg; (subst hA; subst_vars; simp only [AR.std, natCast_eq, sI, reduceCtorEq] at *; try simp (disch := omega) only [AR.std, natCast_eq, sI, reduceCtorEq] at *); omega
 have hge : ∀ _ : Unit, A.lt i (A.cast (A.len p)) = false → vs.length ≤ i := by intro _ h; clear hin hex hzg hlt; (subst hA; subst_vars; simp only [AR.std, natCast_eq, sI, reduceCtorEq] at *; try simp (disch := omega) only [AR.std, natCast_eq, sI, reduceCtorEq] at *); omega
 have hel : ∀ _ : Unit, i < vs.length → A.gb (A.el p (A.nat i)) 0 = decide (q % 3 = 0) ∧ A.gl (A.el p (A.nat i)) 1 = u ∧ A.gi (A.el p (A.nat i)) 2 = r2 ∧ A.gb (A.el p (A.nat i)) 3 = decide (r3 % 3 = 0) ∧ A.gl (A.el p (A.nat i)) 4 = u2 ∧ A.gi (A.el p (A.nat i)) 5 = r5 := by
  intro _ hi
  have e : A.el p (A.nat i) = cell6 ((decide (q % 3 = 0), up1 r1 n, r2), (decide (r3 % 3 = 0), up1 r4 m, r5)) := by
   rw [← (hin () hi).1, hp]; subst hA; exact c6el (show i.toNat < zs.length by omega)
  rw [e, hu, hu2]
  subst hA
  exact ⟨rfl, rfl, rfl, rfl, rfl, rfl⟩
 have heq : ∀ _ : Unit, ∀ x : Int, 0 ≤ x → A.eq (A.rem .i64 x 3) 0 = decide (x % 3 = 0) := by
  intro _ x hx
  subst hA
  simp only [AR.std]
  rw [Int.tmod_eq_emod_of_nonneg hx]
  by_cases h3 : x % 3 = 0 <;> simp [h3]
 obtain ⟨r6, hq6'⟩ : ∃ r6, r6 = r5 + 1 := ⟨_, rfl⟩
 have hend : i < vs.length → r6 = koff6 vs k (i + 1).toNat ∧ i + 1 ≤ vs.length := fun h => ⟨by rw [(hin () h).2, hq6'], by omega⟩
 have e1 : A.add .i64 q 1 = r1 := by rw [hq1']; subst hA; exact wrapi (by omega) (by omega)
 have e3 : A.add .i64 r2 1 = r3 := by rw [hq3']; subst hA; exact wrapi (by omega) (by omega)
 have e4 : A.add .i64 r3 1 = r4 := by rw [hq4']; subst hA; exact wrapi (by omega) (by omega)
 have e6 : A.add .i64 r5 1 = r6 := by rw [hq6']; subst hA; exact wrapi (by omega) (by omega)
 have hnb2 : ∀ b : Bool, A.bnot (A.beq b b) = false := by intro b; subst hA; cases b <;> rfl
 have hm1 : ∀ _ : Unit, A.eq (A.rem .i64 q 3) 0 = decide (q % 3 = 0) := fun _ => heq () q b5
 have hm3 : ∀ _ : Unit, A.eq (A.rem .i64 r3 3) 0 = decide (r3 % 3 = 0) := fun _ => heq () r3 b3.2.1
 have hnn : ∀ x : Int, A.ne x x = false := by intro x; subst hA; simp [AR.std]
 have c1 := fun (P' : Program) (C' : Cx P' gl) => heldIntS_fs C' hu hq2' hnb b1 b2
 have c2 := fun (P' : Program) (C' : Cx P' gl) => heldIntS_fs C' hu2 hq5' hmb b4.1 b4.2.1
 clear hzg hz hq hn hm hq1 hq2 heq hin hu hu2 hq1' hq2' hq3' hq4' hq5' hq6'
 iterate 2 all_goals try cbv; with_reducible repeat' first | exact ⟨⟩ | apply And.intro | intro _
 all_goals try exact oI
 ·rename_i g g2
  exfalso
  obtain ⟨w1, w2, w3, w4, w5, w6⟩ := hel () (hlt () g)
  simp only [w1, hm1 (), hnb2] at g2 <;> exact absurd g2 (by decide)
 ·rename_i g g2
  have gi := hlt () g
  obtain ⟨w1, w2, w3, w4, w5, w6⟩ := hel () gi
  have hne := hend gi
  have hn2 : A.ne (A.gi (A.el p (A.nat i)) 2) r2 = false := by rw [w3]; exact hnn r2
  have hn5 : A.ne (A.gi (A.el p (A.nat i)) 5) r5 = false := by rw [w6]; exact hnn r5
  have hn3 : A.bnot (A.beq (A.gb (A.el p (A.nat i)) 3) (A.eq (A.rem .i64 (A.add .i64 r2 1) 3) 0)) = false := by rw [e3, w4, hm3 (), hnb2]
  clear g2 hel hend hlt hge hnn hm1 hm3 hnb2 hex
  iterate 2 all_goals try cbv; with_reducible repeat' first | exact ⟨⟩ | apply And.intro | intro _
  all_goals try exact oI
  simp only [w2, e1]
  refine callS hA rfl (c1 P C) ?_; rintro _ rfl
  iterate 2 all_goals try cbv; with_reducible repeat' first | exact ⟨⟩ | apply And.intro | intro _
  all_goals try exact oI
  iterate 2 all_goals try cbv; with_reducible repeat' first | exact ⟨⟩ | apply And.intro | intro _
  all_goals try exact oI
  iterate 2 all_goals try cbv; with_reducible repeat' first | exact ⟨⟩ | apply And.intro | intro _
  all_goals try exact oI
  ·rename_i g3
   exfalso
   simp only [hn3] at g3 <;> exact absurd g3 (by decide)
  ·all_goals try cbv
   all_goals with_reducible repeat' first | exact True.intro | refine And.intro ?_ ?_ | intro _
   all_goals try cbv
   all_goals with_reducible repeat' first | exact True.intro | refine And.intro ?_ ?_ | intro _
   all_goals try exact oI
   simp only [w5, e3, e4]
   refine callS hA rfl (c2 P C) ?_; rintro _ rfl
   clear c1 c2 w1 w2 w3 w4 w5 w6 hn3
   iterate 2 all_goals try cbv; with_reducible repeat' first | exact ⟨⟩ | apply And.intro | intro _
   all_goals try exact oI
   iterate 2 all_goals try cbv; with_reducible repeat' first | exact ⟨⟩ | apply And.intro | intro _
   all_goals try exact oI
   iterate 2 all_goals try cbv; with_reducible repeat' first | exact ⟨⟩ | apply And.intro | intro _
   all_goals try exact oI
   all_goals try simp only [e6]
   clear hn2 hn5 e1 e3 e4 e6
   obtain ⟨y1, hy1⟩ : ∃ y, y = i + 1 := ⟨_, rfl⟩
   obtain ⟨y2, hy2⟩ : ∃ y, y = r6 := ⟨_, rfl⟩
   refine ⟨⟨(y1, y2), ?_⟩, ?_, ?_⟩
   rotate_left
   ·cbv
    exact nI
   ·(subst hA; subst_vars; simp only [AR.std, natCast_eq, sI, reduceCtorEq] at *; try simp (disch := omega) only [AR.std, natCast_eq, sI, reduceCtorEq] at *); omega
   ·rw [hy1, hy2]; exact ⟨by simp only; omega, hne.2, hne.1⟩
 ·rename_i g
  rw [hex (hge () g)]

end Tryz
end Go.Proofs

set_option linter.unusedSimpArgs false
set_option linter.unusedVariables false
namespace Go.Proofs.YtlkiofkkjbodjaaGreatDoor
open Go Go.Pe Go.ChangeShapes Go.WideShapes Go.ChangeAt Go.RowKit
set_option linter.unusedVariables false

theorem own : ownKnob Tryz.prog.godebug = none := by kernel_rfl
theorem kids : Kids Tryz.prog (· < Tryz.prog.types.size) := kids_rows (by kernel_rfl) (by kernel_rfl)
theorem full : ∀ t e, t < Tryz.prog.types.size → Tryz.prog.underlying t = some (.slice e) → 0 < Tryz.prog.cellsOf e := slices_full_of Tryz.prog (by kernel_rfl)

abbrev laidB : List (String × DataW Unit) := [("math/bits.deBruijn32tab", Rows.laid_math_bits_deBruijn32tab), ("math/bits.deBruijn64tab", Rows.laid_math_bits_deBruijn64tab)]

theorem g32 : Tryz.prog.globalNamed "math/bits.deBruijn32tab" = some 0 := by kernel_rfl
theorem g64 : Tryz.prog.globalNamed "math/bits.deBruijn64tab" = some 1 := by kernel_rfl
theorem t64 : (Tryz.prog.globals[1]?).map (·.type) = some 263 := by kernel_rfl

theorem door_met (os : Os) (args : Array Value) : laidMetH Tryz.prog laidB ((World.doorLaid Tryz.prog 400 os).forCall (fun _ _ => 0) ⟨#[], args, []⟩).memory :=
 laidMetH_of_parts3 (fuel := 8) (laidMet_of_run' 8 (by kernel_rfl) (by kernel_rfl)) (by kernel_rfl) (by kernel_rfl)

theorem of_laid {W : World} (h : laidMetH Tryz.prog laidB W) : ∃ gl, Tryz.Tab gl ∧ Glob gl W := by
 rw [MakeChecks.laidMetH_plain _ _ _ (by kernel_rfl)] at h
 obtain ⟨ps, ⟨g0, t0, cs0, f0, p0, q0, hg0, ht0, hv0, hd0, ⟨g1, t1, cs1, f1, p1, q1, hg1, ht1, hv1, hd1, _, _⟩, _⟩, _, _⟩ := h
 obtain rfl := Option.some.inj (g64.symm.trans hg1)
 obtain rfl := Option.some.inj (t64.symm.trans ht1)
 have hc := Lib.cells_of_tab (zs := Lib.deBruijn64tab.map Int.ofNat) Tryz.underlying263 Tryz.underlying5 (by kernel_rfl) (by kernel_rfl) (show DataW.trod _ Tryz.prog W 0 _ _ f1 263 cs1.toList = some (Lib.tabData .u8 (Lib.deBruijn64tab.map Int.ofNat), p1) from hd1)
 unfold World.var? at hv1
 rw [g64] at hv1
 simp only [Option.bind_some] at hv1
 split at hv1
 ·rename_i cs ty fr hb
  obtain rfl := Option.some.inj hv1
  refine ⟨[(1, .cells cs ty fr)], ⟨cs, ty, fr, by simp, fun j hj => ?_⟩, fun x hx => ?_⟩
  ·rw [← Array.getElem?_toList, hc]
   have hl : Lib.deBruijn64tab.length = 64 := by decide
   simp only [List.getElem?_map, List.getD]
   rw [List.getElem?_eq_getElem (by omega)]
   rfl
  ·simp only [List.mem_singleton] at hx
   rw [hx]; exact hb
 ·cases hv1

end Go.Proofs.YtlkiofkkjbodjaaGreatDoor

namespace Go.Proofs
open Go Go.Pe Go.Dg
namespace Tryz
set_option linter.unusedSimpArgs false
set_option linter.unusedVariables false
variable {P : Program} {gl : List (Nat × Obj)}

end Tryz
end Go.Proofs

set_option maxHeartbeats 2000000
set_option maxRecDepth 100000
namespace Go.Proofs
open Go Go.Pe Go.Dg
namespace Tryz
set_option linter.unusedSimpArgs false
set_option linter.unusedVariables false
variable {P : Program} {gl : List (Nat × Obj)}

theorem l7low_fs (C : Cx P gl) {n : Int} {b : Bool} (hb : b = (decide (-200 ≤ n) && decide (n ≤ 200))) : FS P gl 49 [I n] (· = B b) := by
 refine gS C func49 rfl rfl rfl fun A hA hI => ?_
 iterate 2 all_goals try cbv; with_reducible repeat' first | exact ⟨⟩ | apply And.intro | intro _
 all_goals try exact pH
 rw [hb]
 subst hA
 show PV.val (.bool (bif decide (-200 ≤ n) then decide (n ≤ 200) else false)) = _
 cases decide (-200 ≤ n) <;> rfl

theorem isFine_fs (C : Cx P gl) {n : Int} {b : Bool} (hb : b = (decide (-200 ≤ n) && decide (n ≤ 200))) : FS P gl 54 [I n] (· = B b) := by
 refine gS C func54 rfl rfl rfl fun A hA hI => ?_
 iterate 2 all_goals try cbv; with_reducible repeat' first | exact ⟨⟩ | apply And.intro | intro _
 all_goals try exact oH
 refine callS hA rfl (within_fs C hb) ?_; rintro _ rfl
 iterate 2 all_goals try cbv; with_reducible repeat' first | exact ⟨⟩ | apply And.intro | intro _
 all_goals try exact oH

end Tryz
end Go.Proofs

