/- Contracts: bits, trailing zeros; the reference's sums, differences, orders over numbers as lists of digits. -/
import Derived.Test.YtlkiofkkjbodjaaAN2
import Derived.Test.YtlkiofkkjbodjaaAEvD
set_option maxHeartbeats 1000000
set_option maxRecDepth 100000
namespace Go.Proofs
open Go Go.Pe Go.Dg
namespace Try
set_option linter.unusedSimpArgs false
set_option linter.unusedVariables false
variable {P : Program} {gl : List (Nat × Obj)}

theorem bitsOf_fs (C : Cx P gl) {n : Nat} {p : List PV} {b : Int} (hp : p = intsL (dg n)) (hb : b = bl n) (hl : (dg n).length ≤ 100000000) : FS P gl 22 [.lst p] (· = I b) := by
 by_cases hn : n = 0
 ·subst hn
  rw [dg_zero] at hp
  rw [bl_zero] at hb
  obtain ⟨rfl, hG⟩ := C
  refine FS_ofT (args := fun A => [.lst p]) (R := fun A rr => rr = I b) Try.hT Try.mix Try.func22 rfl rfl (Nat.le_of_ble_eq_true rfl) ?_
  generalize hP : Try.prog = P
  intro A hA
  have C : Try.Cx P gl := ⟨hP.symm, hG⟩
  have hI : intsL = A.ints := by subst hA; rfl
  iterate 2 (all_goals try cbv; all_goals with_reducible repeat' first | exact True.intro | refine And.intro ?_ ?_ | intro _)
  all_goals try exact oH
  all_goals rw [hb]; rfl
 have hnz : 0 < (dg n).length := dg_ne_nil (by omega)
 have ht := bl_top n hn
 have hg := (valid_dg n).get ((dg n).length - 1)
 obtain ⟨x, hx⟩ : ∃ x : Nat, (dg n).getD ((dg n).length - 1) 0 = x := ⟨_, (Int.toNat_of_nonneg hg.1).symm⟩
 rw [hx] at hg ht
 rw [Int.toNat_natCast] at ht
 have hx0 : (x : Int) < 65536 := hg.2
 have hxn : x < 65536 := by omega
 have hxb : bl x ≤ 16 := (bl_le 16 x).2 (by omega)
 have hb0 : b = 16 * ((dg n).length - 1) + bl x := by omega
 obtain ⟨c, hc⟩ : ∃ c : Int, c = bl x := ⟨_, rfl⟩
 have hc0 : 0 ≤ c := by omega
 have hc1 : c ≤ 16 := by omega
 have hb1 : b = 16 * ((dg n).length - 1) + c := by omega
 clear hxb hb0
 clear ht hb
 obtain ⟨rfl, hG⟩ := C
 refine FS_ofT (args := fun A => [.lst p]) (R := fun A rr => rr = I b) Try.hT Try.mix Try.func22 rfl rfl (Nat.le_of_ble_eq_true rfl) ?_
 generalize hP : Try.prog = P
 intro A hA
 have C : Try.Cx P gl := ⟨hP.symm, hG⟩
 have hI : intsL = A.ints := by subst hA; rfl
 have hgi : A.conv .u64 (A.gi (A.el p (A.nat (A.sub .i64 (A.cast (A.len p)) 1))) 0) = (x : Int) := by
  subst hA
  subst_vars
  simp only [AR.std, natCast_eq, sH, reduceCtorEq] at *
  try simp (disch := omega) only [AR.std, natCast_eq, sH, reduceCtorEq] at *
  have e1 : (((dg n).length : Int) - 1).toNat = (dg n).length - 1 := by omega
  rw [e1, hx, IntKind.wrap_u64]
  omega
 iterate 2 (all_goals try cbv; all_goals with_reducible repeat' first | exact True.intro | refine And.intro ?_ ?_ | intro _)
 all_goals try exact oH
 refine callS hA rfl (len_fs C hgi hxn hc) ?_; rintro _ rfl
 clear hc
 iterate 2 (all_goals try cbv; all_goals with_reducible repeat' first | exact True.intro | refine And.intro ?_ ?_ | intro _)
 all_goals try exact oH
 subst hA
 subst_vars
 simp only [AR.std, natCast_eq, sH, reduceCtorEq] at *
 try simp (disch := omega) only [AR.std, natCast_eq, sH, reduceCtorEq] at *

end Try
end Go.Proofs
