/- Contracts: bits, trailing zeros; the reference's sums, differences, orders over numbers as lists of digits. -/
import Derived.Test.YtcbagjglchpagaaDoorFN2
import Derived.Test.YtcbagjglchpagaaDoorFEvD
namespace Go.Proofs
open Go Go.Pe Go.Dg
namespace Tryd
set_option linter.unusedSimpArgs false
set_option linter.unusedVariables false
variable {P : Program} {gl : List (Nat × Obj)}

set_option maxHeartbeats 1000000 in
set_option maxRecDepth 100000 in
theorem bitsOf_fs (C : Cx P gl) {n : Nat} {p : List PV} {b : Int} (hp : p = intsL (dg n)) (hb : b = bl n) (hl : (dg n).length ≤ 100000000) : FS P gl 88 [.lst p] (· = I b) := by
  by_cases hn : n = 0
  · subst hn
    rw [dg_zero] at hp
    rw [bl_zero] at hb
    obtain ⟨rfl, hG⟩ := C
    refine FS_ofT (args := fun A => [.lst p]) (R := fun A rr => rr = I b) Tryd.hT Tryd.mix Tryd.func88 rfl rfl (Nat.le_of_ble_eq_true rfl) ?_
    generalize hP : Tryd.prog = P
    intro A hA
    have C : Tryd.Cx P gl := ⟨hP.symm, hG⟩
    have hI : intsL = A.ints := by subst hA; rfl
    iterate 2 (all_goals try cbv; all_goals repeat' (first | with_reducible exact True.intro | with_reducible refine And.intro ?_ ?_ | intro _))
    all_goals try exact oH
    all_goals rw [hb]; rfl
  have hnz : 0 < (dg n).length := dg_ne_nil (by omega)
  have ht := bl_top n hn
  have hg := (valid_dg n).get ((dg n).length - 1)
  obtain ⟨x, hx⟩ : ∃ x : Nat, (dg n).getD ((dg n).length - 1) 0 = x := ⟨_, (Int.toNat_of_nonneg hg.1).symm⟩
  rw [hx] at hg ht
  rw [Int.toNat_natCast] at ht
  have hx0 : (x : Int) < 65536 := hg.2
  have hxn : x < 65536 := by omega
  have hxb : bl x ≤ 16 := (bl_le 16 x).2 (by omega)
  have hb0 : b = 16 * ((dg n).length - 1) + bl x := by omega
  obtain ⟨c, hc⟩ : ∃ c : Int, c = bl x := ⟨_, rfl⟩
  have hc0 : 0 ≤ c := by omega
  have hc1 : c ≤ 16 := by omega
  have hb1 : b = 16 * ((dg n).length - 1) + c := by omega
  clear hxb hb0
  clear ht hb
  obtain ⟨rfl, hG⟩ := C
  refine FS_ofT (args := fun A => [.lst p]) (R := fun A rr => rr = I b) Tryd.hT Tryd.mix Tryd.func88 rfl rfl (Nat.le_of_ble_eq_true rfl) ?_
  generalize hP : Tryd.prog = P
  intro A hA
  have C : Tryd.Cx P gl := ⟨hP.symm, hG⟩
  have hI : intsL = A.ints := by subst hA; rfl
  have hgi : A.conv .u64 (A.gi (A.el p (A.nat (A.sub .i64 (A.cast (A.len p)) 1))) 0) = (x : Int) := by
    subst hA
    subst_vars
    simp only [AR.std, natCast_eq, sH, reduceCtorEq] at *
    try simp (disch := omega) only [AR.std, natCast_eq, sH, reduceCtorEq] at *
    have e1 : (((dg n).length : Int) - 1).toNat = (dg n).length - 1 := by omega
    rw [e1, hx, IntKind.wrap_u64]
    omega
  iterate 2 (all_goals try cbv; all_goals repeat' (first | with_reducible exact True.intro | with_reducible refine And.intro ?_ ?_ | intro _))
  all_goals try exact oH
  refine callS hA rfl (len_fs C hgi hxn hc) ?_; rintro _ rfl
  clear hc
  iterate 2 (all_goals try cbv; all_goals repeat' (first | with_reducible exact True.intro | with_reducible refine And.intro ?_ ?_ | intro _))
  all_goals try exact oH
  subst hA
  subst_vars
  simp only [AR.std, natCast_eq, sH, reduceCtorEq] at *
  try simp (disch := omega) only [AR.std, natCast_eq, sH, reduceCtorEq] at *

set_option maxHeartbeats 1000000 in
set_option maxRecDepth 100000 in
theorem trailOf_fs (C : Cx P gl) {n k m : Nat} {c : Int} {p : List PV} (hp : p = intsL (dg n)) (hn : n = 2 ^ k * (2 * m + 1)) (hc : c = k) (hl : (dg n).length ≤ 100000000) : FS P gl 129 [.lst p] (· = I c) := by
  have hn0 : n ≠ 0 := by
    rw [hn]
    exact Nat.ne_of_gt (Nat.mul_pos (Nat.two_pow_pos k) (by omega))
  have hv := val_dg n
  have ha := valid_dg n
  generalize dg n = a at *
  obtain ⟨rfl, hG⟩ := C
  refine FS_ofT (args := fun A => [.lst p]) (R := fun A rr => rr = I c) Tryd.hT Tryd.mix Tryd.func129 rfl rfl (Nat.le_of_ble_eq_true rfl) ?_
  generalize hP : Tryd.prog = P
  intro A hA
  have C : Tryd.Cx P gl := ⟨hP.symm, hG⟩
  have hI : intsL = A.ints := by subst hA; rfl
  iterate 2 (all_goals try cbv; all_goals repeat' (first | with_reducible exact True.intro | with_reducible refine And.intro ?_ ?_ | intro _))
  all_goals try exact oH
  refine loopI hA [] (ι := Int) (fun x => [(7, .pv (I x))]) (fun x => []) (fun x => (a.length - x).toNat) (fun x => trI a x) 0 (by rfl) ?_ ?_ ?_
  all_goals try exact tH
  · exact trI_zero a
  rintro i hinv
  try simp only at hinv
  have hnext := trI_next hinv
  have hexit := trI_exit hinv
  have hfound := trI_found ha hinv hv hn
  have hx := ha.get i.toNat
  obtain ⟨hi0, hi1, _⟩ := id hinv
  iterate 2 (all_goals try cbv; all_goals repeat' (first | with_reducible exact True.intro | with_reducible refine And.intro ?_ ?_ | intro _))
  all_goals try exact oH
  iterate 2 (all_goals try cbv; all_goals repeat' (first | with_reducible exact True.intro | with_reducible refine And.intro ?_ ?_ | intro _))
  all_goals try exact oH
  · obtain ⟨t, s, h1, h2, h3⟩ := hfound (by (subst hA; subst_vars; simp only [AR.std, natCast_eq, sH, reduceCtorEq] at *; try simp (disch := omega) only [AR.std, natCast_eq, sH, reduceCtorEq] at *); assumption)
    have hgi : A.conv .u64 (A.gi (A.el p (A.nat i)) 0) = ((a.getD i.toNat 0).toNat : Int) := by
      subst hA
      subst_vars
      simp only [AR.std, natCast_eq, sH, reduceCtorEq] at *
      try simp (disch := omega) only [AR.std, natCast_eq, sH, reduceCtorEq] at *
      rw [IntKind.wrap_u64]
      omega
    obtain ⟨t', ht'⟩ : ∃ t' : Int, t' = t := ⟨_, rfl⟩
    have h4 : c = 16 * i + t' := by rw [hc, h2, ht']
    have h5 : 0 ≤ t' := by omega
    have h6 : t' < 16 := by omega
    have h7 : (a.getD i.toNat 0).toNat < 18446744073709551616 := by omega
    refine callS hA rfl (tz_fs C hgi h1 h7 ht') ?_; rintro _ rfl
    clear ht' hc h1 h2 h3
    iterate 2 (all_goals try cbv; all_goals repeat' (first | with_reducible exact True.intro | with_reducible refine And.intro ?_ ?_ | intro _))
    all_goals try exact oH
    subst hA
    subst_vars
    simp only [AR.std, natCast_eq, sH, reduceCtorEq] at *
    try simp (disch := omega) only [AR.std, natCast_eq, sH, reduceCtorEq] at *
  · obtain ⟨y1, hy1⟩ : ∃ y, y = i + 1 := ⟨_, rfl⟩
    refine ⟨⟨y1, ?_⟩, ?_, ?_⟩
    rotate_left
    · cbv
      exact nH
    · (subst hA; subst_vars; simp only [AR.std, natCast_eq, sH, reduceCtorEq] at *; try simp (disch := omega) only [AR.std, natCast_eq, sH, reduceCtorEq] at *); omega
    · (subst hA; subst_vars; simp only [AR.std, natCast_eq, sH, reduceCtorEq] at *; try simp (disch := omega) only [AR.std, natCast_eq, sH, reduceCtorEq] at *); exact hnext (by omega) (by omega)

end Tryd
end Go.Proofs
