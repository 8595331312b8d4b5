/- Contracts: the reference's shifts and trailing zeros. -/
import Derived.Test.YtlkiofkkjbodjaaGreatDoorDN4
set_option maxHeartbeats 1000000
set_option maxRecDepth 100000
namespace Go.Proofs
open Go Go.Pe Go.Dg
namespace Tryz
set_option linter.unusedSimpArgs false
set_option linter.unusedVariables false
variable {P : Program} {gl : List (Nat × Obj)}

theorem l2shl_fs (C : Cx P gl) {n : Nat} {k : Int} {p r : List PV} (hp : p = intsL (dg n)) (h0 : 0 ≤ k) (h1 : k ≤ 100000000) (hl : (dg n).length ≤ 100000000) (hr : r = intsL (dg (n * 2 ^ k.toNat))) :
  FS P gl 208 [.agg [.lst p], I k] (· = .agg [.lst r]) := by
 have hs : (k % 16).toNat < 16 := by omega
 have hsk : (k % 16).toNat = k.toNat % 16 := by omega
 have hik : (k / 16).toNat = k.toNat / 16 := by omega
 have hpw := pow2_le hs
 refine gS C func208 rfl rfl rfl fun A hA hI => ?_
 iterate 2 all_goals try cbv; with_reducible repeat' first | exact ⟨⟩ | apply And.intro | intro _
 all_goals try exact oH
 ·have h : (dg n).length = 0 := by exact eH
  have h2 := List.eq_nil_of_length_eq_zero h
  rw [← dg_zero] at h2
  rw [hr, dg_inj h2, Nat.zero_mul, dg_zero]
  rfl
 have hsh : A.shl .i64 1 (A.rem .i64 k 16) = ((2 ^ (k % 16).toNat : Nat) : Int) := by
  subst hA
  subst_vars
  simp only [AR.std, natCast_eq, sH, reduceCtorEq] at *
  try simp (disch := omega) only [AR.std, natCast_eq, sH, reduceCtorEq] at *
  rw [Int.natCast_pow, Int.one_mul]
  rfl
 have hp2 : A.app (A.rep (A.quo .i64 k 16) (I 0)) p = intsL (List.replicate (k / 16).toNat 0 ++ dg n) := by (subst hA; subst_vars; simp only [AR.std, natCast_eq, sH, reduceCtorEq] at *; try simp (disch := omega) only [AR.std, natCast_eq, sH, reduceCtorEq] at *)
 have hpn : (2 ^ (k % 16).toNat : Nat) ≤ 32768 := by
  have e : ((2 ^ (k % 16).toNat : Nat) : Int) = 2 ^ (k % 16).toNat := by rw [Int.natCast_pow]; rfl
  omega
 obtain ⟨r2, hr2⟩ : ∃ r2, r2 = intsL (dg (2 ^ (k % 16).toNat)) := ⟨_, rfl⟩
 have hv : val (List.replicate (k / 16).toNat 0 ++ dg n) * val (dg (2 ^ (k % 16).toNat)) = ((n * 2 ^ k.toNat : Nat) : Int) := by
  rw [val_cons0, val_dg, val_dg, hik, hsk, ← shl_val, Int.natCast_mul, Int.natCast_mul, Int.natCast_pow]
  rfl
 have hl2 : (dg (2 ^ (k % 16).toNat)).length ≤ 100 := dg_len _ (by omega)
 have hva : Valid (List.replicate (k / 16).toNat 0 ++ dg n) := (Valid.rep _).append (valid_dg n)
 have hll : (List.replicate (k / 16).toNat 0 ++ dg n).length + (dg (2 ^ (k % 16).toNat)).length ≤ 1000000000 := by
  rw [List.length_append, List.length_replicate]; omega
 refine ⟨_, l2of_fs C hsh hr2 (by omega), ?_⟩
 iterate 2 all_goals try cbv; with_reducible repeat' first | exact ⟨⟩ | apply And.intro | intro _
 all_goals try exact oH
 refine callS hA rfl (l2mul_fs C hp2 hr2 hva (valid_dg _) hv hr hll) ?_; rintro _ rfl
 iterate 2 all_goals try cbv; with_reducible repeat' first | exact ⟨⟩ | apply And.intro | intro _
 all_goals try exact oH

theorem l2shr_fs (C : Cx P gl) {n : Nat} {k : Int} {p r : List PV} (hp : p = intsL (dg n)) (h0 : 0 ≤ k) (h1 : k ≤ 1000000000000) (hl : (dg n).length ≤ 100000000) (hr : r = intsL (dg (n / 2 ^ k.toNat))) :
  FS P gl 201 [.agg [.lst p], I k] (· = .agg [.lst r]) := by
 have hs : (k % 16).toNat < 16 := by omega
 have hsk : (k % 16).toNat = k.toNat % 16 := by omega
 have hik : (k / 16).toNat = k.toNat / 16 := by omega
 have hpw := pow2_le hs
 refine gS C func201 rfl rfl rfl fun A hA hI => ?_
 iterate 2 all_goals try cbv; with_reducible repeat' first | exact ⟨⟩ | apply And.intro | intro _
 all_goals try exact oH
 ·have h : (dg n).length ≤ k.toNat / 16 := by exact eH
  have h2 := val_drop_div (valid_dg n) (k.toNat / 16)
  rw [val_drop_ge h, val_dg] at h2
  have h3 : (n / 65536 ^ (k.toNat / 16) : Nat) = 0 := by
   have e : ((n / 65536 ^ (k.toNat / 16) : Nat) : Int) = (n : Int) / 65536 ^ (k.toNat / 16) := by
    rw [Int.natCast_ediv, Int.natCast_pow]; rfl
   omega
  rw [hr, ← down_val, h3, Nat.zero_div, dg_zero]
  rfl
 have hsh : A.shl .i64 1 (A.rem .i64 k 16) = ((2 ^ (k % 16).toNat : Nat) : Int) := by
  subst hA
  subst_vars
  simp only [AR.std, natCast_eq, sH, reduceCtorEq] at *
  try simp (disch := omega) only [AR.std, natCast_eq, sH, reduceCtorEq] at *
  rw [Int.natCast_pow, Int.one_mul]
  rfl
 have hlt : k / 16 < (dg n).length := by exact eH
 have hp2 : A.sl p (A.quo .i64 k 16) (A.cast (A.len p)) = intsL ((dg n).drop (k / 16).toNat) := by
  subst hA
  subst_vars
  simp only [AR.std, natCast_eq, sH, reduceCtorEq] at *
  try simp (disch := omega) only [AR.std, natCast_eq, sH, reduceCtorEq] at *
  rw [List.take_length]
 have hpn : (2 ^ (k % 16).toNat : Nat) ≤ 32768 := by
  have e : ((2 ^ (k % 16).toNat : Nat) : Int) = 2 ^ (k % 16).toNat := by rw [Int.natCast_pow]; rfl
  omega
 have hv : val ((dg n).drop (k / 16).toNat) = ((n / 65536 ^ (k / 16).toNat : Nat) : Int) := by
  rw [val_drop_div (valid_dg n), val_dg, Int.natCast_ediv, Int.natCast_pow]; rfl
 have hr2 : r = intsL (dg (n / 65536 ^ (k / 16).toNat / 2 ^ (k % 16).toNat)) := by rw [hr, hik, hsk, down_val]
 have hll : ((dg n).drop (k / 16).toNat).length ≤ 100000000 := by simp; omega
 have hva := (valid_dg n).drop (k / 16).toNat
 obtain ⟨q, hq⟩ : ∃ q : Int, q = ((n / 65536 ^ (k / 16).toNat % 2 ^ (k % 16).toNat : Nat) : Int) := ⟨_, rfl⟩
 have hpos : 0 < 2 ^ (k % 16).toNat := Nat.two_pow_pos _
 refine ⟨_, l2small_fs C hp2 hva hv hsh hpos (by omega) hr2 hq hll, ?_⟩
 iterate 2 all_goals try cbv; with_reducible repeat' first | exact ⟨⟩ | apply And.intro | intro _
 all_goals try exact oH

theorem l2trail_fs (C : Cx P gl) {n k m : Nat} {c : Int} {p : List PV} (hp : p = intsL (dg n)) (hn : n = 2 ^ k * (2 * m + 1)) (hc : c = k) (hl : (dg n).length ≤ 100000000) : FS P gl 200 [.agg [.lst p]] (· = I c) := by
 have hbit : ∀ i : Nat, i ≤ k → ((n / 2 ^ i % 2 : Nat) : Int) = if i = k then 1 else 0 := by
  intro i hi
  obtain ⟨d, rfl⟩ : ∃ d, k = i + d := ⟨k - i, by omega⟩
  rw [hn, Nat.pow_add, Nat.mul_assoc, Nat.mul_div_cancel_left _ (Nat.two_pow_pos i)]
  cases d with
  | zero => simp
  | succ d => rw [if_neg (by omega), Nat.pow_succ, Nat.mul_comm (2 ^ d), Nat.mul_assoc]; omega
 have hkl : (k : Int) < 16 * (dg n).length := by
  have h1 := val_lt_pow (valid_dg n)
  rw [val_dg] at h1
  have h2 : n < 2 ^ (16 * (dg n).length) := by
   have e : (65536 : Int) ^ (dg n).length = ((2 ^ (16 * (dg n).length) : Nat) : Int) := by
    rw [Nat.pow_mul, Int.natCast_pow]; rfl
   rw [e] at h1
   exact Int.ofNat_lt.1 h1
  have h3 : 2 ^ k ≤ n := by rw [hn]; exact Nat.le_mul_of_pos_right _ (by omega)
  have h4 : 2 ^ k < 2 ^ (16 * (dg n).length) := Nat.lt_of_le_of_lt h3 h2
  have := (Nat.pow_lt_pow_iff_right (by decide : 1 < 2)).1 h4
  omega
 rw [← hc] at hkl
 have hc0 : 0 ≤ c := by omega
 have hc1 : c < 1600000000 := by omega
 have hcalls : ∀ i : Int, 0 ≤ i → i ≤ c → ∃ b : Int, ((b = 1 ∧ i = c) ∨ (b = 0 ∧ i < c)) ∧ b = ((n / 2 ^ i.toNat % 2 : Nat) : Int) := by
  intro i hi0 hi1
  refine ⟨((n / 2 ^ i.toNat % 2 : Nat) : Int), ?_, rfl⟩
  rw [hbit i.toNat (by omega)]
  by_cases h : i = c
  ·rw [if_pos (by omega)]; exact .inl ⟨rfl, h⟩
  ·rw [if_neg (by omega)]; exact .inr ⟨rfl, by omega⟩
 clear hbit
 refine gS C func200 rfl rfl rfl fun A hA hI => ?_
 iterate 2 all_goals try cbv; with_reducible repeat' first | exact ⟨⟩ | apply And.intro | intro _
 all_goals try exact oH
 refine loopI hA [] (ι := Int) (fun x => [(3, .pv (I x))]) (fun x => []) (fun x => (c - x).toNat) (fun x => 0 ≤ x ∧ x ≤ c) 0 (by rfl) ?_ ?_ ?_
 all_goals try exact tH
 ·exact ⟨Int.le_refl 0, hc0⟩
 rintro i ⟨hi0, hi1⟩
 obtain ⟨b, hb2, hb⟩ := hcalls i hi0 hi1
 have hcall := l2bit_fs C hp hi0 (by omega) hb
 clear hb hcalls hn
 iterate 2 all_goals try cbv; with_reducible repeat' first | exact ⟨⟩ | apply And.intro | intro _
 all_goals try exact oH
 refine callS hA rfl (hcall) ?_; rintro _ rfl
 iterate 2 all_goals try cbv; with_reducible repeat' first | exact ⟨⟩ | apply And.intro | intro _
 all_goals try exact oH
 ·have h : i = c := by exact eH
  rw [h]
 ·have h : i < c := by exact eH
  obtain ⟨y1, hy1⟩ : ∃ y, y = i + 1 := ⟨_, rfl⟩
  refine ⟨⟨y1, ?_⟩, ?_, ?_⟩
  rotate_left
  ·cbv
   exact nH
  ·exact eH
  ·exact ⟨by omega, by omega⟩

end Tryz
end Go.Proofs
