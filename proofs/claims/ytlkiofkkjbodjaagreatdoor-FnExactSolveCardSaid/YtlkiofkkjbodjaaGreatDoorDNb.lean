/- math/bits: the number of trailing zero bits, the number of bits. -/
import Derived.Test.YtlkiofkkjbodjaaGreatDoorDSx
import Derived.WalkKit
import Derived.Tactics
import Derived.Laws.Bits64b
import Derived.Lib.TrailingZeros
import Derived.Test.YtlkiofkkjbodjaaGreatDoorDEvD
import Derived.Lib.BitFns
set_option maxHeartbeats 4000000
set_option maxRecDepth 100000
namespace Go.Proofs
open Go Go.Pe Go.Dg Go.RowKit
namespace Tryz
set_option linter.unusedSimpArgs false
set_option linter.unusedVariables false
variable {P : Program} {gl : List (Nat × Obj)}

theorem tz_key (x a : Nat) (hx : x < 18446744073709551616) (hx0 : x ≠ 0) (hlow : x &&& (18446744073709551616 - x) = a) :
  IntKind.u64.wrap (bits BinOp.and IntKind.u64 (x : Int) (IntKind.u64.wrap (-(x : Int))) * 285870213051353865) / 288230376151711744 = ((a * 285870213051353865 % 18446744073709551616 / 288230376151711744 : Nat) : Int) := by
 have e1 : IntKind.u64.wrap (-(x : Int)) = ((18446744073709551616 - x : Nat) : Int) := by rw [IntKind.wrap_u64]; omega
 rw [e1, bits_and_u64_nat x _ hx (by omega), hlow, IntKind.wrap_u64]
 omega

theorem tz64_core (x k idx : Nat) (w : World) (hx0 : ((x : Int) == 0) = false)
  (key : IntKind.u64.wrap (bits BinOp.and IntKind.u64 (x : Int) (IntKind.u64.wrap (-(x : Int))) * 285870213051353865) / 288230376151711744 = (idx : Int))
  (hi : idx < 64) (hk : k < 64) (hcell : w.cell? ⟨1, idx, none⟩ = some (.int .u8 k)) :
  Calls Tryz.prog 277 #[.int .u64 x] w fun e w' => e = .returned (.int .i64 k) ∧ w' = w := by
 go_enter Tryz.func277, Tryz.ntmps277
 go_wp2_with (simp only [key])
 go_ret
 exact ⟨rfl, rfl⟩

theorem FS_leaf1 {P : Program} {gl : List (Nat × Obj)} {f : FuncId} {u r : Value} (hc : callable P f = true) (hr : free r = true)
  (h : ∀ w, Glob gl w → Calls P f #[u] w fun e w' => e = .returned r ∧ w' = w) : FS P gl f [.val u] (· = .val r) := by
 refine ⟨hc, fun w S vs hgl _ hargs => ?_⟩
 have h0 := hargs 0 (by simp)
 have e : vs 0 = u := by
  simp only [List.getElem_cons_zero] at h0
  generalize vs 0 = v at h0
  cases h0; rfl
 have ea : (vrange [PV.val u].length vs).toArray = #[u] := by
  simp [vrange, List.range, List.range.loop, e]
 rw [ea]
 refine (h w hgl).mono ?_
 rintro e w' ⟨rfl, rfl⟩
 exact ⟨r, _, rfl, rfl, Below.refl _ _, .val _ hr⟩

theorem tz64_fs (C : Cx P gl) {k m x : Nat} {y : Int} (hy : y = x) (hk : x = 2 ^ k * (2 * m + 1)) (hx : x < 18446744073709551616) : FS P gl 277 [.val (.int .u64 y)] (· = I k) := by
 subst hy
 obtain ⟨rfl, cs, t, fr, hmem, htab⟩ := C
 refine FS_leaf1 (by kernel_rfl) rfl fun w hgl => ?_
 have h0 := hgl _ hmem
 have hx0 : x ≠ 0 := by
  rw [hk]
  exact Nat.ne_of_gt (Nat.mul_pos (Nat.two_pow_pos k) (by omega))
 obtain ⟨hlow, hk64⟩ := Lib.lowest_bit 64 x hx0 hx
 have hkk : Lib.ctz 64 x = k := by
  obtain ⟨m', h1, h2⟩ := Lib.ctzFrom_spec 64 x (by omega) hx
  have h3 : Lib.ctz 64 x = Lib.ctzFrom 64 x := by unfold Lib.ctz; rw [if_neg hx0]
  rw [h3]
  exact (odd_part (hk.symm.trans h1)).symm
 rw [hkk] at hlow hk64
 obtain ⟨hi, ht⟩ := Lib.deBruijn64_at _ hk64
 have hcell : w.cell? ⟨1, 2 ^ k * 285870213051353865 % 18446744073709551616 / 288230376151711744, none⟩ = some (.int .u8 k) := by
  have := htab _ hi
  rw [ht] at this
  unfold World.cell?
  simp only [h0]
  simpa using this
 exact tz64_core x k _ w (by simp; omega) (tz_key x _ hx hx0 hlow) hi hk64 hcell

theorem tz_fs (C : Cx P gl) {k m x : Nat} {y c : Int} (hy : y = x) (hk : x = 2 ^ k * (2 * m + 1)) (hx : x < 18446744073709551616) (hc : c = k) : FS P gl 264 [.val (.int .u64 y)] (· = I c) := by
 refine gS C func264 rfl rfl rfl fun A hA hI => ?_
 have h0 := tz64_fs C hy hk hx
 rw [← hc] at h0
 iterate 2 all_goals try cbv; with_reducible repeat' first | exact ⟨⟩ | apply And.intro | intro _
 all_goals try exact oH
 refine callS hA rfl (h0) ?_; rintro _ rfl
 iterate 2 all_goals try cbv; with_reducible repeat' first | exact ⟨⟩ | apply And.intro | intro _
 all_goals try exact oH

theorem bitLen_bl : ∀ x : Nat, x < 18446744073709551616 → Lib.bitLen x = bl x := by
 intro x
 induction x using Nat.strongRecOn with
 | _ x ih =>
  intro h
  by_cases h0 : x = 0
  ·subst h0; rw [bl_zero]; rfl
  ·rw [Lib.bitLen_half x h0 h, bl_pos h0, ih (x / 2) (by omega) (by omega)]
   omega

theorem len8_at : ∀ n : Fin 256, wrap64 (wrap64 ((Lib.len8tab.data[n.val]'(Nat.lt_of_lt_of_le n.isLt (by decide +kernel))).toNat : Int)) = (Lib.bitLen n.val : Int) := by decide +kernel

theorem len8_at2 : ∀ n : Fin 256, wrap64 (8 + wrap64 ((Lib.len8tab.data[n.val]'(Nat.lt_of_lt_of_le n.isLt (by decide +kernel))).toNat : Int)) = ((8 + Lib.bitLen n.val : Nat) : Int) := by decide +kernel

theorem len64_core (x : Int) (w : World) (h0 : 0 ≤ x) (h1 : x ≤ 65535) :
  Calls Tryz.prog 275 #[.int .u64 x] w fun e w' => e = .returned (.int .i64 (Lib.bitLen x.toNat)) ∧ w' = w := by
 have hsz : (Lib.len8tab.size : Int) = 256 := by decide +kernel
 go_enter Tryz.func275, Tryz.ntmps275
 go_wp2
 ·go_ret
  refine ⟨congrArg Ending.returned (congrArg (Value.int IntKind.i64) ?_), rfl⟩
  have hx : 256 ≤ x := by assumption
  have e : (x / 256).toNat = x.toNat / 256 := by omega
  have s := Lib.bitLen_shift8 x.toNat (by omega) (by omega)
  have k1 := len8_at2 ⟨(x / 256).toNat, by omega⟩
  simp only [e] at k1
  rw [s]
  simp only [e]
  exact k1
 ·go_ret
  refine ⟨congrArg Ending.returned (congrArg (Value.int IntKind.i64) ?_), rfl⟩
  have hx : x < 256 := by assumption
  exact (len8_at ⟨x.toNat, by omega⟩)

theorem len64_fs {x : Nat} {y : Int} (hy : y = x) (hx : x < 65536) : FS Tryz.prog gl 275 [.val (.int .u64 y)] (· = I (bl x)) := by
 subst hy
 refine FS_leaf1 (by kernel_rfl) rfl fun w hgl => ?_
 have := len64_core x w (by omega) (by omega)
 rw [Int.toNat_natCast, bitLen_bl x (by omega)] at this
 exact this

theorem len_fs (C : Cx P gl) {x : Nat} {y c : Int} (hy : y = x) (hx : x < 65536) (hc : c = bl x) : FS P gl 260 [.val (.int .u64 y)] (· = I c) := by
 obtain ⟨rfl, hG⟩ := C
 refine FS_ofT (args := fun A => [.val (.int .u64 y)]) (R := fun A rr => rr = I c) Tryz.hT Tryz.mix Tryz.func260 rfl rfl (Nat.le_of_ble_eq_true rfl) ?_
 generalize hP : Tryz.prog = P
 intro A hA
 have C : Tryz.Cx P gl := ⟨hP.symm, hG⟩
 have hI : intsL = A.ints := by subst hA; rfl
 have h0 := len64_fs (gl := gl) hy hx
 rw [hP, ← hc] at h0
 iterate 2 all_goals try cbv; with_reducible repeat' first | exact ⟨⟩ | apply And.intro | intro _
 all_goals try exact oH
 refine callS hA rfl (h0) ?_; rintro _ rfl
 iterate 2 all_goals try cbv; with_reducible repeat' first | exact ⟨⟩ | apply And.intro | intro _
 all_goals try exact oH

end Tryz
end Go.Proofs
