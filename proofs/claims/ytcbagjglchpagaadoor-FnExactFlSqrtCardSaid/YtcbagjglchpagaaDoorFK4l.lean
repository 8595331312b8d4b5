/- Lemmas of the float of a number, in the program. -/
import Derived.Test.YtcbagjglchpagaaDoorFK3
namespace Go.Proofs
open Go Go.Pe Go.Dg
namespace Tryd
set_option linter.unusedSimpArgs false
set_option linter.unusedVariables false
variable {P : Program} {gl : List (Nat × Obj)}

theorem bor_add {a b : Int} {x c s : Nat} (ha : a = x) (hb : b = ((c * 2 ^ s : Nat) : Int)) (h1 : x < 2 ^ s) (h2 : x + c * 2 ^ s < 9223372036854775808) : AR.std.bor .i64 a b = a + b := by
  have e : ∀ y : Nat, y < 9223372036854775808 → (BitVec.ofInt 64 (y : Int)).toNat = y := by
    intro y hy
    rw [BitVec.toNat_ofInt]
    omega
  show IntKind.i64.wrap ((BitVec.ofInt 64 a ||| BitVec.ofInt 64 b).toNat : Int) = _
  rw [ha, hb, BitVec.toNat_or, e _ (by omega), e _ (by omega), Nat.or_comm, ← Nat.shiftLeft_eq, ← Nat.shiftLeft_add_eq_or_of_lt h1, Nat.shiftLeft_eq, wrapi (by omega) (by omega)]
  omega

theorem val_take_succ {l : List Int} {k : Nat} (h : k < l.length) : val (l.take (k + 1)) = val (l.take k) + 65536 ^ k * l.getD k 0 := by
  have h1 := val_td (l.take (k + 1)) k
  rw [List.take_take, show min k (k + 1) = k by omega, List.drop_take, show k + 1 - k = 1 by omega, List.drop_eq_getElem_cons h] at h1
  rw [show List.take 1 (l[k] :: List.drop (k + 1) l) = [l[k]] from rfl] at h1
  rw [h1, List.getD, List.getElem?_eq_getElem h]
  simp [val]

/-- a digit put to those below it -/
theorem orStep {l : List Int} {n : Nat} {i w x : Int} (hv : Valid l) (hn : val l = n) (hb : n < 9007199254740992) (hl : l.length ≤ 4) (h0 : 0 ≤ i) (hi : i < l.length) (hw : w = val (l.take i.toNat)) (hx : x = l.getD i.toNat 0) :
    AR.std.bor .i64 w (AR.std.shl .i64 x (AR.std.mul .i64 16 i)) = val (l.take (i + 1).toNat) := by
  have hk : i.toNat < l.length := by omega
  obtain ⟨k, hk'⟩ : ∃ k, k = i.toNat := ⟨_, rfl⟩
  rw [← hk'] at hw hx hk
  have ht := take_lt hv k
  have ht0 := val_nonneg (hv.take k)
  have hdig := hv.get k
  have htd := val_td l (k + 1)
  have hd0 := val_nonneg (hv.drop (k + 1))
  have hts := val_take_succ hk
  rw [← hx] at hdig hts
  have e16 : (65536 : Int) ^ k = ((2 ^ (16 * k) : Nat) : Int) := by
    rw [← pow_cast, show (65536 : Nat) = 2 ^ 16 from rfl, ← Nat.pow_mul]
  have hpos : (0 : Int) ≤ 65536 ^ (k + 1) * val (l.drop (k + 1)) := Int.mul_nonneg (by rw [← pow_cast]; exact Int.natCast_nonneg _) hd0
  have hsum : w + 65536 ^ k * x ≤ n := by rw [hw, ← hts]; omega
  obtain ⟨p, hp⟩ : ∃ p : Int, p = 65536 ^ k * x := ⟨_, rfl⟩
  rw [← hp] at hsum hts
  have hp0 : 0 ≤ p := by rw [hp]; exact Int.mul_nonneg (by rw [← pow_cast]; exact Int.natCast_nonneg _) (by omega)
  have hpx : x * 2 ^ (16 * k) = p := by
    rw [hp, e16, Int.mul_comm, Int.natCast_pow]; rfl
  have hm : AR.std.mul .i64 16 i = 16 * i := wrapi (by omega) (by omega)
  have hs : AR.std.shl .i64 x (16 * i) = p := by
    show IntKind.i64.wrap (x * 2 ^ (min (16 * i).toNat 64)) = p
    rw [show min (16 * i).toNat 64 = 16 * k by omega, hpx, wrapi (by omega) (by omega)]
  rw [hm, hs, show (i + 1).toNat = k + 1 by omega, hts, ← hw]
  refine bor_add (x := w.toNat) (c := x.toNat) (s := 16 * k) (by omega) ?_ ?_ ?_
  · rw [Int.natCast_mul, Int.toNat_of_nonneg (by omega), ← e16, Int.mul_comm]; exact hp
  · rw [e16] at ht; omega
  · have : ((x.toNat * 2 ^ (16 * k) : Nat) : Int) = p := by rw [Int.natCast_mul, Int.toNat_of_nonneg (by omega), ← e16, Int.mul_comm]; exact hp.symm
    omega

end Tryd
end Go.Proofs
