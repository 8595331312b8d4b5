/- Contracts: shifts, bits, quotients by a digit, over numbers as lists of digits. -/
import Derived.Test.YtlkiofkkjbodjaaAN0
import Derived.Test.YtlkiofkkjbodjaaAN1
import Derived.Test.YtlkiofkkjbodjaaANb
import Derived.Test.YtlkiofkkjbodjaaAEvD
namespace Go.Proofs
open Go Go.Pe Go.Dg
namespace Try
set_option linter.unusedSimpArgs false
set_option linter.unusedVariables false
variable {P : Program} {gl : List (Nat × Obj)}

theorem times_fs (C : Cx P gl) {a b : List Int} {n : Nat} {p q r : List PV} (hp : p = intsL a) (hq : q = intsL b) (ha : Valid a) (hb : Valid b) (hv : val a * val b = n) (hr : r = intsL (dg n))
  (hl : a.length + b.length ≤ 1000000000) : FS P gl 19 [.lst p, .lst q] (· = .lst r) := by
 obtain ⟨rfl, _⟩ := C; subst hp hq hr
 have := timesO_fs (gl := gl) a b ha hb hl
 rw [hv, Int.toNat_natCast] at this; exact this

theorem small_fs (C : Cx P gl) {k : Int} {n : Nat} {r : List PV} (hk : k = n) (hr : r = intsL (dg n)) (h : n ≤ 9223372036854775807) : FS P gl 25 [I k] (· = .lst r) := by
 obtain ⟨rfl, _⟩ := C; subst hk hr
 have := smallO_fs (gl := gl) n (by omega) (by omega)
 rw [Int.toNat_natCast] at this; exact this

theorem l2of_fs (C : Cx P gl) {k : Int} {n : Nat} {r : List PV} (hk : k = n) (hr : r = intsL (dg n)) (h : n ≤ 9223372036854775807) : FS P gl 26 [I k] (· = .agg [.lst r]) := by
 obtain ⟨rfl, _⟩ := C; subst hk hr
 have := l2ofO_fs (gl := gl) n (by omega) (by omega)
 rw [Int.toNat_natCast] at this; exact this

theorem within_fs (C : Cx P gl) {n l h : Int} {b : Bool} (hb : b = (decide (l ≤ n) && decide (n ≤ h))) : FS P gl 14 [I n, I l, I h] (· = B b) := by
 obtain ⟨rfl, _⟩ := C; subst hb
 exact withinO_fs (gl := gl) n l h

theorem compare_fs (C : Cx P gl) {x y : Nat} {p q : List PV} {c : Int} (hp : p = intsL (dg x)) (hq : q = intsL (dg y)) (hc : c = cmpN x y) (hx : (dg x).length ≤ 1000000000) : FS P gl 28 [.lst p, .lst q] (· = I c) := by
 obtain ⟨rfl, _⟩ := C; subst hp hq hc
 exact compareO_fs (gl := gl) x y hx

theorem up_fs (C : Cx P gl) {a : List Int} {k k' : Int} {n : Nat} {p r : List PV} (hp : p = intsL a) (ha : Valid a) (hk : k' = k) (hv : val a * 2 ^ k.toNat = n) (hr : r = intsL (dg n)) (h0 : 0 ≤ k) (h1 : k ≤ 100000000) (hl : a.length ≤ 100000000) :
  FS P gl 29 [.lst p, I k'] (· = .lst r) := by
 obtain ⟨rfl, _⟩ := C; subst hp hr hk
 have := upO_fs (gl := gl) a ha k' h0 h1 hl
 rw [hv, Int.toNat_natCast] at this; exact this

theorem div16 {x : Int} (h0 : 0 ≤ x) (h1 : x ≤ 9223372036854775807) : AR.std.quo .i64 x 16 = x / 16 := by
 show IntKind.i64.wrap (x.tdiv 16) = _
 rw [Int.tdiv_eq_ediv_of_nonneg h0, wrapi (by omega) (by omega)]
theorem mod16 {x : Int} (h0 : 0 ≤ x) : AR.std.rem .i64 x 16 = x % 16 := by
 show x.tmod 16 = _
 rw [Int.tmod_eq_emod_of_nonneg h0]

end Try
end Go.Proofs
