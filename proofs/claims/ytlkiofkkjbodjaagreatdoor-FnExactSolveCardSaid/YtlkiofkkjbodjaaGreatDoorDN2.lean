/- Contracts: shifts, bits, quotients by a digit, over numbers as lists of digits. -/
import Derived.Test.YtlkiofkkjbodjaaGreatDoorDN0
import Derived.Test.YtlkiofkkjbodjaaGreatDoorDN1
import Derived.Test.YtlkiofkkjbodjaaGreatDoorDNb
import Derived.Test.YtlkiofkkjbodjaaGreatDoorDEvD
set_option maxHeartbeats 1000000
set_option maxRecDepth 100000
namespace Go.Proofs
open Go Go.Pe Go.Dg
namespace Tryz
set_option linter.unusedSimpArgs false
set_option linter.unusedVariables false
variable {P : Program} {gl : List (Nat × Obj)}

theorem times_fs (C : Cx P gl) {a b : List Int} {n : Nat} {p q r : List PV} (hp : p = intsL a) (hq : q = intsL b) (ha : Valid a) (hb : Valid b) (hv : val a * val b = n) (hr : r = intsL (dg n))
  (hl : a.length + b.length ≤ 1000000000) : FS P gl 158 [.lst p, .lst q] (· = .lst r) := by
 obtain ⟨rfl, _⟩ := C; subst hp hq hr
 have := timesO_fs (gl := gl) a b ha hb hl
 rw [hv, Int.toNat_natCast] at this; exact this

theorem l2mul_fs (C : Cx P gl) {a b : List Int} {n : Nat} {p q r : List PV} (hp : p = intsL a) (hq : q = intsL b) (ha : Valid a) (hb : Valid b) (hv : val a * val b = n) (hr : r = intsL (dg n))
  (hl : a.length + b.length ≤ 1000000000) : FS P gl 211 [.agg [.lst p], .agg [.lst q]] (· = .agg [.lst r]) := by
 obtain ⟨rfl, _⟩ := C; subst hp hq hr
 have := l2mulO_fs (gl := gl) a b ha hb hl
 rw [hv, Int.toNat_natCast] at this; exact this

theorem l2norm_fs (C : Cx P gl) {l : List Int} {p r : List PV} (hp : p = intsL l) (hr : r = intsL (trimL l)) (he : l.length ≤ 1000000000) : FS P gl 229 [.lst p] (· = .agg [.lst r]) := by
 obtain ⟨rfl, _⟩ := C; subst hp hr
 exact l2normO_fs (gl := gl) l he

theorem small_fs (C : Cx P gl) {k : Int} {n : Nat} {r : List PV} (hk : k = n) (hr : r = intsL (dg n)) (h : n ≤ 9223372036854775807) : FS P gl 131 [I k] (· = .lst r) := by
 obtain ⟨rfl, _⟩ := C; subst hk hr
 have := smallO_fs (gl := gl) n (by omega) (by omega)
 rw [Int.toNat_natCast] at this; exact this

theorem l2of_fs (C : Cx P gl) {k : Int} {n : Nat} {r : List PV} (hk : k = n) (hr : r = intsL (dg n)) (h : n ≤ 9223372036854775807) : FS P gl 203 [I k] (· = .agg [.lst r]) := by
 obtain ⟨rfl, _⟩ := C; subst hk hr
 have := l2ofO_fs (gl := gl) n (by omega) (by omega)
 rw [Int.toNat_natCast] at this; exact this

theorem within_fs (C : Cx P gl) {n l h : Int} {b : Bool} (hb : b = (decide (l ≤ n) && decide (n ≤ h))) : FS P gl 59 [I n, I l, I h] (· = B b) := by
 obtain ⟨rfl, _⟩ := C; subst hb
 exact withinO_fs (gl := gl) n l h

theorem compare_fs (C : Cx P gl) {x y : Nat} {p q : List PV} {c : Int} (hp : p = intsL (dg x)) (hq : q = intsL (dg y)) (hc : c = cmpN x y) (hx : (dg x).length ≤ 1000000000) : FS P gl 221 [.lst p, .lst q] (· = I c) := by
 obtain ⟨rfl, _⟩ := C; subst hp hq hc
 exact compareO_fs (gl := gl) x y hx

theorem up_fs (C : Cx P gl) {a : List Int} {k k' : Int} {n : Nat} {p r : List PV} (hp : p = intsL a) (ha : Valid a) (hk : k' = k) (hv : val a * 2 ^ k.toNat = n) (hr : r = intsL (dg n)) (h0 : 0 ≤ k) (h1 : k ≤ 100000000) (hl : a.length ≤ 100000000) :
  FS P gl 186 [.lst p, I k'] (· = .lst r) := by
 obtain ⟨rfl, _⟩ := C; subst hp hr hk
 have := upO_fs (gl := gl) a ha k' h0 h1 hl
 rw [hv, Int.toNat_natCast] at this; exact this

theorem band1 {x : Int} (h0 : 0 ≤ x) (h1 : x < 9223372036854775808) : AR.std.band .i64 x 1 = x % 2 := by
 have e : x = ((x.toNat : Nat) : Int) := by omega
 show IntKind.i64.wrap (BitVec.ofInt 64 x &&& BitVec.ofInt 64 1).toNat = _
 rw [BitVec.toNat_and, IntKind.wrap_i64]
 have h2 : (BitVec.ofInt 64 x).toNat = x.toNat := by
  rw [BitVec.toNat_ofInt]; omega
 have h3 : (BitVec.ofInt 64 1).toNat = 1 := rfl
 rw [h2, h3, Nat.and_one_is_mod]
 omega

theorem div16 {x : Int} (h0 : 0 ≤ x) (h1 : x ≤ 9223372036854775807) : AR.std.quo .i64 x 16 = x / 16 := by
 show IntKind.i64.wrap (x.tdiv 16) = _
 rw [Int.tdiv_eq_ediv_of_nonneg h0, wrapi (by omega) (by omega)]
theorem mod16 {x : Int} (h0 : 0 ≤ x) : AR.std.rem .i64 x 16 = x % 16 := by
 show x.tmod 16 = _
 rw [Int.tmod_eq_emod_of_nonneg h0]

theorem down_fs (C : Cx P gl) {a : List Int} {n : Nat} {k k' : Int} {p r : List PV} (hp : p = intsL a) (ha : Valid a) (hv : val a = n) (hk : k' = k) (hr : r = intsL (dg (n / 2 ^ k.toNat))) (h0 : 0 ≤ k) (h1 : k ≤ 1000000000000) (hl : a.length ≤ 100000000) :
  FS P gl 238 [.lst p, I k'] (· = .lst r) := by
 subst hk
 refine gS C func238 rfl rfl rfl fun A hA hI => ?_
 have e1 : A.quo .i64 k' 16 = k' / 16 := by subst hA; exact div16 h0 (by omega)
 have e2 : A.rem .i64 k' 16 = k' % 16 := by subst hA; exact mod16 h0
 iterate 2 all_goals try cbv; with_reducible repeat' first | exact ⟨⟩ | apply And.intro | intro _
 all_goals try exact oH
 ·subst hA
  subst_vars
  simp only [AR.std, natCast_eq, sH, reduceCtorEq] at *
  try simp (disch := omega) only [AR.std, natCast_eq, sH, reduceCtorEq] at *
  congr 2
  have h : a.length ≤ k'.toNat / 16 := by omega
  have := val_drop_div ha (k'.toNat / 16)
  rw [val_drop_ge h, hv] at this
  have h2 : (n / 65536 ^ (k'.toNat / 16) : Nat) = 0 := by
   have e : ((n / 65536 ^ (k'.toNat / 16) : Nat) : Int) = (n : Int) / 65536 ^ (k'.toNat / 16) := by
    rw [Int.natCast_ediv, Int.natCast_pow]; rfl
   omega
  rw [← down_val, h2, Nat.zero_div, dg_zero]
  rfl
 ·have hlt : k' / 16 < a.length := by exact eH
  have hpb' : A.sl p (A.quo .i64 k' 16) (A.cast (A.len p)) = intsL (a.drop (k'.toNat / 16)) := by
   rw [e1]
   subst hA hp
   simp only [AR.std, natCast_eq, sH, reduceCtorEq]
   have e3 : (k' / 16).toNat = k'.toNat / 16 := by omega
   rw [e3, List.take_length]
  obtain ⟨pb, hpb⟩ : ∃ y, y = A.sl p (A.quo .i64 k' 16) (A.cast (A.len p)) := ⟨_, rfl⟩; simp only [← hpb]
  rw [← hpb] at hpb'
  have hvb : val (a.drop (k'.toNat / 16)) = ((n / 65536 ^ (k'.toNat / 16) : Nat) : Int) := by
   rw [val_drop_div ha, hv, Int.natCast_ediv, Int.natCast_pow]; rfl
  have hbv := ha.drop (k'.toNat / 16)
  have hbl : (a.drop (k'.toNat / 16)).length ≤ 100000000 := by simp; omega
  have hs : (k' % 16).toNat < 16 := by omega
  have hsk : (k' % 16).toNat = k'.toNat % 16 := by omega
  have hpw := pow2_le hs
  generalize a.drop (k'.toNat / 16) = b at *
  refine loopI hA [] (ι := Int × List Int) (fun x => [(6, .own 0), (23, .pv (I x.1))]) (fun x => [(0, .row 3 1 (A.ints x.2))]) (fun x => (b.length - x.1).toNat) (fun x => downI b (k' % 16).toNat x.1 x.2) (0, []) (by rfl) ?_ ?_ ?_
  all_goals try exact tH
  ·exact downI_zero b _
  rintro ⟨i, o⟩ hinv
  simp only at hinv
  have hx := hbv.get i.toNat
  have hy := hbv.get (i + 1).toNat
  have hq1 : 0 ≤ b.getD i.toNat 0 / 2 ^ (k' % 16).toNat := Int.ediv_nonneg hx.1 (by omega)
  have hq2 : 0 ≤ (b.getD i.toNat 0 + b.getD (i + 1).toNat 0 * 65536) / 2 ^ (k' % 16).toNat := Int.ediv_nonneg (by omega) (by omega)
  have hnext := downI_next hbv hs hinv
  have hexit := fun h => downI_exit hinv h hvb
  obtain ⟨hi0, hi1, hol, hov, hval⟩ := id hinv
  iterate 2 all_goals try cbv; with_reducible repeat' first | exact ⟨⟩ | apply And.intro | intro _
  all_goals try exact oH
  iterate 2 all_goals try cbv; with_reducible repeat' first | exact ⟨⟩ | apply And.intro | intro _
  all_goals try exact oH
  ·obtain ⟨y1, hy1⟩ : ∃ y, y = i + 1 := ⟨_, rfl⟩
   obtain ⟨y2, hy2⟩ : ∃ y, y = o ++ [(b.getD i.toNat 0 + b.getD (i + 1).toNat 0 * 65536) / 2 ^ (k' % 16).toNat % 65536] := ⟨_, rfl⟩
   refine ⟨⟨(y1, y2), ?_⟩, ?_, ?_⟩
   rotate_left
   ·cbv
    exact nH
   ·exact eH
   ·(subst hA; subst_vars; simp only [AR.std, natCast_eq, sH, reduceCtorEq] at *; try simp (disch := omega) only [AR.std, natCast_eq, sH, reduceCtorEq] at *); exact hnext (by omega)
  ·obtain ⟨y1, hy1⟩ : ∃ y, y = i + 1 := ⟨_, rfl⟩
   obtain ⟨y2, hy2⟩ : ∃ y, y = o ++ [b.getD i.toNat 0 / 2 ^ (k' % 16).toNat % 65536] := ⟨_, rfl⟩
   refine ⟨⟨(y1, y2), ?_⟩, ?_, ?_⟩
   rotate_left
   ·cbv
    exact nH
   ·exact eH
   ·subst hA
    subst_vars
    simp only [AR.std, natCast_eq, sH, reduceCtorEq] at *
    try simp (disch := omega) only [AR.std, natCast_eq, sH, reduceCtorEq] at *
    have := hnext (by omega)
    rw [getD_ge (l := b) (k := (i + 1).toNat) (by omega), Int.zero_mul, Int.add_zero] at this
    exact this
  ·refine callS hA rfl (trim_fs C (l := o) (p := A.ints o) (r := r) (by subst hA; rfl) (by rw [hr, hexit (by exact eH), hsk, down_val]) (by exact eH)) ?_; rintro _ rfl
   cbv

theorem bitOf_fs (C : Cx P gl) {n : Nat} {i b : Int} {p : List PV} (hp : p = intsL (dg n)) (h0 : 0 ≤ i) (h1 : i ≤ 1000000000000) (hb : b = ((n / 2 ^ i.toNat % 2 : Nat) : Int)) :
  FS P gl 218 [.lst p, I i] (· = I b) := by
 have hd := dg_getD (i.toNat / 16) n
 have hbv := bit_val n i.toNat
 have hs : (i % 16).toNat < 16 := by omega
 have hsk : (i % 16).toNat = i.toNat % 16 := by omega
 have hik : (i / 16).toNat = i.toNat / 16 := by omega
 have hg := (valid_dg n).get (i / 16).toNat
 have hpw := pow2_le hs
 have hq1 : 0 ≤ (dg n).getD (i / 16).toNat 0 / 2 ^ (i % 16).toNat := Int.ediv_nonneg hg.1 (by omega)
 have hq2 : (dg n).getD (i / 16).toNat 0 / 2 ^ (i % 16).toNat < 65536 := Int.lt_of_le_of_lt (Int.ediv_le_self _ hg.1) hg.2
 have hbb : b = (dg n).getD (i / 16).toNat 0 / 2 ^ (i % 16).toNat % 2 := by
  rw [hb, ← hbv, hik, hd, hsk, Int.natCast_emod, Int.natCast_ediv, Int.natCast_pow]
  rfl
 clear hb
 refine gS C func218 rfl rfl rfl fun A hA hI => ?_
 iterate 2 all_goals try cbv; with_reducible repeat' first | exact ⟨⟩ | apply And.intro | intro _
 all_goals try exact oH
 ·have hz : (dg n).getD (i / 16).toNat 0 = 0 := getD_ge (by exact eH)
  rw [hbb, hz, Int.zero_ediv]
  rfl
 ·have e1 : A.shr .i64 (A.gi (A.el p (A.nat (A.quo .i64 i 16))) 0) (A.rem .i64 i 16) = (dg n).getD (i / 16).toNat 0 / 2 ^ (i % 16).toNat := by (subst hA; subst_vars; simp only [AR.std, natCast_eq, sH, reduceCtorEq] at *; try simp (disch := omega) only [AR.std, natCast_eq, sH, reduceCtorEq] at *)
  have e2 : A.band .i64 ((dg n).getD (i / 16).toNat 0 / 2 ^ (i % 16).toNat) 1 = (dg n).getD (i / 16).toNat 0 / 2 ^ (i % 16).toNat % 2 := by
   subst hA; exact band1 hq1 (by omega)
  simp only [e1, e2, hbb]

theorem divideSmall_fs (C : Cx P gl) {a : List Int} {n e : Nat} {d : Int} {p r : List PV} {q : Int} (hp : p = intsL a) (ha : Valid a) (hv : val a = n) (hd : d = e) (he0 : 0 < e) (he1 : e < 65536)
  (hr : r = intsL (dg (n / e))) (hq : q = ((n % e : Nat) : Int)) (hl : a.length ≤ 100000000) : FS P gl 259 [.lst p, I d] (· = .tup [.lst r, I q]) := by
 have hd0 : 0 < d := by omega
 have hd1 : d < 65536 := by omega
 refine gS C func259 rfl rfl rfl fun A hA hI => ?_
 iterate 2 all_goals try cbv; with_reducible repeat' first | exact ⟨⟩ | apply And.intro | intro _
 all_goals try exact oH
 refine loopI hA [] (ι := Int × Int × List Int) (fun x => [(6, .own 0), (7, .pv (I x.2.1)), (8, .pv (I x.1))]) (fun x => [(0, .row 3 1 (A.ints x.2.2))]) (fun x => (x.1 + 1).toNat) (fun x => dsI a d x.1 x.2.1 x.2.2) (a.length - 1, 0, List.replicate a.length 0) (by rfl) ?_ ?_ ?_
 all_goals try exact tH
 ·exact dsI_zero a hd0
 rintro ⟨i, t, o⟩ hinv
 simp only at hinv
 have hnext := fun {x : Int} hi => dsI_next (x := x) ha hd0 hd1 hinv hi
 have hexit := fun hi => dsI_exit hinv hi hv hd
 have hx := ha.get i.toNat
 obtain ⟨hi0, hi1, hol, hov, ht, hval⟩ := id hinv
 have ht0 : 0 ≤ t := by rw [ht]; exact Int.emod_nonneg _ (by omega)
 have ht1 : t < d := by rw [ht]; exact Int.emod_lt_of_pos _ (by omega)
 have hx2 : 0 ≤ (t * 65536 + a.getD i.toNat 0) / d := Int.ediv_nonneg (by omega) (by omega)
 have hx3 : (t * 65536 + a.getD i.toNat 0) / d ≤ t * 65536 + a.getD i.toNat 0 := Int.ediv_le_self _ (by omega)
 clear ht hval
 iterate 2 all_goals try cbv; with_reducible repeat' first | exact ⟨⟩ | apply And.intro | intro _
 all_goals try exact oH
 iterate 2 all_goals try cbv; with_reducible repeat' first | exact ⟨⟩ | apply And.intro | intro _
 all_goals try exact oH
 ·obtain ⟨y1, hy1⟩ : ∃ y, y = i - 1 := ⟨_, rfl⟩
  obtain ⟨y2, hy2⟩ : ∃ y, y = (t * 65536 + a.getD i.toNat 0) % d := ⟨_, rfl⟩
  obtain ⟨y3, hy3⟩ : ∃ y, y = o.set i.toNat ((t * 65536 + a.getD i.toNat 0) / d) := ⟨_, rfl⟩
  refine ⟨⟨(y1, y2, y3), ?_⟩, ?_, ?_⟩
  rotate_left
  ·cbv
   exact nH
  ·exact eH
  ·(subst hA; subst_vars; simp only [AR.std, natCast_eq, sH, reduceCtorEq] at *; try simp (disch := omega) only [AR.std, natCast_eq, sH, reduceCtorEq] at *); exact (hnext (by omega) rfl).1
 ·refine callS hA rfl (trim_fs C (l := o) (p := A.ints o) (r := r) (by subst hA; rfl) (by rw [hr, (hexit (by exact eH)).1]) (by exact eH)) ?_; rintro _ rfl
  iterate 2 all_goals try cbv; with_reducible repeat' first | exact ⟨⟩ | apply And.intro | intro _
  all_goals try exact oH
  rw [hq, ← (hexit (by exact eH)).2]

end Tryz
end Go.Proofs
