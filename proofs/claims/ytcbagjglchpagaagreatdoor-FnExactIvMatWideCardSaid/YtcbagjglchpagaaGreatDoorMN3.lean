/- Contracts: bits, trailing zeros; the reference's sums, differences, orders over numbers as lists of digits. -/
import Derived.Test.YtcbagjglchpagaaGreatDoorMSx
import Derived.WalkKit
import Derived.Tactics
import Derived.Laws.Bits64b
import Derived.Lib.TrailingZeros
import Derived.Test.YtcbagjglchpagaaGreatDoorMEvD
import Derived.Lib.BitFns
import Derived.Test.YtcbagjglchpagaaGreatDoorMN0
import Derived.Test.YtcbagjglchpagaaGreatDoorMN1
namespace Go.Proofs
open Go Go.Pe Go.Dg Go.RowKit
namespace Tryz
set_option linter.unusedSimpArgs false
set_option linter.unusedVariables false
variable {P : Program} {gl : List (Nat × Obj)}

theorem tz_key (x a : Nat) (hx : x < 18446744073709551616) (hx0 : x ≠ 0) (hlow : x &&& (18446744073709551616 - x) = a) :
    IntKind.u64.wrap (bits BinOp.and IntKind.u64 (x : Int) (IntKind.u64.wrap (-(x : Int))) * 285870213051353865) / 288230376151711744 = ((a * 285870213051353865 % 18446744073709551616 / 288230376151711744 : Nat) : Int) := by
  have e1 : IntKind.u64.wrap (-(x : Int)) = ((18446744073709551616 - x : Nat) : Int) := by rw [IntKind.wrap_u64]; omega
  rw [e1, bits_and_u64_nat x _ hx (by omega), hlow, IntKind.wrap_u64]
  omega

set_option maxHeartbeats 1000000 in
theorem tz64_core (x k idx : Nat) (w : World) (hx0 : ((x : Int) == 0) = false)
    (key : IntKind.u64.wrap (bits BinOp.and IntKind.u64 (x : Int) (IntKind.u64.wrap (-(x : Int))) * 285870213051353865) / 288230376151711744 = (idx : Int))
    (hi : idx < 64) (hk : k < 64) (hcell : w.cell? ⟨1, idx, none⟩ = some (.int .u8 k)) :
    Calls Tryz.prog 222 #[.int .u64 x] w fun e w' => e = .returned (.int .i64 k) ∧ w' = w := by
  go_enter Tryz.func222, Tryz.ntmps222
  go_wp2_with (simp only [key])
  go_ret
  exact ⟨rfl, rfl⟩

theorem FS_leaf1 {P : Program} {gl : List (Nat × Obj)} {f : FuncId} {u r : Value} (hc : callable P f = true) (hr : free r = true)
    (h : ∀ w, Glob gl w → Calls P f #[u] w fun e w' => e = .returned r ∧ w' = w) : FS P gl f [.val u] (· = .val r) := by
  refine ⟨hc, fun w S vs hgl _ hargs => ?_⟩
  have h0 := hargs 0 (by simp)
  have e : vs 0 = u := by
    simp only [List.getElem_cons_zero] at h0
    generalize vs 0 = v at h0
    cases h0; rfl
  have ea : (vrange [PV.val u].length vs).toArray = #[u] := by
    simp [vrange, List.range, List.range.loop, e]
  rw [ea]
  refine (h w hgl).mono ?_
  rintro e w' ⟨rfl, rfl⟩
  exact ⟨r, _, rfl, rfl, Below.refl _ _, .val _ hr⟩

theorem tz64_fs (C : Cx P gl) {k m x : Nat} {y : Int} (hy : y = x) (hk : x = 2 ^ k * (2 * m + 1)) (hx : x < 18446744073709551616) : FS P gl 222 [.val (.int .u64 y)] (· = I k) := by
  subst hy
  obtain ⟨rfl, cs, t, fr, hmem, htab⟩ := C
  refine FS_leaf1 (by kernel_rfl) rfl fun w hgl => ?_
  have h0 := hgl _ hmem
  have hx0 : x ≠ 0 := by
    rw [hk]
    exact Nat.ne_of_gt (Nat.mul_pos (Nat.two_pow_pos k) (by omega))
  obtain ⟨hlow, hk64⟩ := Lib.lowest_bit 64 x hx0 hx
  have hkk : Lib.ctz 64 x = k := by
    obtain ⟨m', h1, h2⟩ := Lib.ctzFrom_spec 64 x (by omega) hx
    have h3 : Lib.ctz 64 x = Lib.ctzFrom 64 x := by unfold Lib.ctz; rw [if_neg hx0]
    rw [h3]
    exact (odd_part (hk.symm.trans h1)).symm
  rw [hkk] at hlow hk64
  obtain ⟨hi, ht⟩ := Lib.deBruijn64_at _ hk64
  have hcell : w.cell? ⟨1, 2 ^ k * 285870213051353865 % 18446744073709551616 / 288230376151711744, none⟩ = some (.int .u8 k) := by
    have := htab _ hi
    rw [ht] at this
    unfold World.cell?
    simp only [h0]
    simpa using this
  exact tz64_core x k _ w (by simp; omega) (tz_key x _ hx hx0 hlow) hi hk64 hcell

set_option maxRecDepth 100000 in
theorem tz_fs (C : Cx P gl) {k m x : Nat} {y c : Int} (hy : y = x) (hk : x = 2 ^ k * (2 * m + 1)) (hx : x < 18446744073709551616) (hc : c = k) : FS P gl 209 [.val (.int .u64 y)] (· = I c) := by
  obtain ⟨rfl, hG⟩ := C
  refine FS_ofT (args := fun A => [.val (.int .u64 y)]) (R := fun A rr => rr = I c) Tryz.hT Tryz.mix Tryz.func209 rfl rfl (Nat.le_of_ble_eq_true rfl) ?_
  generalize hP : Tryz.prog = P
  intro A hA
  have C : Tryz.Cx P gl := ⟨hP.symm, hG⟩
  have hI : intsL = A.ints := by subst hA; rfl
  have h0 := tz64_fs C hy hk hx
  rw [← hc] at h0
  iterate 2 (all_goals try cbv; all_goals repeat' (first | with_reducible exact True.intro | with_reducible refine And.intro ?_ ?_ | intro _))
  all_goals try exact oH
  refine callS hA rfl (h0) ?_; rintro _ rfl
  iterate 2 (all_goals try cbv; all_goals repeat' (first | with_reducible exact True.intro | with_reducible refine And.intro ?_ ?_ | intro _))
  all_goals try exact oH

end Tryz
end Go.Proofs

namespace Go.Proofs
open Go Go.Pe Go.Dg
namespace Tryz
set_option linter.unusedSimpArgs false
set_option linter.unusedVariables false
variable {P : Program} {gl : List (Nat × Obj)}

theorem l2mul_fs (C : Cx P gl) {a b : List Int} {n : Nat} {p q r : List PV} (hp : p = intsL a) (hq : q = intsL b) (ha : Valid a) (hb : Valid b) (hv : val a * val b = n) (hr : r = intsL (dg n))
    (hl : a.length + b.length ≤ 1000000000) : FS P gl 167 [.agg [.lst p], .agg [.lst q]] (· = .agg [.lst r]) := by
  obtain ⟨rfl, _⟩ := C; subst hp hq hr
  have := l2mulO_fs (gl := gl) a b ha hb hl
  rw [hv, Int.toNat_natCast] at this; exact this

theorem l2norm_fs (C : Cx P gl) {l : List Int} {p r : List PV} (hp : p = intsL l) (hr : r = intsL (trimL l)) (he : l.length ≤ 1000000000) : FS P gl 195 [.lst p] (· = .agg [.lst r]) := by
  obtain ⟨rfl, _⟩ := C; subst hp hr
  exact l2normO_fs (gl := gl) l he

theorem l2of_fs (C : Cx P gl) {k : Int} {n : Nat} {r : List PV} (hk : k = n) (hr : r = intsL (dg n)) (h : n ≤ 9223372036854775807) : FS P gl 157 [I k] (· = .agg [.lst r]) := by
  obtain ⟨rfl, _⟩ := C; subst hk hr
  have := l2ofO_fs (gl := gl) n (by omega) (by omega)
  rw [Int.toNat_natCast] at this; exact this

theorem within_fs (C : Cx P gl) {n l h : Int} {b : Bool} (hb : b = (decide (l ≤ n) && decide (n ≤ h))) : FS P gl 104 [I n, I l, I h] (· = B b) := by
  obtain ⟨rfl, _⟩ := C; subst hb
  exact withinO_fs (gl := gl) n l h

theorem compare_fs (C : Cx P gl) {x y : Nat} {p q : List PV} {c : Int} (hp : p = intsL (dg x)) (hq : q = intsL (dg y)) (hc : c = cmpN x y) (hx : (dg x).length ≤ 1000000000) : FS P gl 171 [.lst p, .lst q] (· = I c) := by
  obtain ⟨rfl, _⟩ := C; subst hp hq hc
  exact compareO_fs (gl := gl) x y hx

theorem up_fs (C : Cx P gl) {a : List Int} {k k' : Int} {n : Nat} {p r : List PV} (hp : p = intsL a) (ha : Valid a) (hk : k' = k) (hv : val a * 2 ^ k.toNat = n) (hr : r = intsL (dg n)) (h0 : 0 ≤ k) (h1 : k ≤ 100000000) (hl : a.length ≤ 100000000) :
    FS P gl 170 [.lst p, I k'] (· = .lst r) := by
  obtain ⟨rfl, _⟩ := C; subst hp hr hk
  have := upO_fs (gl := gl) a ha k' h0 h1 hl
  rw [hv, Int.toNat_natCast] at this; exact this

theorem band1 {x : Int} (h0 : 0 ≤ x) (h1 : x < 9223372036854775808) : AR.std.band .i64 x 1 = x % 2 := by
  have e : x = ((x.toNat : Nat) : Int) := by omega
  show IntKind.i64.wrap (BitVec.ofInt 64 x &&& BitVec.ofInt 64 1).toNat = _
  rw [BitVec.toNat_and, IntKind.wrap_i64]
  have h2 : (BitVec.ofInt 64 x).toNat = x.toNat := by
    rw [BitVec.toNat_ofInt]; omega
  have h3 : (BitVec.ofInt 64 1).toNat = 1 := rfl
  rw [h2, h3, Nat.and_one_is_mod]
  omega

theorem div16 {x : Int} (h0 : 0 ≤ x) (h1 : x ≤ 9223372036854775807) : AR.std.quo .i64 x 16 = x / 16 := by
  show IntKind.i64.wrap (x.tdiv 16) = _
  rw [Int.tdiv_eq_ediv_of_nonneg h0, wrapi (by omega) (by omega)]
theorem mod16 {x : Int} (h0 : 0 ≤ x) : AR.std.rem .i64 x 16 = x % 16 := by
  show x.tmod 16 = _
  rw [Int.tmod_eq_emod_of_nonneg h0]

set_option maxHeartbeats 1000000 in
set_option maxRecDepth 100000 in
theorem down_fs (C : Cx P gl) {a : List Int} {n : Nat} {k k' : Int} {p r : List PV} (hp : p = intsL a) (ha : Valid a) (hv : val a = n) (hk : k' = k) (hr : r = intsL (dg (n / 2 ^ k.toNat))) (h0 : 0 ≤ k) (h1 : k ≤ 1000000000000) (hl : a.length ≤ 100000000) :
    FS P gl 169 [.lst p, I k'] (· = .lst r) := by
  subst hk
  obtain ⟨rfl, hG⟩ := C
  refine FS_ofT (args := fun A => [.lst p, I k']) (R := fun A rr => rr = .lst r) Tryz.hT Tryz.mix Tryz.func169 rfl rfl (Nat.le_of_ble_eq_true rfl) ?_
  generalize hP : Tryz.prog = P
  intro A hA
  have C : Tryz.Cx P gl := ⟨hP.symm, hG⟩
  have hI : intsL = A.ints := by subst hA; rfl
  have e1 : A.quo .i64 k' 16 = k' / 16 := by subst hA; exact div16 h0 (by omega)
  have e2 : A.rem .i64 k' 16 = k' % 16 := by subst hA; exact mod16 h0
  iterate 2 (all_goals try cbv; all_goals repeat' (first | with_reducible exact True.intro | with_reducible refine And.intro ?_ ?_ | intro _))
  all_goals try exact oH
  · subst hA
    subst_vars
    simp only [AR.std, natCast_eq, sH, reduceCtorEq] at *
    try simp (disch := omega) only [AR.std, natCast_eq, sH, reduceCtorEq] at *
    congr 2
    have h : a.length ≤ k'.toNat / 16 := by omega
    have := val_drop_div ha (k'.toNat / 16)
    rw [val_drop_ge h, hv] at this
    have h2 : (n / 65536 ^ (k'.toNat / 16) : Nat) = 0 := by
      have e : ((n / 65536 ^ (k'.toNat / 16) : Nat) : Int) = (n : Int) / 65536 ^ (k'.toNat / 16) := by
        rw [Int.natCast_ediv, Int.natCast_pow]; rfl
      omega
    rw [← down_val, h2, Nat.zero_div, dg_zero]
    rfl
  · have hlt : k' / 16 < a.length := by (subst hA; subst_vars; simp only [AR.std, natCast_eq, sH, reduceCtorEq] at *; try simp (disch := omega) only [AR.std, natCast_eq, sH, reduceCtorEq] at *); omega
    have hpb' : A.sl p (A.quo .i64 k' 16) (A.cast (A.len p)) = intsL (a.drop (k'.toNat / 16)) := by
      rw [e1]
      subst hA hp
      simp only [AR.std, natCast_eq, sH, reduceCtorEq]
      have e3 : (k' / 16).toNat = k'.toNat / 16 := by omega
      rw [e3, List.take_length]
    obtain ⟨pb, hpb⟩ : ∃ y, y = A.sl p (A.quo .i64 k' 16) (A.cast (A.len p)) := ⟨_, rfl⟩; simp only [← hpb]
    rw [← hpb] at hpb'
    have hvb : val (a.drop (k'.toNat / 16)) = ((n / 65536 ^ (k'.toNat / 16) : Nat) : Int) := by
      rw [val_drop_div ha, hv, Int.natCast_ediv, Int.natCast_pow]; rfl
    have hbv := ha.drop (k'.toNat / 16)
    have hbl : (a.drop (k'.toNat / 16)).length ≤ 100000000 := by simp; omega
    have hs : (k' % 16).toNat < 16 := by omega
    have hsk : (k' % 16).toNat = k'.toNat % 16 := by omega
    have hpw := pow2_le hs
    generalize a.drop (k'.toNat / 16) = b at *
    refine loopI hA [] (ι := Int × List Int) (fun x => [(6, .own 0), (23, .pv (I x.1))]) (fun x => [(0, .row 3 1 (A.ints x.2))]) (fun x => (b.length - x.1).toNat) (fun x => downI b (k' % 16).toNat x.1 x.2) (0, []) (by rfl) ?_ ?_ ?_
    all_goals try exact tH
    · exact downI_zero b _
    rintro ⟨i, o⟩ hinv
    simp only at hinv
    have hx := hbv.get i.toNat
    have hy := hbv.get (i + 1).toNat
    have hq1 : 0 ≤ b.getD i.toNat 0 / 2 ^ (k' % 16).toNat := Int.ediv_nonneg hx.1 (by omega)
    have hq2 : 0 ≤ (b.getD i.toNat 0 + b.getD (i + 1).toNat 0 * 65536) / 2 ^ (k' % 16).toNat := Int.ediv_nonneg (by omega) (by omega)
    have hnext := downI_next hbv hs hinv
    have hexit := fun h => downI_exit hinv h hvb
    obtain ⟨hi0, hi1, hol, hov, hval⟩ := id hinv
    iterate 2 (all_goals try cbv; all_goals repeat' (first | with_reducible exact True.intro | with_reducible refine And.intro ?_ ?_ | intro _))
    all_goals try exact oH
    iterate 2 (all_goals try cbv; all_goals repeat' (first | with_reducible exact True.intro | with_reducible refine And.intro ?_ ?_ | intro _))
    all_goals try exact oH
    · obtain ⟨y1, hy1⟩ : ∃ y, y = i + 1 := ⟨_, rfl⟩
      obtain ⟨y2, hy2⟩ : ∃ y, y = o ++ [(b.getD i.toNat 0 + b.getD (i + 1).toNat 0 * 65536) / 2 ^ (k' % 16).toNat % 65536] := ⟨_, rfl⟩
      refine ⟨⟨(y1, y2), ?_⟩, ?_, ?_⟩
      rotate_left
      · cbv
        exact nH
      · (subst hA; subst_vars; simp only [AR.std, natCast_eq, sH, reduceCtorEq] at *; try simp (disch := omega) only [AR.std, natCast_eq, sH, reduceCtorEq] at *); omega
      · (subst hA; subst_vars; simp only [AR.std, natCast_eq, sH, reduceCtorEq] at *; try simp (disch := omega) only [AR.std, natCast_eq, sH, reduceCtorEq] at *); exact hnext (by omega)
    · obtain ⟨y1, hy1⟩ : ∃ y, y = i + 1 := ⟨_, rfl⟩
      obtain ⟨y2, hy2⟩ : ∃ y, y = o ++ [b.getD i.toNat 0 / 2 ^ (k' % 16).toNat % 65536] := ⟨_, rfl⟩
      refine ⟨⟨(y1, y2), ?_⟩, ?_, ?_⟩
      rotate_left
      · cbv
        exact nH
      · (subst hA; subst_vars; simp only [AR.std, natCast_eq, sH, reduceCtorEq] at *; try simp (disch := omega) only [AR.std, natCast_eq, sH, reduceCtorEq] at *); omega
      · subst hA
        subst_vars
        simp only [AR.std, natCast_eq, sH, reduceCtorEq] at *
        try simp (disch := omega) only [AR.std, natCast_eq, sH, reduceCtorEq] at *
        have := hnext (by omega)
        rw [getD_ge (l := b) (k := (i + 1).toNat) (by omega), Int.zero_mul, Int.add_zero] at this
        exact this
    · refine callS hA rfl (trim_fs C (l := o) (p := A.ints o) (r := r) (by subst hA; rfl) (by rw [hr, hexit (by (subst hA; subst_vars; simp only [AR.std, natCast_eq, sH, reduceCtorEq] at *; try simp (disch := omega) only [AR.std, natCast_eq, sH, reduceCtorEq] at *); omega), hsk, down_val]) (by (subst hA; subst_vars; simp only [AR.std, natCast_eq, sH, reduceCtorEq] at *; try simp (disch := omega) only [AR.std, natCast_eq, sH, reduceCtorEq] at *); omega)) ?_; rintro _ rfl
      cbv

set_option maxHeartbeats 1000000 in
set_option maxRecDepth 100000 in
theorem bitOf_fs (C : Cx P gl) {n : Nat} {i b : Int} {p : List PV} (hp : p = intsL (dg n)) (h0 : 0 ≤ i) (h1 : i ≤ 1000000000000) (hb : b = ((n / 2 ^ i.toNat % 2 : Nat) : Int)) :
    FS P gl 141 [.lst p, I i] (· = I b) := by
  have hd := dg_getD (i.toNat / 16) n
  have hbv := bit_val n i.toNat
  have hs : (i % 16).toNat < 16 := by omega
  have hsk : (i % 16).toNat = i.toNat % 16 := by omega
  have hik : (i / 16).toNat = i.toNat / 16 := by omega
  have hg := (valid_dg n).get (i / 16).toNat
  have hpw := pow2_le hs
  have hq1 : 0 ≤ (dg n).getD (i / 16).toNat 0 / 2 ^ (i % 16).toNat := Int.ediv_nonneg hg.1 (by omega)
  have hq2 : (dg n).getD (i / 16).toNat 0 / 2 ^ (i % 16).toNat < 65536 := Int.lt_of_le_of_lt (Int.ediv_le_self _ hg.1) hg.2
  have hbb : b = (dg n).getD (i / 16).toNat 0 / 2 ^ (i % 16).toNat % 2 := by
    rw [hb, ← hbv, hik, hd, hsk, Int.natCast_emod, Int.natCast_ediv, Int.natCast_pow]
    rfl
  clear hb
  obtain ⟨rfl, hG⟩ := C
  refine FS_ofT (args := fun A => [.lst p, I i]) (R := fun A rr => rr = I b) Tryz.hT Tryz.mix Tryz.func141 rfl rfl (Nat.le_of_ble_eq_true rfl) ?_
  generalize hP : Tryz.prog = P
  intro A hA
  have C : Tryz.Cx P gl := ⟨hP.symm, hG⟩
  have hI : intsL = A.ints := by subst hA; rfl
  iterate 2 (all_goals try cbv; all_goals repeat' (first | with_reducible exact True.intro | with_reducible refine And.intro ?_ ?_ | intro _))
  all_goals try exact oH
  · have hz : (dg n).getD (i / 16).toNat 0 = 0 := getD_ge (by (subst hA; subst_vars; simp only [AR.std, natCast_eq, sH, reduceCtorEq] at *; try simp (disch := omega) only [AR.std, natCast_eq, sH, reduceCtorEq] at *); omega)
    rw [hbb, hz, Int.zero_ediv]
    rfl
  · have e1 : A.shr .i64 (A.gi (A.el p (A.nat (A.quo .i64 i 16))) 0) (A.rem .i64 i 16) = (dg n).getD (i / 16).toNat 0 / 2 ^ (i % 16).toNat := by (subst hA; subst_vars; simp only [AR.std, natCast_eq, sH, reduceCtorEq] at *; try simp (disch := omega) only [AR.std, natCast_eq, sH, reduceCtorEq] at *)
    have e2 : A.band .i64 ((dg n).getD (i / 16).toNat 0 / 2 ^ (i % 16).toNat) 1 = (dg n).getD (i / 16).toNat 0 / 2 ^ (i % 16).toNat % 2 := by
      subst hA; exact band1 hq1 (by omega)
    simp only [e1, e2, hbb]

end Tryz
end Go.Proofs

namespace Go.Proofs
open Go Go.Pe Go.Dg
namespace Tryz
set_option linter.unusedSimpArgs false
set_option linter.unusedVariables false
variable {P : Program} {gl : List (Nat × Obj)}

set_option maxHeartbeats 1000000 in
set_option maxRecDepth 100000 in
theorem trailOf_fs (C : Cx P gl) {n k m : Nat} {c : Int} {p : List PV} (hp : p = intsL (dg n)) (hn : n = 2 ^ k * (2 * m + 1)) (hc : c = k) (hl : (dg n).length ≤ 100000000) : FS P gl 186 [.lst p] (· = I c) := by
  have hn0 : n ≠ 0 := by
    rw [hn]
    exact Nat.ne_of_gt (Nat.mul_pos (Nat.two_pow_pos k) (by omega))
  have hv := val_dg n
  have ha := valid_dg n
  generalize dg n = a at *
  obtain ⟨rfl, hG⟩ := C
  refine FS_ofT (args := fun A => [.lst p]) (R := fun A rr => rr = I c) Tryz.hT Tryz.mix Tryz.func186 rfl rfl (Nat.le_of_ble_eq_true rfl) ?_
  generalize hP : Tryz.prog = P
  intro A hA
  have C : Tryz.Cx P gl := ⟨hP.symm, hG⟩
  have hI : intsL = A.ints := by subst hA; rfl
  iterate 2 (all_goals try cbv; all_goals repeat' (first | with_reducible exact True.intro | with_reducible refine And.intro ?_ ?_ | intro _))
  all_goals try exact oH
  refine loopI hA [] (ι := Int) (fun x => [(7, .pv (I x))]) (fun x => []) (fun x => (a.length - x).toNat) (fun x => trI a x) 0 (by rfl) ?_ ?_ ?_
  all_goals try exact tH
  · exact trI_zero a
  rintro i hinv
  try simp only at hinv
  have hnext := trI_next hinv
  have hexit := trI_exit hinv
  have hfound := trI_found ha hinv hv hn
  have hx := ha.get i.toNat
  obtain ⟨hi0, hi1, _⟩ := id hinv
  iterate 2 (all_goals try cbv; all_goals repeat' (first | with_reducible exact True.intro | with_reducible refine And.intro ?_ ?_ | intro _))
  all_goals try exact oH
  iterate 2 (all_goals try cbv; all_goals repeat' (first | with_reducible exact True.intro | with_reducible refine And.intro ?_ ?_ | intro _))
  all_goals try exact oH
  · obtain ⟨t, s, h1, h2, h3⟩ := hfound (by (subst hA; subst_vars; simp only [AR.std, natCast_eq, sH, reduceCtorEq] at *; try simp (disch := omega) only [AR.std, natCast_eq, sH, reduceCtorEq] at *); assumption)
    have hgi : A.conv .u64 (A.gi (A.el p (A.nat i)) 0) = ((a.getD i.toNat 0).toNat : Int) := by
      subst hA
      subst_vars
      simp only [AR.std, natCast_eq, sH, reduceCtorEq] at *
      try simp (disch := omega) only [AR.std, natCast_eq, sH, reduceCtorEq] at *
      rw [IntKind.wrap_u64]
      omega
    obtain ⟨t', ht'⟩ : ∃ t' : Int, t' = t := ⟨_, rfl⟩
    have h4 : c = 16 * i + t' := by rw [hc, h2, ht']
    have h5 : 0 ≤ t' := by omega
    have h6 : t' < 16 := by omega
    have h7 : (a.getD i.toNat 0).toNat < 18446744073709551616 := by omega
    refine callS hA rfl (tz_fs C hgi h1 h7 ht') ?_; rintro _ rfl
    clear ht' hc h1 h2 h3
    iterate 2 (all_goals try cbv; all_goals repeat' (first | with_reducible exact True.intro | with_reducible refine And.intro ?_ ?_ | intro _))
    all_goals try exact oH
    subst hA
    subst_vars
    simp only [AR.std, natCast_eq, sH, reduceCtorEq] at *
    try simp (disch := omega) only [AR.std, natCast_eq, sH, reduceCtorEq] at *
  · obtain ⟨y1, hy1⟩ : ∃ y, y = i + 1 := ⟨_, rfl⟩
    refine ⟨⟨y1, ?_⟩, ?_, ?_⟩
    rotate_left
    · cbv
      exact nH
    · (subst hA; subst_vars; simp only [AR.std, natCast_eq, sH, reduceCtorEq] at *; try simp (disch := omega) only [AR.std, natCast_eq, sH, reduceCtorEq] at *); omega
    · (subst hA; subst_vars; simp only [AR.std, natCast_eq, sH, reduceCtorEq] at *; try simp (disch := omega) only [AR.std, natCast_eq, sH, reduceCtorEq] at *); exact hnext (by omega) (by omega)

end Tryz
end Go.Proofs

