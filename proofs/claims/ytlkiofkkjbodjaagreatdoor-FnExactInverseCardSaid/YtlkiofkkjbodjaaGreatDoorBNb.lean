/- math/bits: the number of trailing zero bits, the number of bits. -/
import Derived.Test.YtlkiofkkjbodjaaGreatDoorBSx
import Derived.Test.YtlkiofkkjbodjaaGreatDoorBEvD
import Derived.WalkKit
import Derived.Tactics
import Derived.Laws.Bits64b
import Derived.Lib.TrailingZeros
import Derived.Lib.BitFns
set_option maxHeartbeats 1000000
set_option maxRecDepth 100000
namespace Go.Proofs
open Go Go.Pe Go.Dg
namespace Tryz
set_option linter.unusedSimpArgs false
set_option linter.unusedVariables false
set_option linter.unusedSimpArgs false
variable {P : Program} {gl : List (Nat × Obj)}

theorem mQ (C : Cx P gl) {l : List Int} {p r : List PV} (hp : p = aA l) (hr : r = aA (bG l)) (he : l.length ≤ 2000000000) : FS P gl 223 [.lst p] (· = .lst r) := by
 refine gS C func223 rfl rfl rfl fun A hA hI => ?_
 cbv
 refine aZ hA [] (ι := List Int) (fun l => [(0, .pv (.lst (A.ints l)))]) (fun _ => []) (fun l => l.length) (fun l' => bG l' = bG l ∧ l'.length ≤ l.length) l (by rfl) ?_ ⟨rfl, Nat.le_refl _⟩ ?_
 ·subst hA; subst hp; rfl
 rintro l' ⟨h1, h2⟩
 all_goals try cbv
 all_goals with_reducible repeat' first | exact True.intro | refine And.intro ?_ ?_ | intro _
 all_goals try exact pH
 iterate 2 all_goals try cbv; with_reducible repeat' first | exact ⟨⟩ | apply And.intro | intro _
 all_goals try cbv
 all_goals with_reducible repeat' first | exact True.intro | refine And.intro ?_ ?_ | intro _
 all_goals try exact oH
 ·subst hA
  subst_vars
  simp only [AR.std, bBG, sH, reduceCtorEq] at *
  try simp (disch := omega) only [AR.std, bBG, sH, reduceCtorEq] at *
  rename_i hz
  have e1 : ((l'.length : Int) - 1).toNat = l'.length - 1 := by omega
  rw [e1] at hz ⊢
  refine ⟨⟨_, ?_, ?_⟩, rfl, ?_⟩
  ·show bG (List.drop 0 (List.take _ l')) = _
   rw [List.drop_zero, jY (by omega) hz.2]; exact h1
  ·simp; omega
  ·simp; omega
 ·subst hA
  subst_vars
  simp only [AR.std, bBG, sH, reduceCtorEq] at *
  try simp (disch := omega) only [AR.std, bBG, sH, reduceCtorEq] at *
  rename_i hz
  rw [← h1]
  congr 2
  rcases hz with hz | hz
  ·exact (eV (by omega)).symm
  ·by_cases h0 : l'.length = 0
   ·exact (eV h0).symm
   ·have e1 : ((l'.length : Int) - 1).toNat = l'.length - 1 := by omega
    rw [e1] at hz
    exact (jZ (by omega) hz).symm

theorem aJJ (C : Cx P gl) {a b : List Int} {n : Nat} {p q r : List PV} (hp : p = aA a) (hq : q = aA b) (ha : Valid a) (hb : Valid b) (hv : val a + val b = n) (hr : r = aA (dg n))
  (hla : a.length ≤ 100000000) (hlb : b.length ≤ 100000000) : FS P gl 220 [.lst p, .lst q] (· = .lst r) := by
 refine gS C func220 rfl rfl rfl fun A hA hI => ?_
 iterate 2 all_goals try cbv; with_reducible repeat' first | exact ⟨⟩ | apply And.intro | intro _
 all_goals try exact oH
 all_goals refine aZ hA [] (ι := Int × Int × List Int) (fun x => [(5, .own 0), (6, .pv (I x.2.1)), (22, .pv (I x.1))]) (fun x => [(0, .row 3 1 (A.ints x.2.2))]) (fun x => (a.length + b.length - x.1).toNat) (fun x => aFD a b x.1 x.2.1 x.2.2) (0, 0, []) (by rfl) ?_ ?_ ?_
 all_goals try exact tH
 all_goals try exact aH0 a b
 all_goals (
  rintro ⟨i, c, o⟩ hinv
  simp only at hinv
  have hx := ha.get i.toNat
  have hy := hb.get i.toNat
  have aJ := fun {s : Int} => aH1 (s := s) ha hb hinv
  have aN := fun h1 h2 => aH2 hinv h1 h2 hv
  obtain ⟨hi0, hi1, hol, hov, hc0, hc1, cB⟩ := id hinv)
 iterate 2 all_goals try cbv; with_reducible repeat' first | exact ⟨⟩ | apply And.intro | intro _
 all_goals try exact oH
 iterate 2 all_goals try cbv; with_reducible repeat' first | exact ⟨⟩ | apply And.intro | intro _
 all_goals try exact oH
 ·obtain ⟨y1, hy1⟩ : ∃ y, y = i + 1 := ⟨_, rfl⟩
  obtain ⟨y2, hy2⟩ : ∃ y, y = (c + b.getD i.toNat 0 + a.getD i.toNat 0) / 65536 := ⟨_, rfl⟩
  obtain ⟨y3, hy3⟩ : ∃ y, y = o ++ [(c + b.getD i.toNat 0 + a.getD i.toNat 0) % 65536] := ⟨_, rfl⟩
  refine ⟨⟨(y1, y2, y3), ?_⟩, ?_, ?_⟩
  rotate_left
  ·cbv
   exact nH
  ·exact eH
  ·(subst hA; subst_vars; simp only [AR.std, bBG, sH, reduceCtorEq] at *; try simp (disch := omega) only [AR.std, bBG, sH, reduceCtorEq] at *); exact aJ (by omega) (by omega)
 ·obtain ⟨y1, hy1⟩ : ∃ y, y = i + 1 := ⟨_, rfl⟩
  obtain ⟨y2, hy2⟩ : ∃ y, y = (c + b.getD i.toNat 0) / 65536 := ⟨_, rfl⟩
  obtain ⟨y3, hy3⟩ : ∃ y, y = o ++ [(c + b.getD i.toNat 0) % 65536] := ⟨_, rfl⟩
  refine ⟨⟨(y1, y2, y3), ?_⟩, ?_, ?_⟩
  rotate_left
  ·cbv
   exact nH
  ·exact eH
  ·(subst hA; subst_vars; simp only [AR.std, bBG, sH, reduceCtorEq] at *; try simp (disch := omega) only [AR.std, bBG, sH, reduceCtorEq] at *); exact aJ (by rw [dU (l := a) (by omega)]; omega) (by omega)
 ·refine aD hA rfl (mQ C (l := o ++ [c]) (p := A.app (A.ints o) [I c]) (r := r) (by subst hA; simp only [AR.std, bBG, sH, reduceCtorEq]) (by rw [hr, aN (by exact eH) (by exact eH)]) (by exact eH)) ?_; rintro _ rfl
  cbv
 ·obtain ⟨y1, hy1⟩ : ∃ y, y = i + 1 := ⟨_, rfl⟩
  obtain ⟨y2, hy2⟩ : ∃ y, y = (c + a.getD i.toNat 0 + b.getD i.toNat 0) / 65536 := ⟨_, rfl⟩
  obtain ⟨y3, hy3⟩ : ∃ y, y = o ++ [(c + a.getD i.toNat 0 + b.getD i.toNat 0) % 65536] := ⟨_, rfl⟩
  refine ⟨⟨(y1, y2, y3), ?_⟩, ?_, ?_⟩
  rotate_left
  ·cbv
   exact nH
  ·exact eH
  ·(subst hA; subst_vars; simp only [AR.std, bBG, sH, reduceCtorEq] at *; try simp (disch := omega) only [AR.std, bBG, sH, reduceCtorEq] at *); exact aJ (by omega) (by omega)
 ·obtain ⟨y1, hy1⟩ : ∃ y, y = i + 1 := ⟨_, rfl⟩
  obtain ⟨y2, hy2⟩ : ∃ y, y = (c + a.getD i.toNat 0) / 65536 := ⟨_, rfl⟩
  obtain ⟨y3, hy3⟩ : ∃ y, y = o ++ [(c + a.getD i.toNat 0) % 65536] := ⟨_, rfl⟩
  refine ⟨⟨(y1, y2, y3), ?_⟩, ?_, ?_⟩
  rotate_left
  ·cbv
   exact nH
  ·exact eH
  ·(subst hA; subst_vars; simp only [AR.std, bBG, sH, reduceCtorEq] at *; try simp (disch := omega) only [AR.std, bBG, sH, reduceCtorEq] at *); exact aJ (by rw [dU (l := b) (by omega)]; omega) (by omega)
 ·refine aD hA rfl (mQ C (l := o ++ [c]) (p := A.app (A.ints o) [I c]) (r := r) (by subst hA; simp only [AR.std, bBG, sH, reduceCtorEq]) (by rw [hr, aN (by exact eH) (by exact eH)]) (by exact eH)) ?_; rintro _ rfl
  cbv

theorem aGG (C : Cx P gl) {a b : List Int} {n : Nat} {p q r : List PV} (hp : p = aA a) (hq : q = aA b) (ha : Valid a) (hb : Valid b) (hv : val a - val b = n) (hr : r = aA (dg n))
  (hla : a.length ≤ 100000000) (hlb : b.length ≤ a.length) : FS P gl 222 [.lst p, .lst q] (· = .lst r) := by
 refine gS C func222 rfl rfl rfl fun A hA hI => ?_
 iterate 2 all_goals try cbv; with_reducible repeat' first | exact ⟨⟩ | apply And.intro | intro _
 all_goals try exact oH
 refine aZ hA [] (ι := Int × Int × List Int) (fun x => [(5, .own 0), (6, .pv (I x.2.1)), (14, .pv (I x.1))]) (fun x => [(0, .row 3 1 (A.ints x.2.2))]) (fun x => (a.length - x.1).toNat) (fun x => uU a b x.1 x.2.1 x.2.2) (0, 0, []) (by rfl) ?_ ?_ ?_
 all_goals try exact tH
 ·exact vY a b
 rintro ⟨i, w, o⟩ hinv
 simp only at hinv
 have hx := ha.get i.toNat
 have hy := hb.get i.toNat
 have aJ := fun {x d w' : Int} => vZ (x := x) (d := d) (w' := w') ha hb hinv
 have aN := fun h1 h2 => wA hinv h1 h2 hv
 obtain ⟨hi0, hi1, hol, hov, hc0, hc1, cB⟩ := id hinv
 iterate 2 all_goals try cbv; with_reducible repeat' first | exact ⟨⟩ | apply And.intro | intro _
 all_goals try exact oH
 iterate 2 all_goals try cbv; with_reducible repeat' first | exact ⟨⟩ | apply And.intro | intro _
 all_goals try exact oH
 iterate 2 all_goals try cbv; with_reducible repeat' first | exact ⟨⟩ | apply And.intro | intro _
 all_goals try exact oH
 ·obtain ⟨y1, hy1⟩ : ∃ y, y = i + 1 := ⟨_, rfl⟩
  obtain ⟨y2, hy2⟩ : ∃ y, y = 1 := ⟨_, rfl⟩
  obtain ⟨y3, hy3⟩ : ∃ y, y = o ++ [a.getD i.toNat 0 - w - b.getD i.toNat 0 + 65536] := ⟨_, rfl⟩
  refine ⟨⟨(y1, y2, y3), ?_⟩, ?_, ?_⟩
  rotate_left
  ·cbv
   exact nH
  ·exact eH
  ·(subst hA; subst_vars; simp only [AR.std, bBG, sH, reduceCtorEq] at *; try simp (disch := omega) only [AR.std, bBG, sH, reduceCtorEq] at *); exact aJ rfl (by omega) (by omega)
 ·obtain ⟨y1, hy1⟩ : ∃ y, y = i + 1 := ⟨_, rfl⟩
  obtain ⟨y2, hy2⟩ : ∃ y, y = 0 := ⟨_, rfl⟩
  obtain ⟨y3, hy3⟩ : ∃ y, y = o ++ [a.getD i.toNat 0 - w - b.getD i.toNat 0] := ⟨_, rfl⟩
  refine ⟨⟨(y1, y2, y3), ?_⟩, ?_, ?_⟩
  rotate_left
  ·cbv
   exact nH
  ·exact eH
  ·(subst hA; subst_vars; simp only [AR.std, bBG, sH, reduceCtorEq] at *; try simp (disch := omega) only [AR.std, bBG, sH, reduceCtorEq] at *); exact aJ rfl (by omega) (by omega)
 ·obtain ⟨y1, hy1⟩ : ∃ y, y = i + 1 := ⟨_, rfl⟩
  obtain ⟨y2, hy2⟩ : ∃ y, y = 1 := ⟨_, rfl⟩
  obtain ⟨y3, hy3⟩ : ∃ y, y = o ++ [a.getD i.toNat 0 - w + 65536] := ⟨_, rfl⟩
  refine ⟨⟨(y1, y2, y3), ?_⟩, ?_, ?_⟩
  rotate_left
  ·cbv
   exact nH
  ·exact eH
  ·(subst hA; subst_vars; simp only [AR.std, bBG, sH, reduceCtorEq] at *; try simp (disch := omega) only [AR.std, bBG, sH, reduceCtorEq] at *); exact aJ (x := a.getD i.toNat 0 - w) (by rw [dU (l := b) (by omega)]; omega) (by omega) (by omega)
 ·obtain ⟨y1, hy1⟩ : ∃ y, y = i + 1 := ⟨_, rfl⟩
  obtain ⟨y2, hy2⟩ : ∃ y, y = 0 := ⟨_, rfl⟩
  obtain ⟨y3, hy3⟩ : ∃ y, y = o ++ [a.getD i.toNat 0 - w] := ⟨_, rfl⟩
  refine ⟨⟨(y1, y2, y3), ?_⟩, ?_, ?_⟩
  rotate_left
  ·cbv
   exact nH
  ·exact eH
  ·(subst hA; subst_vars; simp only [AR.std, bBG, sH, reduceCtorEq] at *; try simp (disch := omega) only [AR.std, bBG, sH, reduceCtorEq] at *); exact aJ (x := a.getD i.toNat 0 - w) (by rw [dU (l := b) (by omega)]; omega) (by omega) (by omega)
 ·refine aD hA rfl (mQ C (l := o) (p := A.ints o) (r := r) (by subst hA; rfl) (by rw [hr, aN (by exact eH) (by exact eH)]) (by exact eH)) ?_; rintro _ rfl
  cbv
end Tryz
end Go.Proofs

set_option maxHeartbeats 4000000
set_option maxRecDepth 100000
namespace Go.Proofs
open Go Go.Pe Go.Dg Go.RowKit
namespace Tryz
set_option linter.unusedSimpArgs false
set_option linter.unusedVariables false
variable {P : Program} {gl : List (Nat × Obj)}

theorem aVX (x a : Nat) (hx : x < 18446744073709551616) (hx0 : x ≠ 0) (pF : x &&& (18446744073709551616 - x) = a) :
  IntKind.u64.wrap (bits BinOp.and IntKind.u64 (x : Int) (IntKind.u64.wrap (-(x : Int))) * 285870213051353865) / 288230376151711744 = ((a * 285870213051353865 % 18446744073709551616 / 288230376151711744 : Nat) : Int) := by
 have e1 : IntKind.u64.wrap (-(x : Int)) = ((18446744073709551616 - x : Nat) : Int) := by rw [IntKind.wrap_u64]; omega
 rw [e1, bits_and_u64_nat x _ hx (by omega), pF, IntKind.wrap_u64]
 omega

theorem aM7 (x k idx : Nat) (w : World) (hx0 : ((x : Int) == 0) = false)
  (key : IntKind.u64.wrap (bits BinOp.and IntKind.u64 (x : Int) (IntKind.u64.wrap (-(x : Int))) * 285870213051353865) / 288230376151711744 = (idx : Int))
  (hi : idx < 64) (hk : k < 64) (iB : w.cell? ⟨1, idx, none⟩ = some (.int .u8 k)) :
  Calls Tryz.prog 277 #[.int .u64 x] w fun e w' => e = .returned (.int .i64 k) ∧ w' = w := by
 go_enter Tryz.func277, Tryz.ntmps277
 go_wp2_with (simp only [key])
 go_ret
 exact ⟨rfl, rfl⟩

theorem aGN {P : Program} {gl : List (Nat × Obj)} {f : FuncId} {u r : Value} (hc : gR P f = true) (hr : free r = true)
  (h : ∀ w, aCP gl w → Calls P f #[u] w fun e w' => e = .returned r ∧ w' = w) : FS P gl f [.val u] (· = .val r) := by
 refine ⟨hc, fun w S vs hgl _ kF => ?_⟩
 have h0 := kF 0 (by simp)
 have e : vs 0 = u := by
  simp only [List.getElem_cons_zero] at h0
  generalize vs 0 = v at h0
  cases h0; rfl
 have ea : (aE [PV.val u].length vs).toArray = #[u] := by
  simp [aE, List.range, List.range.loop, e]
 rw [ea]
 refine (h w hgl).mono ?_
 rintro e w' ⟨rfl, rfl⟩
 exact ⟨r, _, rfl, rfl, Below.refl _ _, .val _ hr⟩

theorem aTE (C : Cx P gl) {k m x : Nat} {y : Int} (hy : y = x) (hk : x = 2 ^ k * (2 * m + 1)) (hx : x < 18446744073709551616) : FS P gl 277 [.val (.int .u64 y)] (· = I k) := by
 subst hy
 obtain ⟨rfl, cs, t, fr, mF, aVY⟩ := C
 refine aGN (by kernel_rfl) rfl fun w hgl => ?_
 have h0 := hgl _ mF
 have hx0 : x ≠ 0 := by
  rw [hk]
  exact Nat.ne_of_gt (Nat.mul_pos (Nat.two_pow_pos k) (by omega))
 obtain ⟨pF, aVZ⟩ := Lib.lowest_bit 64 x hx0 hx
 have hkk : Lib.ctz 64 x = k := by
  obtain ⟨m', h1, h2⟩ := Lib.ctzFrom_spec 64 x (by omega) hx
  have h3 : Lib.ctz 64 x = Lib.ctzFrom 64 x := by unfold Lib.ctz; rw [if_neg hx0]
  rw [h3]
  exact (aFK (hk.symm.trans h1)).symm
 rw [hkk] at pF aVZ
 obtain ⟨hi, ht⟩ := Lib.deBruijn64_at _ aVZ
 have iB : w.cell? ⟨1, 2 ^ k * 285870213051353865 % 18446744073709551616 / 288230376151711744, none⟩ = some (.int .u8 k) := by
  have := aVY _ hi
  rw [ht] at this
  unfold World.cell?
  simp only [h0]
  simpa using this
 exact aM7 x k _ w (by simp; omega) (aVX x _ hx hx0 pF) hi aVZ iB

theorem aXZ (C : Cx P gl) {k m x : Nat} {y c : Int} (hy : y = x) (hk : x = 2 ^ k * (2 * m + 1)) (hx : x < 18446744073709551616) (hc : c = k) : FS P gl 264 [.val (.int .u64 y)] (· = I c) := by
 refine gS C func264 rfl rfl rfl fun A hA hI => ?_
 have h0 := aTE C hy hk hx
 rw [← hc] at h0
 iterate 2 all_goals try cbv; with_reducible repeat' first | exact ⟨⟩ | apply And.intro | intro _
 all_goals try exact oH
 refine aD hA rfl (h0) ?_; rintro _ rfl
 iterate 2 all_goals try cbv; with_reducible repeat' first | exact ⟨⟩ | apply And.intro | intro _
 all_goals try exact oH

theorem aM8 : ∀ x : Nat, x < 18446744073709551616 → Lib.bitLen x = bl x := by
 intro x
 induction x using Nat.strongRecOn with
 | _ x ih =>
  intro h
  by_cases h0 : x = 0
  ·subst h0; rw [aDD]; rfl
  ·rw [Lib.bitLen_half x h0 h, aDE h0, ih (x / 2) (by omega) (by omega)]
   omega

theorem aTF : ∀ n : Fin 256, wrap64 (wrap64 ((Lib.len8tab.data[n.val]'(Nat.lt_of_lt_of_le n.isLt (by decide +kernel))).toNat : Int)) = (Lib.bitLen n.val : Int) := by decide +kernel

theorem aRJ : ∀ n : Fin 256, wrap64 (8 + wrap64 ((Lib.len8tab.data[n.val]'(Nat.lt_of_lt_of_le n.isLt (by decide +kernel))).toNat : Int)) = ((8 + Lib.bitLen n.val : Nat) : Int) := by decide +kernel

theorem aJC (x : Int) (w : World) (h0 : 0 ≤ x) (h1 : x ≤ 65535) :
  Calls Tryz.prog 275 #[.int .u64 x] w fun e w' => e = .returned (.int .i64 (Lib.bitLen x.toNat)) ∧ w' = w := by
 have hsz : (Lib.len8tab.size : Int) = 256 := by decide +kernel
 go_enter Tryz.func275, Tryz.ntmps275
 go_wp2
 ·go_ret
  refine ⟨congrArg Ending.returned (congrArg (Value.int IntKind.i64) ?_), rfl⟩
  have hx : 256 ≤ x := by assumption
  have e : (x / 256).toNat = x.toNat / 256 := by omega
  have s := Lib.bitLen_shift8 x.toNat (by omega) (by omega)
  have k1 := aRJ ⟨(x / 256).toNat, by omega⟩
  simp only [e] at k1
  rw [s]
  simp only [e]
  exact k1
 ·go_ret
  refine ⟨congrArg Ending.returned (congrArg (Value.int IntKind.i64) ?_), rfl⟩
  have hx : x < 256 := by assumption
  exact (aTF ⟨x.toNat, by omega⟩)

theorem aRK {x : Nat} {y : Int} (hy : y = x) (hx : x < 65536) : FS Tryz.prog gl 275 [.val (.int .u64 y)] (· = I (bl x)) := by
 subst hy
 refine aGN (by kernel_rfl) rfl fun w hgl => ?_
 have := aJC x w (by omega) (by omega)
 rw [Int.toNat_natCast, aM8 x (by omega)] at this
 exact this

theorem aUI (C : Cx P gl) {x : Nat} {y c : Int} (hy : y = x) (hx : x < 65536) (hc : c = bl x) : FS P gl 260 [.val (.int .u64 y)] (· = I c) := by
 obtain ⟨rfl, hG⟩ := C
 refine eN (args := fun A => [.val (.int .u64 y)]) (R := fun A rr => rr = I c) Tryz.hT Tryz.mix Tryz.func260 rfl rfl (Nat.le_of_ble_eq_true rfl) ?_
 generalize hP : Tryz.prog = P
 intro A hA
 have C : Tryz.Cx P gl := ⟨hP.symm, hG⟩
 have hI : aA = A.ints := by subst hA; rfl
 have h0 := aRK (gl := gl) hy hx
 rw [hP, ← hc] at h0
 iterate 2 all_goals try cbv; with_reducible repeat' first | exact ⟨⟩ | apply And.intro | intro _
 all_goals try exact oH
 refine aD hA rfl (h0) ?_; rintro _ rfl
 iterate 2 all_goals try cbv; with_reducible repeat' first | exact ⟨⟩ | apply And.intro | intro _
 all_goals try exact oH

end Tryz
end Go.Proofs

