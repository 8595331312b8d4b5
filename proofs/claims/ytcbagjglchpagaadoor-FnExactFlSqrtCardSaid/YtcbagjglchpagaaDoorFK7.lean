/- Contracts: the float of a number told in form, in the program. -/
import Derived.Test.YtcbagjglchpagaaDoorFK4s2
import Derived.Test.YtcbagjglchpagaaDoorFK4u2
import Derived.Test.YtcbagjglchpagaaDoorFK4o2
import Derived.Test.YtcbagjglchpagaaDoorFK4s3
import Derived.Test.YtcbagjglchpagaaDoorFK4u3
import Derived.Test.YtcbagjglchpagaaDoorFK4o3
import Derived.Test.YtcbagjglchpagaaDoorFK6
import Derived.Test.YtcbagjglchpagaaDoorFN13
import Derived.Test.YtcbagjglchpagaaDoorFN30
namespace Go.Proofs
open Go Go.Pe Go.Dg
namespace Tryd
set_option linter.unusedSimpArgs false
set_option linter.unusedVariables false
variable {P : Program} {gl : List (Nat × Obj)}

theorem floatOf2_walk (C : Cx P gl) {f : FuncId} {a0 a1 : List PV} {neg same sx sy zb : Bool} {T mode low ex ey T2 g m fl fl1 : Int} {k' m' e' : Int} {px py pm : List PV} {n : Nat}
    (hTb : T.natAbs ≤ 100000) (hlow : low = max (T - 53) (-1074))
    (hr : ∀ (P' : Program) (C' : Cx P' gl), FS P' gl f [I low, .ptr a0 0, .ptr a1 0] (· = .tup [.agg [B sx, .lst px, I ex], B same]))
    (hodd : ∀ (P' : Program) (C' : Cx P' gl), FS P' gl 84 [.agg [B sx, .lst px, I ex]] (· = .agg [B sy, .lst py, I ey]))
    (hzr : ∀ (P' : Program) (C' : Cx P' gl), FS P' gl 85 [.agg [B sy, .lst py, I ey]] (· = B zb)) (hzb : zb = true ↔ py.length = 0)
    (hfl : fl1 = fl0 same T) (hz : py.length = 0 → k' = 0 ∧ m' = 0 ∧ e' = 0 ∧ fl = fl1)
    (hT2 : ∀ (P' : Program) (C' : Cx P' gl), FS P' gl 39 [.agg [B sy, .lst py, I ey]] (· = I T2)) (hTb2 : T2.natAbs ≤ 100000)
    (hov : py.length ≠ 0 → 1024 < T2 → fl = 3 ∧ True) (hovf : py.length ≠ 0 → 1024 < T2 → ∀ (P' : Program) (C' : Cx P' gl), FS P' gl 86 [B neg, I mode] (· = .tup [.agg [I k', B neg, I m', I e'], I 3]))
    (hg : py.length ≠ 0 → T2 ≤ 1024 → g = max (T2 - 53) (-1074) ∧ k' = 1 ∧ m' = m ∧ e' = g ∧ fl = fl1 ∧ (ey - g).natAbs ≤ 100000 ∧
      (∀ (P' : Program) (C' : Cx P' gl), FS P' gl 87 [.lst py, I (ey - g)] (· = .lst pm)) ∧ m = (n : Int) ∧ n < 9007199254740992 ∧ pm = intsL (dg n))
    (hex : ey.natAbs ≤ 100000) :
    FS P gl 38 [B neg, I T, I mode, .fn f [.ptr a0 0, .ptr a1 0]] (· = .tup [.agg [I k', B neg, I m', I e'], I fl]) := by
  by_cases h1 : same = true
  · exact floatOf2_walk_s C hTb hlow hr hodd hzr hzb hfl hz hT2 hTb2 hov hovf hg hex h1
  · have h2 : same = false := by cases same <;> first | rfl | exact absurd rfl h1
    by_cases h3 : T ≤ -1022
    · exact floatOf2_walk_u C hTb hlow hr hodd hzr hzb hfl hz hT2 hTb2 hov hovf hg hex h2 h3
    · exact floatOf2_walk_o C hTb hlow hr hodd hzr hzb hfl hz hT2 hTb2 hov hovf hg hex h2 h3

theorem floatOf3_walk (C : Cx P gl) {f : FuncId} {a0 a1 a2 : List PV} {neg same sx sy zb : Bool} {T mode low ex ey T2 g m fl fl1 : Int} {k' m' e' : Int} {px py pm : List PV} {n : Nat}
    (hTb : T.natAbs ≤ 100000) (hlow : low = max (T - 53) (-1074))
    (hr : ∀ (P' : Program) (C' : Cx P' gl), FS P' gl f [I low, .ptr a0 0, .ptr a1 0, .ptr a2 0] (· = .tup [.agg [B sx, .lst px, I ex], B same]))
    (hodd : ∀ (P' : Program) (C' : Cx P' gl), FS P' gl 84 [.agg [B sx, .lst px, I ex]] (· = .agg [B sy, .lst py, I ey]))
    (hzr : ∀ (P' : Program) (C' : Cx P' gl), FS P' gl 85 [.agg [B sy, .lst py, I ey]] (· = B zb)) (hzb : zb = true ↔ py.length = 0)
    (hfl : fl1 = fl0 same T) (hz : py.length = 0 → k' = 0 ∧ m' = 0 ∧ e' = 0 ∧ fl = fl1)
    (hT2 : ∀ (P' : Program) (C' : Cx P' gl), FS P' gl 39 [.agg [B sy, .lst py, I ey]] (· = I T2)) (hTb2 : T2.natAbs ≤ 100000)
    (hov : py.length ≠ 0 → 1024 < T2 → fl = 3 ∧ True) (hovf : py.length ≠ 0 → 1024 < T2 → ∀ (P' : Program) (C' : Cx P' gl), FS P' gl 86 [B neg, I mode] (· = .tup [.agg [I k', B neg, I m', I e'], I 3]))
    (hg : py.length ≠ 0 → T2 ≤ 1024 → g = max (T2 - 53) (-1074) ∧ k' = 1 ∧ m' = m ∧ e' = g ∧ fl = fl1 ∧ (ey - g).natAbs ≤ 100000 ∧
      (∀ (P' : Program) (C' : Cx P' gl), FS P' gl 87 [.lst py, I (ey - g)] (· = .lst pm)) ∧ m = (n : Int) ∧ n < 9007199254740992 ∧ pm = intsL (dg n))
    (hex : ey.natAbs ≤ 100000) :
    FS P gl 38 [B neg, I T, I mode, .fn f [.ptr a0 0, .ptr a1 0, .ptr a2 0]] (· = .tup [.agg [I k', B neg, I m', I e'], I fl]) := by
  by_cases h1 : same = true
  · exact floatOf3_walk_s C hTb hlow hr hodd hzr hzb hfl hz hT2 hTb2 hov hovf hg hex h1
  · have h2 : same = false := by cases same <;> first | rfl | exact absurd rfl h1
    by_cases h3 : T ≤ -1022
    · exact floatOf3_walk_u C hTb hlow hr hodd hzr hzb hfl hz hT2 hTb2 hov hovf hg hex h2 h3
    · exact floatOf3_walk_o C hTb hlow hr hodd hzr hzb hfl hz hT2 hTb2 hov hovf hg hex h2 h3

theorem floatOfR2_fs (C : Cx P gl) {f : FuncId} {a0 a1 px : List PV} {x : Dyadic} {neg same sx u : Bool} {T L mode k m e' fl z : Int} (hTb : T.natAbs ≤ 50000) (hL : L = max (T - 53) (-1074))
    (hr : ∀ (P' : Program) (C' : Cx P' gl), FS P' gl f [I L, .ptr a0 0, .ptr a1 0] (· = .tup [.agg [B sx, .lst px, I L], B same]))
    (hpx : px = intsL (dg z.natAbs)) (hsx : sx = decide (z < 0)) (hx : x = mk z L) (b1 : bl (cZ x).natAbs ≤ 53) (b2 : x ≠ 0 → -1074 ≤ cE x ∧ cE x ≤ 60000) (hlz : (dg z.natAbs).length ≤ 50000)
    (hf : flR neg same T mode x k u m e' fl) :
    FS P gl 38 [B neg, I T, I mode, .fn f [.ptr a0 0, .ptr a1 0]] (· = .tup [.agg [I k, B neg, I m, I e'], I fl]) := by
  obtain ⟨f0, f1, f2, f3⟩ := hf
  obtain ⟨sy, hsy⟩ : ∃ b, b = decide (cZ x < 0) := ⟨_, rfl⟩
  obtain ⟨py, hpy⟩ : ∃ q, q = intsL (dg (cZ x).natAbs) := ⟨_, rfl⟩
  obtain ⟨ey, hey⟩ : ∃ g, g = cE x := ⟨_, rfl⟩
  obtain ⟨T2, hT2⟩ : ∃ t, t = topD x := ⟨_, rfl⟩
  obtain ⟨n, hn⟩ : ∃ n, n = (cZ x).natAbs * 2 ^ (cE x - fe x).toNat := ⟨_, rfl⟩
  obtain ⟨pm, hpm⟩ : ∃ q, q = intsL (dg n) := ⟨_, rfl⟩
  obtain ⟨zb, hzb⟩ : ∃ b, b = decide ((dg (cZ x).natAbs).length = 0) := ⟨_, rfl⟩
  obtain ⟨r1, r2, r3, r4, r5⟩ := rbounds (B := 60000) b1 b2 (by omega)
  have hx0 : py.length = 0 ↔ x = 0 := by
    rw [hpy, ints_len, dgL_zero, Int.natAbs_eq_zero, cZ_eq_zero]
  have hzl : zb = true ↔ py.length = 0 := by rw [hzb, hpy, ints_len, decide_eq_true_iff]
  have ht2 : T2 = topD (mk (cZ x) ey) := by rw [hT2, hey, mk_canon]
  have hg : py.length ≠ 0 → T2 ≤ 1024 → fe x = max (T2 - 53) (-1074) ∧ k = 1 ∧ m = m ∧ e' = fe x ∧ fl = fl0 same T ∧ (ey - fe x).natAbs ≤ 100000 ∧
      (∀ (P' : Program) (C' : Cx P' gl), FS P' gl 87 [.lst py, I (ey - fe x)] (· = .lst pm)) ∧ m = (n : Int) ∧ n < 9007199254740992 ∧ pm = intsL (dg n) := by
    intro hne hle
    have hxn : x ≠ 0 := fun h => hne (hx0.2 h)
    obtain ⟨g1, g2, g3, g4⟩ := f3 hxn (by omega)
    obtain ⟨d1, d2, d3⟩ := fe_bits hxn b1 (b2 hxn).1
    rw [← hn] at d2 g3
    refine ⟨by rw [hT2]; rfl, g1, rfl, g2, g4, by omega, fun P' C' => ?_, g3, Nat.lt_of_lt_of_eq d2 (by decide), hpm⟩
    exact up_fs C' hpy (valid_dg _) (k := ey - fe x) rfl (n := n) (by rw [val_dg, hn, hey, Int.natCast_mul, Int.natCast_pow]; rfl) hpm (by omega) (by omega) (by omega)
  exact floatOf2_walk C (k' := k) (m' := m) (e' := e') (fl := fl) (low := L) (T2 := T2) (same := same) (sx := sx) (sy := sy) (g := fe x) (m := m) (n := n) (fl1 := fl0 same T) (px := px) (py := py) (ex := L) (ey := ey) (pm := pm) (zb := zb)
    (by omega) hL hr (fun P' C' => odd_fs C' hpx hsx hx hpy hsy hey (by omega) (by omega)) (fun P' C' => isZero_fs C' hpy hzb) hzl rfl (fun h => f1 (hx0.1 h))
    (fun P' C' => exactTop_fs C' hpy ht2 (by omega) (by omega)) (by omega) (fun h h' => ⟨(f2 (fun g => h (hx0.2 g)) (by omega)).1, True.intro⟩)
    (fun h h' P' C' => overflow_fs C' rfl (f2 (fun g => h (hx0.2 g)) (by omega)).2.1 (f2 (fun g => h (hx0.2 g)) (by omega)).2.2) hg (by omega)

theorem floatOfR3_fs (C : Cx P gl) {f : FuncId} {a0 a1 a2 px : List PV} {x : Dyadic} {neg same sx u : Bool} {T L mode k m e' fl z : Int} (hTb : T.natAbs ≤ 50000) (hL : L = max (T - 53) (-1074))
    (hr : ∀ (P' : Program) (C' : Cx P' gl), FS P' gl f [I L, .ptr a0 0, .ptr a1 0, .ptr a2 0] (· = .tup [.agg [B sx, .lst px, I L], B same]))
    (hpx : px = intsL (dg z.natAbs)) (hsx : sx = decide (z < 0)) (hx : x = mk z L) (b1 : bl (cZ x).natAbs ≤ 53) (b2 : x ≠ 0 → -1074 ≤ cE x ∧ cE x ≤ 60000) (hlz : (dg z.natAbs).length ≤ 50000)
    (hf : flR neg same T mode x k u m e' fl) :
    FS P gl 38 [B neg, I T, I mode, .fn f [.ptr a0 0, .ptr a1 0, .ptr a2 0]] (· = .tup [.agg [I k, B neg, I m, I e'], I fl]) := by
  obtain ⟨f0, f1, f2, f3⟩ := hf
  obtain ⟨sy, hsy⟩ : ∃ b, b = decide (cZ x < 0) := ⟨_, rfl⟩
  obtain ⟨py, hpy⟩ : ∃ q, q = intsL (dg (cZ x).natAbs) := ⟨_, rfl⟩
  obtain ⟨ey, hey⟩ : ∃ g, g = cE x := ⟨_, rfl⟩
  obtain ⟨T2, hT2⟩ : ∃ t, t = topD x := ⟨_, rfl⟩
  obtain ⟨n, hn⟩ : ∃ n, n = (cZ x).natAbs * 2 ^ (cE x - fe x).toNat := ⟨_, rfl⟩
  obtain ⟨pm, hpm⟩ : ∃ q, q = intsL (dg n) := ⟨_, rfl⟩
  obtain ⟨zb, hzb⟩ : ∃ b, b = decide ((dg (cZ x).natAbs).length = 0) := ⟨_, rfl⟩
  obtain ⟨r1, r2, r3, r4, r5⟩ := rbounds (B := 60000) b1 b2 (by omega)
  have hx0 : py.length = 0 ↔ x = 0 := by
    rw [hpy, ints_len, dgL_zero, Int.natAbs_eq_zero, cZ_eq_zero]
  have hzl : zb = true ↔ py.length = 0 := by rw [hzb, hpy, ints_len, decide_eq_true_iff]
  have ht2 : T2 = topD (mk (cZ x) ey) := by rw [hT2, hey, mk_canon]
  have hg : py.length ≠ 0 → T2 ≤ 1024 → fe x = max (T2 - 53) (-1074) ∧ k = 1 ∧ m = m ∧ e' = fe x ∧ fl = fl0 same T ∧ (ey - fe x).natAbs ≤ 100000 ∧
      (∀ (P' : Program) (C' : Cx P' gl), FS P' gl 87 [.lst py, I (ey - fe x)] (· = .lst pm)) ∧ m = (n : Int) ∧ n < 9007199254740992 ∧ pm = intsL (dg n) := by
    intro hne hle
    have hxn : x ≠ 0 := fun h => hne (hx0.2 h)
    obtain ⟨g1, g2, g3, g4⟩ := f3 hxn (by omega)
    obtain ⟨d1, d2, d3⟩ := fe_bits hxn b1 (b2 hxn).1
    rw [← hn] at d2 g3
    refine ⟨by rw [hT2]; rfl, g1, rfl, g2, g4, by omega, fun P' C' => ?_, g3, Nat.lt_of_lt_of_eq d2 (by decide), hpm⟩
    exact up_fs C' hpy (valid_dg _) (k := ey - fe x) rfl (n := n) (by rw [val_dg, hn, hey, Int.natCast_mul, Int.natCast_pow]; rfl) hpm (by omega) (by omega) (by omega)
  exact floatOf3_walk C (k' := k) (m' := m) (e' := e') (fl := fl) (low := L) (T2 := T2) (same := same) (sx := sx) (sy := sy) (g := fe x) (m := m) (n := n) (fl1 := fl0 same T) (px := px) (py := py) (ex := L) (ey := ey) (pm := pm) (zb := zb)
    (by omega) hL hr (fun P' C' => odd_fs C' hpx hsx hx hpy hsy hey (by omega) (by omega)) (fun P' C' => isZero_fs C' hpy hzb) hzl rfl (fun h => f1 (hx0.1 h))
    (fun P' C' => exactTop_fs C' hpy ht2 (by omega) (by omega)) (by omega) (fun h h' => ⟨(f2 (fun g => h (hx0.2 g)) (by omega)).1, True.intro⟩)
    (fun h h' P' C' => overflow_fs C' rfl (f2 (fun g => h (hx0.2 g)) (by omega)).2.1 (f2 (fun g => h (hx0.2 g)) (by omega)).2.2) hg (by omega)

end Tryd
end Go.Proofs
