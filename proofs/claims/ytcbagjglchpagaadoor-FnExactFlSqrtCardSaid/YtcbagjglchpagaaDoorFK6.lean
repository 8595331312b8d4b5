/- Contracts: the float of a number told in form, in the reference. -/
import Derived.Test.YtcbagjglchpagaaDoorFK5
import Derived.Test.YtcbagjglchpagaaDoorFN32
import Derived.Test.YtcbagjglchpagaaDoorFN5
import Derived.Test.YtcbagjglchpagaaDoorFPeTq
namespace Go.Proofs
open Go Go.Pe Go.Dg
namespace Tryd
set_option linter.unusedSimpArgs false
set_option linter.unusedVariables false
variable {P : Program} {gl : List (Nat × Obj)}

theorem dgL_zero {n : Nat} : (dg n).length = 0 ↔ n = 0 := by
  constructor
  · intro h
    rcases Nat.eq_zero_or_pos n with g | g
    · exact g
    · have := dg_ne_nil g; omega
  · intro h; rw [h, Go.Dg.dg_zero]; rfl

/-- the bounds of a rounded number -/
theorem rbounds {d : Dyadic} {B : Int} (hb : bl (cZ d).natAbs ≤ 53) (hE : d ≠ 0 → -1074 ≤ cE d ∧ cE d ≤ B) (hB : 0 ≤ B) : (dg (cZ d).natAbs).length ≤ 4 ∧ -1074 ≤ cE d ∧ cE d ≤ B ∧ -1074 ≤ topD d ∧ topD d ≤ B + 53 := by
  refine ⟨dg_len_le 4 _ (Nat.lt_of_lt_of_le ((bl_le 53 _).1 hb) (by decide)), ?_⟩
  by_cases h : d = 0
  · rw [h, cE_zero, topD_zero]; omega
  · obtain ⟨h1, h2⟩ := hE h
    have := topD_ne h
    omega

theorem l5roundR_fs (C : Cx P gl) {d x : Dyadic} {s zs same u : Bool} {e T L mode k m e' fl : Int} {p : List PV} (h0 : d ≠ 0) (hs : s = decide (cZ d < 0)) (hp : p = intsL (dg (cZ d).natAbs)) (he : e = cE d)
    (hT : T = topD d) (hL : L = max (T - 53) (-1074)) (hx : x = roundD d L mode) (hsame : same = decide (d = 0 ∨ L ≤ e)) (hf : flR s same T mode x k u m e' fl) (hm0 : 0 ≤ mode) (hm1 : mode ≤ 4)
    (hb1 : e.natAbs ≤ 50000) (hb2 : T.natAbs ≤ 50000) (hl : (dg (cZ d).natAbs).length ≤ 50000) :
    FS P gl 32 [.agg [B s, .lst p, I e], I mode, B zs] (· = .tup [.agg [I k, B s, I m, I e'], I fl]) := by
  obtain ⟨b1, b2⟩ := round_bits (m := mode) h0 (show L = max (topD d - 53) (-1074) by rw [hL, hT])
  rw [← hx] at b1 b2
  obtain ⟨f0, f1, f2, f3⟩ := hf
  obtain ⟨sx, hsx⟩ : ∃ b, b = decide (cZ x < 0) := ⟨_, rfl⟩
  obtain ⟨px, hpx⟩ : ∃ q, q = intsL (dg (cZ x).natAbs) := ⟨_, rfl⟩
  obtain ⟨ex, hex⟩ : ∃ g, g = cE x := ⟨_, rfl⟩
  obtain ⟨T2, hT2⟩ : ∃ t, t = topD x := ⟨_, rfl⟩
  obtain ⟨n, hn⟩ : ∃ n, n = (cZ x).natAbs * 2 ^ (cE x - fe x).toNat := ⟨_, rfl⟩
  obtain ⟨pm, hpm⟩ : ∃ q, q = intsL (dg n) := ⟨_, rfl⟩
  obtain ⟨r1, r2, r3, r4, r5⟩ := rbounds (B := 60000) b1 (fun h => by have := b2 h; omega) (by omega)
  have hx0 : px.length = 0 ↔ x = 0 := by
    rw [hpx, ints_len, dgL_zero, Int.natAbs_eq_zero, cZ_eq_zero]
  have hpl : p.length ≠ 0 := by
    rw [hp, ints_len]
    intro h
    exact h0 (cZ_eq_zero.1 (Int.natAbs_eq_zero.1 (dgL_zero.1 h)))
  have ht1 : T = topD (mk (cZ d) e) := by rw [hT, he, mk_canon]
  have ht2 : T2 = topD (mk (cZ x) ex) := by rw [hT2, hex, mk_canon]
  have hg : px.length ≠ 0 → T2 ≤ 1024 → fe x = max (T2 - 53) (-1074) ∧ sx = s ∧ k = 1 ∧ m = m ∧ e' = fe x ∧ fl = fl0 same T ∧ (ex - fe x).natAbs ≤ 100000 ∧
      (∀ (P' : Program) (C' : Cx P' gl), FS P' gl 74 [.agg [.lst px], I (ex - fe x)] (· = .agg [.lst pm])) ∧ (∀ (P' : Program) (C' : Cx P' gl), FS P' gl 73 [.agg [.lst pm]] (· = I m)) := by
    intro hne hle
    have hxn : x ≠ 0 := fun h => hne (hx0.2 h)
    obtain ⟨g1, g2, g3, g4⟩ := f3 hxn (by omega)
    obtain ⟨d1, d2, d3⟩ := fe_bits hxn b1 (b2 hxn).1
    rw [← hn] at d2 g3
    refine ⟨by rw [hT2]; rfl, by rw [hsx, hs]; exact (b2 hxn).2.2, g1, rfl, g2, g4, by omega, fun P' C' => ?_, fun P' C' => ?_⟩
    · exact l2shl_fs C' hpx (by omega) (by omega) (by omega) (by rw [hpm, hn, hex])
    · exact l2int_fs C' hpm g3 (Nat.lt_of_lt_of_eq d2 (by decide))
  refine l5round_walk C (k' := k) (m' := m) (e' := e') (fl := fl) (low := L) (T := T) (T2 := T2) (same := same) (sx := sx) (g := fe x) (m := m) (fl1 := fl0 same T) (px := px) (ex := ex) (pm := pm) hpl
    (fun P' C' => l4top_fs C' hp ht1 (by omega) (by omega)) (by omega) hL
    (fun P' C' => l4round_fs C' hs hp he hx hsx hpx hex hsame hm0 hm1 (by omega) (by omega) (by omega))
    rfl (fun h => f1 (hx0.1 h)) (fun P' C' => l4top_fs C' hpx ht2 (by omega) (by omega)) (by omega) (fun P' C' => l5most_fs C')
    (fun h h' => f2 (fun g => h (hx0.2 g)) (by omega)) hg (by omega) (by omega)

end Tryd
end Go.Proofs
