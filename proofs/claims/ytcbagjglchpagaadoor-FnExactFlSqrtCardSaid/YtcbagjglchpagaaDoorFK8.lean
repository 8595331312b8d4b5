/- Contracts: the float of a quotient, in the program. -/
import Derived.Test.YtcbagjglchpagaaDoorFK7
import Derived.Test.YtcbagjglchpagaaDoorFK8a
namespace Go.Proofs
open Go Go.Pe Go.Dg
namespace Tryd
set_option linter.unusedSimpArgs false
set_option linter.unusedVariables false
variable {P : Program} {gl : List (Nat × Obj)}

set_option maxHeartbeats 1000000 in
set_option maxRecDepth 100000 in
/-- the float of a quotient: its number is that of the reference -/
theorem quotient_fs (C : Cx P gl) {a b : Dyadic} {z1 z2 e1 e2 t0 T L lw mode k m e' fl : Int} {s1 s2 neg same u : Bool} {p q : List PV} (hp : p = intsL (dg z1.natAbs)) (hq : q = intsL (dg z2.natAbs)) (hs1 : s1 = decide (z1 < 0)) (hs2 : s2 = decide (z2 < 0))
    (hz1 : z1 ≠ 0) (hz2 : z2 ≠ 0) (ha : a = mk z1 e1) (hb : b = mk z2 e2) (ht : t0 = topD a - topD b) (hlw : lw = t0 - 56) (hT : T = topD (quotD a b lw)) (hL : L = max (T - 53) (-1074)) (hlL : lw ≤ L)
    (hsame : same = decide (quotD a b lw = 0 ∨ L ≤ cE (quotD a b lw))) (hneg : neg = (s1 != s2)) (hf : flR neg same T mode (roundD (quotD a b lw) L mode) k u m e' fl)
    (hb1 : e1.natAbs ≤ 20000) (hb2 : e2.natAbs ≤ 20000) (hE : (cE (quotD a b lw)).natAbs ≤ 20000) (ht1 : (topD a).natAbs ≤ 10000) (ht2 : (topD b).natAbs ≤ 10000) (hTb : T.natAbs ≤ 40000) (hl1 : (dg z1.natAbs).length ≤ 100) (hl2 : (dg z2.natAbs).length ≤ 100) :
    FS P gl 48 [.agg [B s1, .lst p, I e1], .agg [B s2, .lst q, I e2], I mode] (· = .tup [.agg [I k, B neg, I m, I e'], I fl]) := by
  have ha0 : a ≠ 0 := by rw [ha]; exact mk_ne hz1
  have hb0 : b ≠ 0 := by rw [hb]; exact mk_ne hz2
  have hd := div_top (low := lw) (t0 := t0) (T := T) ha0 hb0 ht hlw
  obtain ⟨r1, r2⟩ := div_law2 (low := lw) (L := L) mode hlL ha0 hb0
  obtain ⟨w1, w2⟩ := zover_form (z1 := z1) (e1 := e1) (z2 := z2) (e2 := e2) (L := L) (m := mode) hz1 hz2
  rw [← ha, ← hb] at w1 w2
  obtain ⟨z, hz⟩ : ∃ z, z = zover z1 z2 (e1 - e2 - L) mode := ⟨_, rfl⟩
  have hx : roundD (quotD a b lw) L mode = mk z L := by rw [r1, divD, hz, w1]
  have hq0 : quotD a b lw ≠ 0 := quotD_ne ha0
  obtain ⟨b1, b2⟩ := round_bits (d := quotD a b lw) (L := L) (m := mode) hq0 (by rw [hL, hT])
  have hsm : same = decide (z1.natAbs * 2 ^ (e1 - e2 - L).toNat % (z2.natAbs * 2 ^ (-(e1 - e2 - L)).toNat) = 0) := by
    rw [hsame, decide_eq_decide, w2, ← r2]
    exact ⟨fun h => h.resolve_left hq0, .inr⟩
  have hT2 : T = if mk ((z2.natAbs : Nat) : Int) (e2 + t0) ≤ mk ((z1.natAbs : Nat) : Int) e1 then t0 + 1 else t0 := by
    have f1 := mk_abs_form (z := z2) (e := e2) (t0 := t0) hz2
    have f2 := mk_abs_form (z := z1) (e := e1) (t0 := 0) hz1
    rw [← hb] at f1
    rw [← ha, Int.add_zero, Int.add_zero] at f2
    rw [f1, f2, hT]
    exact div_top (low := lw) (t0 := t0) ha0 hb0 ht hlw rfl
  obtain ⟨sz, hsz⟩ : ∃ s, s = decide (z < 0) := ⟨_, rfl⟩
  obtain ⟨r, hr⟩ : ∃ r, r = intsL (dg z.natAbs) := ⟨_, rfl⟩
  have hlz : (dg z.natAbs).length ≤ 50000 := by
    have := zover_len z1 z2 (e1 - e2 - L) mode
    rw [← hz] at this; omega
  rw [hx] at hf b1 b2
  have q1 := fun (P' : Program) (C' : Cx P' gl) => quotient1_fs C' (m := mode) hp hq hs1 hs2 hz2 hz hr hsz hsm (by omega) (by omega) (by omega) (by omega) (by omega)
  have qt := fun (P' : Program) (C' : Cx P' gl) => quotientTop_fs C' (s1 := s1) (s2 := s2) hp hq (show t0 = topD (mk z1 e1) - topD (mk z2 e2) by rw [← ha, ← hb]; exact ht) hT2 (by omega) (by omega) (by rw [← ha]; omega) (by rw [← hb]; omega) (by omega) (by omega)
  have fo := fun (P' : Program) (C' : Cx P' gl) => floatOfR3_fs C' (neg := neg) (z := z) (x := mk z L) (L := L) (T := T) (by omega) hL q1 hr hsz rfl b1 (fun h => by have := b2 h; omega) hlz hf
  have hn : ∀ _ : Unit, (!(s1 == s2)) = neg := fun _ => by rw [hneg]; rfl
  clear hp hq hs1 hs2 hz1 hz2 ha hb ht hlw hT hL hlL hsame hneg hf hb1 hb2 hE ht1 ht2 hTb hl1 hl2 ha0 hb0 hd r1 r2 w1 w2 hz hx hq0 b1 b2 hsm hT2 hsz hr hlz q1
  obtain ⟨rfl, hG⟩ := C
  refine FS_ofT (args := fun A => [.agg [B s1, .lst p, I e1], .agg [B s2, .lst q, I e2], I mode]) (R := fun A rr => rr = .tup [.agg [I k, B neg, I m, I e'], I fl]) Tryd.hT Tryd.mix Tryd.func48 rfl rfl (Nat.le_of_ble_eq_true rfl) ?_
  generalize hP : Tryd.prog = P
  intro A hA
  have C : Tryd.Cx P gl := ⟨hP.symm, hG⟩
  have hI : intsL = A.ints := by subst hA; rfl
  have hbs : A.bnot (A.beq s1 s2) = neg := by rw [← hn ()]; subst hA; rfl
  iterate 2 (all_goals try cbv; all_goals repeat' (first | with_reducible exact True.intro | with_reducible refine And.intro ?_ ?_ | intro _))
  all_goals try exact oH
  first | (refine callS hA rfl (qt P C) ?_; rintro _ rfl) | refine ⟨_, qt P C, ?_⟩
  iterate 2 (all_goals try cbv; all_goals repeat' (first | with_reducible exact True.intro | with_reducible refine And.intro ?_ ?_ | intro _))
  all_goals try exact oH
  all_goals try simp only [hbs]
  refine ⟨_, fo P C, ⟨_, rfl⟩, ?_⟩
  iterate 2 (all_goals try cbv; all_goals repeat' (first | with_reducible exact True.intro | with_reducible refine And.intro ?_ ?_ | intro _))
  all_goals try exact oH

end Tryd
end Go.Proofs
