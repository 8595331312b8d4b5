/- Contracts: rounding of quotients. -/
import Derived.Test.YtlkiofkkjbodjaaGreatDoorDD5
import Derived.Test.YtlkiofkkjbodjaaGreatDoorDEvD
set_option maxHeartbeats 1000000
set_option maxRecDepth 100000
namespace Go.Proofs
open Go Go.Pe Go.Dg
namespace Tryz
set_option linter.unusedSimpArgs false
set_option linter.unusedVariables false
variable {P : Program} {gl : List (Nat × Obj)}

theorem roundUp_fs (C : Cx P gl) {s o r : Bool} {h m : Int} (hr : r = rup s o h m) : FS P gl 236 [B s, B o, I h, I m] (· = B r) := by
 refine gS C func236 rfl rfl rfl fun A hA hI => ?_
 iterate 2 all_goals try cbv; with_reducible repeat' first | exact ⟨⟩ | apply And.intro | intro _
 all_goals try exact oH
 iterate 2 all_goals try cbv; with_reducible repeat' first | exact ⟨⟩ | apply And.intro | intro _
 all_goals try exact oH
 iterate 2 all_goals try cbv; with_reducible repeat' first | exact ⟨⟩ | apply And.intro | intro _
 all_goals try exact oH
 iterate 2 all_goals try cbv; with_reducible repeat' first | exact ⟨⟩ | apply And.intro | intro _
 all_goals try exact oH
 all_goals subst hA
 all_goals simp only [AR.std, beq_iff_eq, beq_eq_false_iff_ne] at *
 all_goals rw [hr]; unfold rup
 all_goals have hh : (h == 0) = decide (h = 0) := by rw [Bool.eq_iff_iff]; simp
 all_goals simp_all

theorem roundQuotient_fs (C : Cx P gl) {s e : Bool} {X Y : Nat} {m : Int} {p q r : List PV} (hp : p = intsL (dg X)) (hq : q = intsL (dg Y)) (hY : 0 < Y) (hr : r = intsL (dg (rq s X Y m))) (he : e = decide (X % Y = 0))
  (hlx : (dg X).length ≤ 1000000) (hly : (dg Y).length ≤ 1000000) : FS P gl 185 [B s, .lst p, .lst q, I m] (· = .tup [.lst r, B e]) := by
 obtain ⟨a, ha⟩ : ∃ a, a = X / Y := ⟨_, rfl⟩
 obtain ⟨b, hb⟩ : ∃ b, b = X % Y := ⟨_, rfl⟩
 obtain ⟨pa, hpa⟩ : ∃ pa, pa = intsL (dg a) := ⟨_, rfl⟩
 obtain ⟨pb, hpb⟩ : ∃ pb, pb = intsL (dg b) := ⟨_, rfl⟩
 have hbY : b < Y := by rw [hb]; exact Nat.mod_lt _ hY
 refine gS C func185 rfl rfl rfl fun A hA hI => ?_
 iterate 2 all_goals try cbv; with_reducible repeat' first | exact ⟨⟩ | apply And.intro | intro _
 all_goals try exact oH
 refine callS hA rfl (divide_fs C (r1 := pa) (r2 := pb) hp hq hY (by rw [hpa, ha]) (by rw [hpb, hb]) hlx hly) ?_; rintro _ rfl
 iterate 2 all_goals try cbv; with_reducible repeat' first | exact ⟨⟩ | apply And.intro | intro _
 all_goals try exact oH
 all_goals have hlen0 : (A.cast (A.len pb)) = (dg b).length := by subst hA; rw [hpb]; show (((intsL (dg b)).length : Nat) : Int) = _; rw [ints_len]
 ·rename_i g
  rw [hlen0] at g
  have hb0 : b = 0 := by
   rcases Nat.eq_zero_or_pos b with h | h
   ·exact h
   ·exfalso
    have := dg_ne_nil h
    subst hA; simp [AR.std] at g; rw [g] at this; simp at this
  rw [hr, rq_exact (by rw [← hb]; exact hb0), ← ha, ← hpa, he, ← hb, decide_eq_true hb0]
 ·rename_i g
  rw [hlen0] at g
  have hb0 : b ≠ 0 := by
   intro h
   rw [h, dg_zero] at g
   subst hA; simp [AR.std] at g
  have e1 : e = false := by rw [he, ← hb, decide_eq_false hb0]
  have hla : (dg a).length ≤ 1000000 := by
   refine Nat.le_trans (dg_len_le (dg X).length _ ?_) hlx
   rw [ha]; exact Nat.lt_of_le_of_lt (Nat.div_le_self _ _) (lt_pow_of rfl)
  have hlb : (dg b).length ≤ 1000000 := by
   refine Nat.le_trans (dg_len_le (dg Y).length _ ?_) hly
   exact Nat.lt_trans hbY (lt_pow_of rfl)
  have hlb2 : (dg (b * 2)).length ≤ (dg b).length + 1 := up_len (X := b) (s := 1) rfl (by decide)
  obtain ⟨bt, hbt⟩ : ∃ bt : Int, bt = ((a / 2 ^ (0 : Int).toNat % 2 : Nat) : Int) := ⟨_, rfl⟩
  have hbt2 : A.eq bt 1 = decide (a % 2 = 1) := by
   rw [hbt]; subst hA; rw [Bool.eq_iff_iff]; simp [AR.std]; omega
  obtain ⟨od, hod⟩ : ∃ od, od = decide (a % 2 = 1) := ⟨_, rfl⟩
  rw [← hod] at hbt2
  obtain ⟨p2, hp2⟩ : ∃ p2, p2 = intsL (dg (b * 2)) := ⟨_, rfl⟩
  obtain ⟨hf, hhf⟩ : ∃ hf, hf = cmpN (b * 2) Y := ⟨_, rfl⟩
  obtain ⟨ru, hru⟩ : ∃ ru, ru = rup s od hf m := ⟨_, rfl⟩
  have hrun : ∀ {t : Bool}, ru = t → rup s (decide (X / Y % 2 = 1)) (cmpN (X % Y * 2) Y) m = t := by
   intro t h
   rw [← h, hru, hod, hhf, ← ha, ← hb]
  refine callS hA rfl (bitOf_fs C (n := a) (b := bt) hpa (by decide) (by decide) hbt) ?_; rintro _ rfl
  iterate 2 all_goals try cbv; with_reducible repeat' first | exact ⟨⟩ | apply And.intro | intro _
  all_goals try exact oH
  simp only [hbt2]
  iterate 2 all_goals try cbv; with_reducible repeat' first | exact ⟨⟩ | apply And.intro | intro _
  all_goals try exact oH
  refine callS hA rfl (up_fs C (a := dg b) (k := 1) (n := b * 2) (r := p2) hpb (valid_dg b) rfl (by rw [val_dg, Int.natCast_mul]; rfl) hp2 (by decide) (by decide) (by omega)) ?_; rintro _ rfl
  iterate 2 all_goals try cbv; with_reducible repeat' first | exact ⟨⟩ | apply And.intro | intro _
  all_goals try exact oH
  refine callS hA rfl (compare_fs C hp2 hq hhf (by omega)) ?_; rintro _ rfl
  iterate 2 all_goals try cbv; with_reducible repeat' first | exact ⟨⟩ | apply And.intro | intro _
  all_goals try exact oH
  refine callS hA rfl (roundUp_fs C hru) ?_; rintro _ rfl
  iterate 2 all_goals try cbv; with_reducible repeat' first | exact ⟨⟩ | apply And.intro | intro _
  all_goals try exact oH
  ·rename_i gu
   have hup := rq_up (by rw [← hb]; exact hb0) (hrun gu)
   rw [← ha] at hup
   obtain ⟨p1, hp1⟩ : ∃ p1, p1 = intsL (dg 1) := ⟨_, rfl⟩
   refine callS hA rfl (small_fs C (k := 1) (n := 1) rfl hp1 (by decide)) ?_; rintro _ rfl
   iterate 2 all_goals try cbv; with_reducible repeat' first | exact ⟨⟩ | apply And.intro | intro _
   all_goals try exact oH
   refine callS hA rfl (plus_fs C (a := dg a) (b := dg 1) (n := a + 1) (r := r) hpa hp1 (valid_dg a) (valid_dg 1) (by rw [val_dg, val_dg]; rfl) (by rw [hr, hup]) (by omega) (Nat.le_trans (dg_len 1 (by decide)) (by decide))) ?_; rintro _ rfl
   iterate 2 all_goals try cbv; with_reducible repeat' first | exact ⟨⟩ | apply And.intro | intro _
   all_goals try exact oH
   rw [e1]
  ·rename_i gu
   have hdn := rq_down (by rw [← hb]; exact hb0) (hrun gu)
   rw [hr, hdn, ← ha, ← hpa, e1]

theorem over_fs (C : Cx P gl) {z1 z2 z e1 e2 low m : Int} {s1 s2 s ex : Bool} {p q r : List PV} (hp : p = intsL (dg z1.natAbs)) (hq : q = intsL (dg z2.natAbs)) (hs1 : s1 = decide (z1 < 0)) (hs2 : s2 = decide (z2 < 0)) (h2 : z2 ≠ 0)
  (hz : z = zover z1 z2 (e1 - e2 - low) m) (hr : r = intsL (dg z.natAbs)) (hs : s = decide (z < 0)) (hex : ex = decide (z1.natAbs * 2 ^ (e1 - e2 - low).toNat % (z2.natAbs * 2 ^ (-(e1 - e2 - low)).toNat) = 0))
  (hb1 : e1.natAbs ≤ 1000000) (hb2 : e2.natAbs ≤ 1000000) (hb3 : low.natAbs ≤ 1000000) (hl1 : (dg z1.natAbs).length ≤ 500000) (hl2 : (dg z2.natAbs).length ≤ 500000) :
  FS P gl 110 [.agg [B s1, .lst p, I e1], .agg [B s2, .lst q, I e2], I low, I m] (· = .tup [.agg [B s, .lst r, I low], B ex]) := by
 obtain ⟨k, hk⟩ : ∃ k, k = e1 - e2 - low := ⟨_, rfl⟩
 rw [← hk] at hz hex
 refine gS C func110 rfl rfl rfl fun A hA hI => ?_
 have hk3 : A.sub .i64 (A.sub .i64 e1 e2) low = k := by
  have m1 : A.sub .i64 e1 e2 = e1 - e2 := by subst hA; exact wrapi (by omega) (by omega)
  rw [m1, hk]; subst hA; exact wrapi (by omega) (by omega)
 obtain ⟨k1, hk1⟩ : ∃ k1 : Int, k1 = k.toNat := ⟨_, rfl⟩
 obtain ⟨k2, hk2⟩ : ∃ k2 : Int, k2 = (-k).toNat := ⟨_, rfl⟩
 have hm1 : A.max k 0 = k1 := by
  subst hA; show (if 0 > k then 0 else k) = _
  split <;> omega
 have hm2 : A.max (A.sub .i64 0 k) 0 = k2 := by
  have m1 : A.sub .i64 0 k = -k := by subst hA; show IntKind.i64.wrap (0 - k) = _; rw [wrapi (by omega) (by omega)]; omega
  rw [m1]; subst hA; show (if 0 > -k then 0 else -k) = _
  split <;> omega
 obtain ⟨sx, hsx⟩ : ∃ sx, sx = (s1 != s2) := ⟨_, rfl⟩
 obtain ⟨X, hX⟩ : ∃ X, X = z1.natAbs * 2 ^ k.toNat := ⟨_, rfl⟩
 obtain ⟨Y, hY⟩ : ∃ Y, Y = z2.natAbs * 2 ^ (-k).toNat := ⟨_, rfl⟩
 obtain ⟨px, hpx⟩ : ∃ px, px = intsL (dg X) := ⟨_, rfl⟩
 obtain ⟨py, hpy⟩ : ∃ py, py = intsL (dg Y) := ⟨_, rfl⟩
 have hY0 : 0 < Y := by rw [hY]; exact Nat.mul_pos (by omega) (Nat.pow_pos (by decide))
 have hza := zover_abs (a := z1) (b := z2) (k := k) (m := m) (s := sx) (by rw [hsx, hs1, hs2])
 rw [← hz, ← hX, ← hY] at hza
 have hzn := zover_neg (a := z1) (b := z2) (k := k) (m := m)
 rw [← hz, ← hs, ← hs1, ← hs2, ← hsx] at hzn
 have hlX : (dg X).length ≤ 1000000 := by have := len_up z1.natAbs k.toNat; rw [← hX] at this; omega
 have hlY : (dg Y).length ≤ 1000000 := by have := len_up z2.natAbs (-k).toNat; rw [← hY] at this; omega
 rw [← hX, ← hY] at hex
 have e1 : k1.toNat = k.toNat := by omega
 have e2 : k2.toNat = (-k).toNat := by omega
 have hc1 : k1 ≤ 100000000 := by omega
 have hc2 : k2 ≤ 100000000 := by omega
 have hc3 : 0 ≤ k1 := by omega
 have hc4 : 0 ≤ k2 := by omega
 iterate 2 all_goals try cbv; with_reducible repeat' first | exact ⟨⟩ | apply And.intro | intro _
 all_goals try exact oH
 simp only [hk3, hm1]
 refine ⟨_, up_fs C (a := dg z1.natAbs) (k := k1) (n := X) (r := px) hp (valid_dg _) rfl (by rw [val_dg, e1, hX, Int.natCast_mul, Int.natCast_pow]; rfl) hpx hc3 hc1 (by omega), ?_⟩
 iterate 2 all_goals try cbv; with_reducible repeat' first | exact ⟨⟩ | apply And.intro | intro _
 all_goals try exact oH
 simp only [hm2]
 refine ⟨_, up_fs C (a := dg z2.natAbs) (k := k2) (n := Y) (r := py) hq (valid_dg _) rfl (by rw [val_dg, e2, hY, Int.natCast_mul, Int.natCast_pow]; rfl) hpy hc4 hc2 (by omega), ?_⟩
 iterate 2 all_goals try cbv; with_reducible repeat' first | exact ⟨⟩ | apply And.intro | intro _
 all_goals try exact oH
 have hbs : A.bnot (A.beq s1 s2) = sx := by rw [hsx]; subst hA; rfl
 simp only [hbs]
 refine ⟨_, roundQuotient_fs C (X := X) (Y := Y) (e := ex) (r := r) hpx hpy hY0 (by rw [hr, hza]) hex hlX hlY, ?_⟩
 iterate 2 all_goals try cbv; with_reducible repeat' first | exact ⟨⟩ | apply And.intro | intro _
 all_goals try exact oH
 have hpk : A.pick sx (A.lt 0 (A.cast (A.len r))) false = s := by
  have m0 : A.cast (A.len r) = (dg z.natAbs).length := by subst hA; rw [hr]; show (((intsL _).length : Nat) : Int) = _; rw [ints_len]
  have m1 : A.lt 0 (A.cast (A.len r)) = decide (0 < z.natAbs) := by
   rw [m0]; subst hA; show decide ((0 : Int) < _) = _
   refine decide_eq_decide.2 ⟨fun h => ?_, fun h => ?_⟩
   ·rcases Nat.eq_zero_or_pos z.natAbs with h0 | h0
    ·rw [h0, dg_zero] at h; simp at h
    ·exact h0
   ·have := dg_ne_nil h; omega
  rw [m1, hzn]; subst hA; cases sx <;> rfl
 iterate 2 all_goals try cbv; with_reducible repeat' first | exact ⟨⟩ | apply And.intro | intro _
 all_goals try exact oH
 simp only [hpk]

end Tryz
end Go.Proofs
