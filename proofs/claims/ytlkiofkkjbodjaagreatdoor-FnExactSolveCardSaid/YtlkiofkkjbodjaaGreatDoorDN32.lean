/- Contracts: rounding in the reference. -/
import Derived.Test.YtlkiofkkjbodjaaGreatDoorDN8
import Derived.Test.YtlkiofkkjbodjaaGreatDoorDEvD
set_option maxHeartbeats 1000000
set_option maxRecDepth 100000
namespace Go.Proofs
open Go Go.Pe Go.Dg
namespace Tryz
set_option linter.unusedSimpArgs false
set_option linter.unusedVariables false
variable {P : Program} {gl : List (Nat × Obj)}

theorem l4ups_fs (C : Cx P gl) {M k t n : Nat} {s b : Bool} {k' m : Int} {p : List PV} (hp : p = intsL (dg M)) (ht : M = 2 ^ t * (2 * n + 1)) (hk : k' = k) (hk1 : 1 ≤ k) (hk2 : k ≤ 1000000) (h0 : 0 ≤ m) (h1 : m ≤ 4)
  (hb : b = rup s (decide (M / 2 ^ k % 2 = 1)) (cmpN (M % 2 ^ k * 2) (2 ^ k)) m) (hl : (dg M).length ≤ 1000000) : FS P gl 212 [B s, .agg [.lst p], I k', I m] (· = B b) := by
 rw [ups_rup hk1 ht h0 h1] at hb
 obtain ⟨hf, hhf⟩ : ∃ hf, hf = decide (M / 2 ^ (k - 1) % 2 = 1) := ⟨_, rfl⟩
 obtain ⟨mo, hmo⟩ : ∃ mo, mo = decide (t < k - 1) := ⟨_, rfl⟩
 obtain ⟨od, hod⟩ : ∃ od, od = decide (M / 2 ^ k % 2 = 1) := ⟨_, rfl⟩
 rw [← hhf, ← hmo, ← hod] at hb
 obtain ⟨j, hj⟩ : ∃ j : Int, j = k' - 1 := ⟨_, rfl⟩
 have hjn : j.toNat = k - 1 := by omega
 have hkn : k'.toNat = k := by omega
 obtain ⟨b1, hb1⟩ : ∃ b1 : Int, b1 = ((M / 2 ^ j.toNat % 2 : Nat) : Int) := ⟨_, rfl⟩
 obtain ⟨b2, hb2⟩ : ∃ b2 : Int, b2 = ((M / 2 ^ k'.toNat % 2 : Nat) : Int) := ⟨_, rfl⟩
 obtain ⟨tr, htr⟩ : ∃ tr : Int, tr = t := ⟨_, rfl⟩
 have hbit1 := fun (P' : Program) (C' : Cx P' gl) => l2bit_fs C' (n := M) (i := j) hp (by omega) (by omega) hb1
 have hbit2 := fun (P' : Program) (C' : Cx P' gl) => l2bit_fs C' (n := M) (i := k') hp (by omega) (by omega) hb2
 have htrl := fun (P' : Program) (C' : Cx P' gl) => l2trail_fs C' (n := M) (k := t) (m := n) hp ht htr (by omega)
 rw [hjn] at hb1
 rw [hkn] at hb2
 have q1 : (b1 == 1) = hf := by rw [hb1, hhf, bit_eq]
 have q2 : (b2 == 1) = od := by rw [hb2, hod, bit_eq]
 have q3 : decide (tr < j) = mo := by rw [hmo, decide_eq_decide]; omega
 clear hb1 hb2 hhf hmo hod htr
 refine gS C func212 rfl rfl rfl fun A hA hI => ?_
 have e0 : A.sub .i64 k' 1 = j := by rw [hj]; subst hA; exact wrapi (by omega) (by omega)
 have e1 : A.eq b1 1 = hf := by rw [← q1]; subst hA; rfl
 have e2 : A.eq b2 1 = od := by rw [← q2]; subst hA; rfl
 have e3 : A.lt tr j = mo := by rw [← q3]; subst hA; rfl
 iterate 2 all_goals try cbv; with_reducible repeat' first | exact ⟨⟩ | apply And.intro | intro _
 all_goals try exact oH
 all_goals try simp only [e0]
 refine callS hA rfl (hbit1 P C) ?_; rintro _ rfl
 iterate 2 all_goals try cbv; with_reducible repeat' first | exact ⟨⟩ | apply And.intro | intro _
 all_goals try exact oH
 refine callS hA rfl (htrl P C) ?_; rintro _ rfl
 iterate 2 all_goals try cbv; with_reducible repeat' first | exact ⟨⟩ | apply And.intro | intro _
 all_goals try exact oH
 all_goals try simp only [e0, e1, e3]
 iterate 2 all_goals try cbv; with_reducible repeat' first | exact ⟨⟩ | apply And.intro | intro _
 all_goals try exact oH
 all_goals try simp only [e0, e1, e3]
 iterate 2 all_goals try cbv; with_reducible repeat' first | exact ⟨⟩ | apply And.intro | intro _
 all_goals try exact oH
 iterate 2 all_goals try cbv; with_reducible repeat' first | exact ⟨⟩ | apply And.intro | intro _
 all_goals try exact oH
 all_goals try (refine ⟨_, fun _ => hbit2 P C, ?_⟩)
 iterate 2 all_goals try cbv; with_reducible repeat' first | exact ⟨⟩ | apply And.intro | intro _
 all_goals try exact oH
 all_goals try simp only [e2]
 iterate 2 all_goals try cbv; with_reducible repeat' first | exact ⟨⟩ | apply And.intro | intro _
 all_goals try exact oH
 all_goals (
  subst hA
  simp only [AR.std, beq_iff_eq, beq_eq_false_iff_ne] at *
  rw [hb]
  simp_all)
 all_goals (cases hf <;> cases mo <;> cases od <;> rfl)

theorem l4round_fs (C : Cx P gl) {d d' : Dyadic} {s u ex : Bool} {e g low m : Int} {p r : List PV} (hs : s = decide (cZ d < 0)) (hp : p = intsL (dg (cZ d).natAbs)) (he : e = cE d)
  (hd : d' = roundD d low m) (hu : u = decide (cZ d' < 0)) (hr : r = intsL (dg (cZ d').natAbs)) (hg : g = cE d') (hex : ex = decide (d = 0 ∨ low ≤ e)) (h0 : 0 ≤ m) (h1 : m ≤ 4)
  (hb1 : e.natAbs ≤ 500000) (hb2 : low.natAbs ≤ 500000) (hl : (dg (cZ d).natAbs).length ≤ 500000) :
  FS P gl 146 [.agg [B s, .lst p, I e], I low, I m] (· = .tup [.agg [B u, .lst r, I g], B ex]) := by
 obtain ⟨M, hM⟩ : ∃ M, M = (cZ d).natAbs := ⟨_, rfl⟩
 have hM0 : M = 0 ↔ d = 0 := by rw [hM, Int.natAbs_eq_zero, cZ_eq_zero]
 rw [← hM] at hp hl
 have hsame : d = 0 ∨ low ≤ e → u = s ∧ r = p ∧ g = e ∧ ex = true := by
  intro h
  have e1 : d' = d := by rw [hd, roundD_same (by rw [← he]; exact h)]
  exact ⟨by rw [hu, e1, hs], by rw [hr, e1, ← hM, hp], by rw [hg, e1, he], by rw [hex, decide_eq_true h]⟩
 obtain ⟨zb, hzb⟩ : ∃ zb, zb = decide (M = 0) := ⟨_, rfl⟩
 obtain ⟨lb, hlb⟩ : ∃ lb, lb = decide (low ≤ e) := ⟨_, rfl⟩
 refine gS C func146 rfl rfl rfl fun A hA hI => ?_
 have hz : A.eq (A.cast (A.len p)) 0 = zb := by
  rw [hzb]; subst hA; subst hp; rw [Bool.eq_iff_iff]; simp only [AR.std, ints_len, beq_iff_eq, decide_eq_true_eq]
  constructor
  ·intro h
   exact dg_len0.1 (by omega)
  ·intro h; rw [dg_len0.2 h]; rfl
 have hle : A.le low e = lb := by rw [hlb]; subst hA; rfl
 iterate 2 all_goals try cbv; with_reducible repeat' first | exact ⟨⟩ | apply And.intro | intro _
 all_goals try exact oH
 all_goals try simp only [hz, hle]
 ·rename_i g'
  have hor : d = 0 ∨ low ≤ e := by
   rw [hz, hle, hzb, hlb] at g'
   subst hA
   have g2 : (bif decide (M = 0) then true else decide (low ≤ e)) = true := g'
   by_cases h : M = 0
   ·exact .inl (hM0.1 h)
   ·rw [decide_eq_false h] at g2
    exact .inr (of_decide_eq_true g2)
  obtain ⟨rfl, rfl, rfl, rfl⟩ := hsame hor
  iterate 2 all_goals try cbv; with_reducible repeat' first | exact ⟨⟩ | apply And.intro | intro _
  all_goals try exact oH
 ·rename_i g'
  have hor : ¬ (d = 0 ∨ low ≤ e) := by
   rw [hz, hle, hzb, hlb] at g'
   subst hA
   have g2 : (bif decide (M = 0) then true else decide (low ≤ e)) = false := g'
   intro h
   rcases h with h | h
   ·rw [decide_eq_true (hM0.2 h)] at g2; cases g2
   ·rw [decide_eq_true h] at g2
    by_cases h' : M = 0
    ·rw [decide_eq_true h'] at g2; cases g2
    ·rw [decide_eq_false h'] at g2; cases g2
  have hd0 : d ≠ 0 := fun h => hor (.inl h)
  have hle2 : e < low := by apply Int.lt_of_not_ge; intro h; exact hor (.inr h)
  obtain ⟨k, hk⟩ : ∃ k : Nat, low - e = k := ⟨(low - e).toNat, by omega⟩
  obtain ⟨k', hk'⟩ : ∃ k' : Int, k' = k := ⟨_, rfl⟩
  have ek : A.sub .i64 low e = k' := by
   have : low - e = k' := by omega
   rw [← this]; subst hA; exact wrapi (by omega) (by omega)
  obtain ⟨z, hz2⟩ : ∃ z, z = zover (cZ d) 1 (e - low) m := ⟨_, rfl⟩
  have hd2 : d' = mk z low := by rw [hd, roundD_else (by rw [← he]; exact hor), ← he, hz2]
  have e1 : (e - low).toNat = 0 := by omega
  have e2 : (-(e - low)).toNat = k := by omega
  have hza := zover_abs (a := cZ d) (b := 1) (k := e - low) (m := m) (s := s) (by rw [hs]; simp)
  rw [← hz2, ← hM, e1, e2, Nat.pow_zero, Nat.mul_one, show Int.natAbs 1 = 1 from rfl, Nat.one_mul] at hza
  have hzn := zover_neg (a := cZ d) (b := 1) (k := e - low) (m := m)
  rw [← hz2, show decide ((1 : Int) < 0) = false from rfl, Bool.bne_false, ← hs] at hzn
  have hMd : M % 2 ^ k ≠ 0 := by
   intro h
   have hodd := cZ_odd hd0
   obtain ⟨c, hc⟩ := Nat.dvd_of_mod_eq_zero h
   obtain ⟨k0, rfl⟩ : ∃ k0, k = k0 + 1 := ⟨k - 1, by omega⟩
   rw [Nat.pow_succ] at hc
   have : M = 2 * (2 ^ k0 * c) := by rw [hc]; grind
   omega
  obtain ⟨t, n, ht⟩ := odd_ex M (fun h => hd0 (hM0.1 h))
  obtain ⟨ub, hub⟩ : ∃ ub, ub = rup s (decide (M / 2 ^ k % 2 = 1)) (cmpN (M % 2 ^ k * 2) (2 ^ k)) m := ⟨_, rfl⟩
  have hrt : ub = true → rq s M (2 ^ k) m = M / 2 ^ k + 1 := fun h => rq_up hMd (by rw [← hub]; exact h)
  have hrf : ub = false → rq s M (2 ^ k) m = M / 2 ^ k := fun h => rq_down hMd (by rw [← hub]; exact h)
  obtain ⟨pq, hpq⟩ : ∃ pq, pq = intsL (dg (M / 2 ^ k)) := ⟨_, rfl⟩
  obtain ⟨pz, hpz⟩ : ∃ pz, pz = intsL (dg z.natAbs) := ⟨_, rfl⟩
  obtain ⟨sz, hsz⟩ : ∃ sz, sz = decide (z < 0) := ⟨_, rfl⟩
  have hex2 : ex = false := by rw [hex, decide_eq_false hor]
  have hlq : (dg (M / 2 ^ k)).length ≤ 500000 := by
   refine Nat.le_trans (dg_len_le (dg M).length _ ?_) hl
   exact Nat.lt_of_le_of_lt (Nat.div_le_self _ _) (lt_pow_of rfl)
  have hlz : (dg z.natAbs).length ≤ 500001 := by
   rw [hza]
   refine Nat.le_trans (dg_len_le ((dg M).length + 1) _ ?_) (by omega)
   have h5 := rq_le s M (2 ^ k) m
   have h6 := Nat.div_le_self M (2 ^ k)
   have h7 := lt_pow_of (X := M) rfl
   rw [Nat.pow_succ]
   omega
  have hkn : k'.toNat = k := by omega
  have hshr := fun (P' : Program) (C' : Cx P' gl) => l2shr_fs C' (n := M) (k := k') (r := pq) hp (by omega) (by omega) (by omega) (by rw [hkn, hpq])
  have hups := fun (P' : Program) (C' : Cx P' gl) => l4ups_fs C' (k := k) hp ht hk' (by omega) (by omega) h0 h1 hub (by omega)
  obtain ⟨p1, hp1⟩ : ∃ p1, p1 = intsL (dg 1) := ⟨_, rfl⟩
  have hof := fun (P' : Program) (C' : Cx P' gl) => l2of_fs C' (k := 1) (n := 1) rfl hp1 (by decide)
  have hadd := fun (hb : ub = true) (P' : Program) (C' : Cx P' gl) => l2add_fs C' (a := dg (M / 2 ^ k)) (b := dg 1) (n := M / 2 ^ k + 1) (r := pz) hpq hp1 (valid_dg _) (valid_dg 1) (by rw [val_dg, val_dg]; rfl) (by rw [hpz, hza, hrt hb]) (by omega) (Nat.le_trans (dg_len 1 (by decide)) (by decide))
  have hqz : ub = false → pq = pz := fun hb => by rw [hpq, hpz, hza, hrf hb]
  have hmk := fun (P' : Program) (C' : Cx P' gl) => l3make_fs C' (n := z.natAbs) (s := s) (s' := sz) hpz (by rw [hsz, hzn, decide_eq_decide.2 (by omega : z.natAbs ≠ 0 ↔ 0 < z.natAbs)]) (by omega)
  have hl4 := fun (P' : Program) (C' : Cx P' gl) => l4make_fs C' (z := z) (e := low) hpz hsz hd2 hr hu hg (by omega) (by omega)
  clear hsame hs hp he hd hu hr hg hex h0 h1 hM0 hza hzn hub hrt hrf hpq hpz hsz hz2 hd2 hor g' hp1 hzb hlb
  iterate 2 all_goals try cbv; with_reducible repeat' first | exact ⟨⟩ | apply And.intro | intro _
  all_goals try exact oH
  all_goals try simp only [ek]
  refine callS hA rfl (hshr P C) ?_; rintro _ rfl
  iterate 2 all_goals try cbv; with_reducible repeat' first | exact ⟨⟩ | apply And.intro | intro _
  all_goals try exact oH
  refine callS hA rfl (hups P C) ?_; rintro _ rfl
  iterate 2 all_goals try cbv; with_reducible repeat' first | exact ⟨⟩ | apply And.intro | intro _
  all_goals try exact oH
  ·rename_i gu
   refine ⟨_, hof P C, ?_⟩
   iterate 2 all_goals try cbv; with_reducible repeat' first | exact ⟨⟩ | apply And.intro | intro _
   all_goals try exact oH
   refine callS hA rfl (hadd gu P C) ?_; rintro _ rfl
   iterate 2 all_goals try cbv; with_reducible repeat' first | exact ⟨⟩ | apply And.intro | intro _
   all_goals try exact oH
   refine callS hA rfl (hmk P C) ?_; rintro _ rfl
   iterate 2 all_goals try cbv; with_reducible repeat' first | exact ⟨⟩ | apply And.intro | intro _
   all_goals try exact oH
   refine callS hA rfl (hl4 P C) ?_; rintro _ rfl
   iterate 2 all_goals try cbv; with_reducible repeat' first | exact ⟨⟩ | apply And.intro | intro _
   all_goals try exact oH
   rw [hex2]
  ·rename_i gu
   rw [hqz gu]
   refine callS hA rfl (hmk P C) ?_; rintro _ rfl
   iterate 2 all_goals try cbv; with_reducible repeat' first | exact ⟨⟩ | apply And.intro | intro _
   all_goals try exact oH
   refine callS hA rfl (hl4 P C) ?_; rintro _ rfl
   iterate 2 all_goals try cbv; with_reducible repeat' first | exact ⟨⟩ | apply And.intro | intro _
   all_goals try exact oH
   rw [hex2]

end Tryz
end Go.Proofs
