/- Contracts: the quotient in the reference, l4div. -/
import Derived.Test.YtlkiofkkjbodjaaGreatDoorDN31
import Derived.Test.YtlkiofkkjbodjaaGreatDoorDN32
set_option maxHeartbeats 2000000
set_option maxRecDepth 100000
namespace Go.Proofs
open Go Go.Pe Go.Dg
namespace Tryz
set_option linter.unusedSimpArgs false
set_option linter.unusedVariables false
variable {P : Program} {gl : List (Nat × Obj)}

theorem l4quot_walk (C : Cx P gl) {s1 s2 sx sz u zb kb rb : Bool} {e1 e2 g low k kn l3 : Int} {p q r pn pd pq pr p2 p1 pz : List PV} (b1 : e1.natAbs ≤ 100000) (b2 : e2.natAbs ≤ 100000) (b3 : low.natAbs ≤ 100000)
  (hk : k = e1 - e2 - low + 2) (hkn : kn = -k) (hl3 : l3 = low - 3) (hsx : sx = (s1 != s2)) (hzb : p.length = 0 ↔ zb = true) (hkb : kb = decide (0 ≤ k)) (hrb : 0 < pr.length ↔ rb = true)
  (hzero : zb = true → u = false ∧ r = [] ∧ g = 0)
  (hshlN : kb = true → ∀ (P' : Program) (C' : Cx P' gl), FS P' gl 208 [.agg [.lst p], I k] (· = .agg [.lst pn]))
  (hshlD : kb = false → ∀ (P' : Program) (C' : Cx P' gl), FS P' gl 208 [.agg [.lst q], I kn] (· = .agg [.lst pd]))
  (hpeq : kb = false → pn = p) (hqeq : kb = true → pd = q)
  (hdiv : ∀ (P' : Program) (C' : Cx P' gl), FS P' gl 213 [.agg [.lst pn], .agg [.lst pd]] (· = .tup [.agg [.lst pq], .agg [.lst pr]]))
  (hshl1 : ∀ (P' : Program) (C' : Cx P' gl), FS P' gl 208 [.agg [.lst pq], I 1] (· = .agg [.lst p2]))
  (hof : ∀ (P' : Program) (C' : Cx P' gl), FS P' gl 203 [I 1] (· = .agg [.lst p1]))
  (hadd : rb = true → ∀ (P' : Program) (C' : Cx P' gl), FS P' gl 202 [.agg [.lst p2], .agg [.lst p1]] (· = .agg [.lst pz]))
  (hp2z : rb = false → p2 = pz)
  (hmk : ∀ (P' : Program) (C' : Cx P' gl), FS P' gl 169 [B sx, .agg [.lst pz]] (· = .agg [B sz, .lst pz]))
  (hl4 : zb = false → ∀ (P' : Program) (C' : Cx P' gl), FS P' gl 129 [.agg [B sz, .lst pz], I l3] (· = .agg [B u, .lst r, I g])) :
  FS P gl 147 [.agg [B s1, .lst p, I e1], .agg [B s2, .lst q, I e2], I low] (· = .agg [B u, .lst r, I g]) := by
 refine gS C func147 rfl rfl rfl fun A hA hI => ?_
 have f1 : A.eq (A.cast (A.len p)) 0 = zb := by
  subst hA; show (((p.length : Nat) : Int) == 0) = zb
  rw [Bool.eq_iff_iff, ← hzb, beq_iff_eq]
  omega
 have f2 : A.add .i64 (A.sub .i64 (A.sub .i64 e1 e2) low) 2 = k := by
  have m1 : A.sub .i64 e1 e2 = e1 - e2 := by subst hA; exact wrapi (by omega) (by omega)
  have m2 : A.sub .i64 (e1 - e2) low = e1 - e2 - low := by subst hA; exact wrapi (by omega) (by omega)
  rw [m1, m2, hk]; subst hA; exact wrapi (by omega) (by omega)
 have f3 : A.le 0 k = kb := by rw [hkb]; subst hA; rfl
 have f4 : A.sub .i64 0 k = kn := by subst hA; show IntKind.i64.wrap (0 - k) = _; rw [wrapi (by omega) (by omega)]; omega
 have f5 : A.lt 0 (A.cast (A.len pr)) = rb := by
  subst hA; show decide ((0 : Int) < ((pr.length : Nat) : Int)) = rb
  rw [Bool.eq_iff_iff, ← hrb, decide_eq_true_eq]; omega
 have f6 : A.bnot (A.beq s1 s2) = sx := by rw [hsx]; subst hA; rfl
 have f7 : A.sub .i64 low 3 = l3 := by rw [hl3]; subst hA; exact wrapi (by omega) (by omega)
 clear hzb hkb hrb hk hkn hl3 hsx
 iterate 2 all_goals try cbv; with_reducible repeat' first | exact ⟨⟩ | apply And.intro | intro _
 all_goals try exact pH
 all_goals try simp only [f1] at *
 ·rename_i gz
  obtain ⟨rfl, rfl, rfl⟩ := hzero gz
  iterate 2 all_goals try cbv; with_reducible repeat' first | exact ⟨⟩ | apply And.intro | intro _
  all_goals try exact pH
 ·rename_i gk gz
  simp only [f2, f3] at gk
  obtain rfl := hqeq gk
  simp only [f2, f3]
  iterate 2 all_goals try cbv; with_reducible repeat' first | exact ⟨⟩ | apply And.intro | intro _
  all_goals try exact pH
  refine callS hA rfl (hshlN gk P C) ?_; rintro _ rfl
  iterate 2 all_goals try cbv; with_reducible repeat' first | exact ⟨⟩ | apply And.intro | intro _
  all_goals try exact pH
  refine callS hA rfl (hdiv P C) ?_; rintro _ rfl
  iterate 2 all_goals try cbv; with_reducible repeat' first | exact ⟨⟩ | apply And.intro | intro _
  all_goals try exact pH
  refine callS hA rfl (hshl1 P C) ?_; rintro _ rfl
  iterate 2 all_goals try cbv; with_reducible repeat' first | exact ⟨⟩ | apply And.intro | intro _
  all_goals try exact pH
  all_goals try simp only [f5] at *
  ·rename_i gr
   iterate 2 all_goals try cbv; with_reducible repeat' first | exact ⟨⟩ | apply And.intro | intro _
   all_goals try exact pH
   refine ⟨_, hof P C, ?_⟩
   iterate 2 all_goals try cbv; with_reducible repeat' first | exact ⟨⟩ | apply And.intro | intro _
   all_goals try exact pH
   refine callS hA rfl (hadd gr P C) ?_; rintro _ rfl
   iterate 2 all_goals try cbv; with_reducible repeat' first | exact ⟨⟩ | apply And.intro | intro _
   all_goals try exact pH
   all_goals try simp only [f6]
   refine callS hA rfl (hmk P C) ?_; rintro _ rfl
   iterate 2 all_goals try cbv; with_reducible repeat' first | exact ⟨⟩ | apply And.intro | intro _
   all_goals try exact pH
   all_goals try simp only [f7]
   refine callS hA rfl (hl4 gz P C) ?_; rintro _ rfl
   iterate 2 all_goals try cbv; with_reducible repeat' first | exact ⟨⟩ | apply And.intro | intro _
   all_goals try exact pH
  ·rename_i gr
   obtain rfl := hp2z gr
   iterate 2 all_goals try cbv; with_reducible repeat' first | exact ⟨⟩ | apply And.intro | intro _
   all_goals try exact pH
   all_goals try simp only [f6]
   refine callS hA rfl (hmk P C) ?_; rintro _ rfl
   iterate 2 all_goals try cbv; with_reducible repeat' first | exact ⟨⟩ | apply And.intro | intro _
   all_goals try exact pH
   all_goals try simp only [f7]
   refine callS hA rfl (hl4 gz P C) ?_; rintro _ rfl
   iterate 2 all_goals try cbv; with_reducible repeat' first | exact ⟨⟩ | apply And.intro | intro _
   all_goals try exact pH
 ·rename_i gk gz
  simp only [f2, f3] at gk
  obtain rfl := hpeq gk
  simp only [f2, f3]
  iterate 2 all_goals try cbv; with_reducible repeat' first | exact ⟨⟩ | apply And.intro | intro _
  all_goals try exact pH
  simp only [f4]
  refine callS hA rfl (hshlD gk P C) ?_; rintro _ rfl
  iterate 2 all_goals try cbv; with_reducible repeat' first | exact ⟨⟩ | apply And.intro | intro _
  all_goals try exact pH
  refine callS hA rfl (hdiv P C) ?_; rintro _ rfl
  iterate 2 all_goals try cbv; with_reducible repeat' first | exact ⟨⟩ | apply And.intro | intro _
  all_goals try exact pH
  refine callS hA rfl (hshl1 P C) ?_; rintro _ rfl
  iterate 2 all_goals try cbv; with_reducible repeat' first | exact ⟨⟩ | apply And.intro | intro _
  all_goals try exact pH
  all_goals try simp only [f5] at *
  ·rename_i gr
   iterate 2 all_goals try cbv; with_reducible repeat' first | exact ⟨⟩ | apply And.intro | intro _
   all_goals try exact pH
   refine ⟨_, hof P C, ?_⟩
   iterate 2 all_goals try cbv; with_reducible repeat' first | exact ⟨⟩ | apply And.intro | intro _
   all_goals try exact pH
   refine callS hA rfl (hadd gr P C) ?_; rintro _ rfl
   iterate 2 all_goals try cbv; with_reducible repeat' first | exact ⟨⟩ | apply And.intro | intro _
   all_goals try exact pH
   all_goals try simp only [f6]
   refine callS hA rfl (hmk P C) ?_; rintro _ rfl
   iterate 2 all_goals try cbv; with_reducible repeat' first | exact ⟨⟩ | apply And.intro | intro _
   all_goals try exact pH
   all_goals try simp only [f7]
   refine callS hA rfl (hl4 gz P C) ?_; rintro _ rfl
   iterate 2 all_goals try cbv; with_reducible repeat' first | exact ⟨⟩ | apply And.intro | intro _
   all_goals try exact pH
  ·rename_i gr
   obtain rfl := hp2z gr
   iterate 2 all_goals try cbv; with_reducible repeat' first | exact ⟨⟩ | apply And.intro | intro _
   all_goals try exact pH
   all_goals try simp only [f6]
   refine callS hA rfl (hmk P C) ?_; rintro _ rfl
   iterate 2 all_goals try cbv; with_reducible repeat' first | exact ⟨⟩ | apply And.intro | intro _
   all_goals try exact pH
   all_goals try simp only [f7]
   refine callS hA rfl (hl4 gz P C) ?_; rintro _ rfl
   iterate 2 all_goals try cbv; with_reducible repeat' first | exact ⟨⟩ | apply And.intro | intro _
   all_goals try exact pH

end Tryz
end Go.Proofs

set_option maxHeartbeats 2000000
set_option maxRecDepth 100000
namespace Go.Proofs
open Go Go.Pe Go.Dg
namespace Tryz
set_option linter.unusedSimpArgs false
set_option linter.unusedVariables false
variable {P : Program} {gl : List (Nat × Obj)}

theorem l4quot_fs (C : Cx P gl) {d1 d2 d' : Dyadic} {s1 s2 u : Bool} {e1 e2 g low : Int} {p q r : List PV} (hs1 : s1 = decide (cZ d1 < 0)) (hp : p = intsL (dg (cZ d1).natAbs)) (he1 : e1 = cE d1)
  (hs2 : s2 = decide (cZ d2 < 0)) (hq : q = intsL (dg (cZ d2).natAbs)) (he2 : e2 = cE d2) (h2 : d2 ≠ 0) (hd : d' = quotD d1 d2 low) (hu : u = decide (cZ d' < 0)) (hr : r = intsL (dg (cZ d').natAbs)) (hg : g = cE d')
  (hb1 : e1.natAbs ≤ 100000) (hb2 : e2.natAbs ≤ 100000) (hb3 : low.natAbs ≤ 100000) (hl1 : (dg (cZ d1).natAbs).length ≤ 100000) (hl2 : (dg (cZ d2).natAbs).length ≤ 100000) :
  FS P gl 147 [.agg [B s1, .lst p, I e1], .agg [B s2, .lst q, I e2], I low] (· = .agg [B u, .lst r, I g]) := by
 have B1 := hb1
 have B2 := hb2
 have B3 := hb3
 obtain ⟨M, hM⟩ : ∃ M, M = (cZ d1).natAbs := ⟨_, rfl⟩
 obtain ⟨N, hN⟩ : ∃ N, N = (cZ d2).natAbs := ⟨_, rfl⟩
 have hM0 : M = 0 ↔ d1 = 0 := by rw [hM, Int.natAbs_eq_zero, cZ_eq_zero]
 have hN0 : 0 < N := by rw [hN]; have : cZ d2 ≠ 0 := fun h => h2 (cZ_eq_zero.1 h); omega
 rw [← hM] at hp hl1
 rw [← hN] at hq hl2
 have hzero : d1 = 0 → u = false ∧ r = [] ∧ g = 0 := by
  intro h
  have e1 : d' = 0 := by rw [hd]; unfold quotD; rw [if_pos h]
  exact ⟨by rw [hu, e1]; rfl, by rw [hr, e1, cZ_zero, show Int.natAbs 0 = 0 from rfl, dg_zero]; rfl, by rw [hg, e1]; rfl⟩
 obtain ⟨zb, hzb⟩ : ∃ zb, zb = decide (M = 0) := ⟨_, rfl⟩
 obtain ⟨k, hk⟩ : ∃ k : Int, k = e1 - e2 - low + 2 := ⟨_, rfl⟩
 obtain ⟨n, hn⟩ : ∃ n, n = M * 2 ^ k.toNat := ⟨_, rfl⟩
 obtain ⟨d, hdd⟩ : ∃ d, d = N * 2 ^ (-k).toNat := ⟨_, rfl⟩
 obtain ⟨W, hW⟩ : ∃ W, W = 2 * (n / d) + (if n % d = 0 then 0 else 1) := ⟨_, rfl⟩
 obtain ⟨sx, hsx⟩ : ∃ sx, sx = (s1 != s2) := ⟨_, rfl⟩
 obtain ⟨z, hz⟩ : ∃ z : Int, z = if sx = true then -(W : Int) else W := ⟨_, rfl⟩
 have hd0 : 0 < d := by rw [hdd]; exact Nat.mul_pos hN0 (Nat.pow_pos (by decide))
 have hmk' : d1 ≠ 0 → d' = mk z (low - 3) := by
  intro h
  rw [hd]; unfold quotD; rw [if_neg h]
  congr 1
  unfold zquo
  rw [← he1, ← he2, ← hk, ← hM, ← hN, ← hn, ← hdd, ← hW, ← hs1, ← hs2, ← hsx, hz]
 have hzW : z.natAbs = W := by rw [hz]; split <;> simp
 have hW0 : M ≠ 0 → 0 < W := by
  intro h
  have hn0 : 0 < n := by rw [hn]; exact Nat.mul_pos (by omega) (Nat.pow_pos (by decide))
  rw [hW]
  by_cases h' : n % d = 0
  ·have h3 := Nat.div_add_mod n d
   have : n / d ≠ 0 := by intro h4; rw [h4, h'] at h3; omega
   omega
  ·rw [if_neg h']; omega
 obtain ⟨sz, hsz⟩ : ∃ sz, sz = decide (z < 0) := ⟨_, rfl⟩
 have hszx : sz = (sx && decide (z.natAbs ≠ 0)) := by
  rw [hsz, hzW, hz]
  clear hW
  cases sx
  ·rw [if_neg (by decide), Bool.false_and]; exact decide_eq_false (by omega)
  ·rw [if_pos rfl, Bool.true_and]; exact decide_eq_decide.2 (by omega)
 obtain ⟨pn, hpn⟩ : ∃ pn, pn = intsL (dg n) := ⟨_, rfl⟩
 obtain ⟨pd, hpd⟩ : ∃ pd, pd = intsL (dg d) := ⟨_, rfl⟩
 obtain ⟨pq, hpq⟩ : ∃ pq, pq = intsL (dg (n / d)) := ⟨_, rfl⟩
 obtain ⟨pr, hpr⟩ : ∃ pr, pr = intsL (dg (n % d)) := ⟨_, rfl⟩
 obtain ⟨p2, hp2⟩ : ∃ p2, p2 = intsL (dg (n / d * 2 ^ (1 : Int).toNat)) := ⟨_, rfl⟩
 obtain ⟨pz, hpz⟩ : ∃ pz, pz = intsL (dg z.natAbs) := ⟨_, rfl⟩
 have hln : (dg n).length ≤ 200000 := by have := len_up M k.toNat; rw [← hn] at this; omega
 have hld : (dg d).length ≤ 200000 := by have := len_up N (-k).toNat; rw [← hdd] at this; omega
 have hlq : (dg (n / d)).length ≤ 200000 := Nat.le_trans (dg_len_le (dg n).length _ (Nat.lt_of_le_of_lt (Nat.div_le_self _ _) (lt_pow_of rfl))) hln
 have hlr : (dg (n % d)).length ≤ 200000 := Nat.le_trans (dg_len_le (dg n).length _ (Nat.lt_of_le_of_lt (Nat.mod_le _ _) (lt_pow_of rfl))) hln
 have hlq2 : (dg (n / d * 2 ^ (1 : Int).toNat)).length ≤ 200001 := by have := len_up (n / d) (1 : Int).toNat; have h1 : (1 : Int).toNat = 1 := rfl; omega
 have hlz : (dg z.natAbs).length ≤ 200002 := by
  rw [hzW]
  refine Nat.le_trans (dg_len_le ((dg (n / d * 2 ^ (1 : Int).toNat)).length + 1) _ ?_) (by omega)
  have h7 := lt_pow_of (X := n / d * 2 ^ (1 : Int).toNat) rfl
  have h8 : n / d * 2 ^ (1 : Int).toNat = n / d * 2 := rfl
  rw [h8] at h7 ⊢
  rw [Nat.pow_succ, hW]
  split <;> omega
 obtain ⟨p1, hp1⟩ : ∃ p1, p1 = intsL (dg 1) := ⟨_, rfl⟩
 have hshlN : 0 ≤ k → ∀ (P' : Program) (C' : Cx P' gl), FS P' gl 208 [.agg [.lst p], I k] (· = .agg [.lst pn]) := fun h P' C' => l2shl_fs C' (n := M) hp h (by omega) (by omega) (by rw [hpn, hn])
 obtain ⟨kn, hkn⟩ : ∃ kn, kn = -k := ⟨_, rfl⟩
 have hshlD : k < 0 → ∀ (P' : Program) (C' : Cx P' gl), FS P' gl 208 [.agg [.lst q], I kn] (· = .agg [.lst pd]) := fun h P' C' => l2shl_fs C' (n := N) hq (by omega) (by omega) (by omega) (by rw [hpd, hdd, hkn])
 have hpeq : k < 0 → pn = p := fun h => by rw [hpn, hn, hp, show k.toNat = 0 by omega, Nat.pow_zero, Nat.mul_one]
 have hqeq : 0 ≤ k → pd = q := fun h => by rw [hpd, hdd, hq, show (-k).toNat = 0 by omega, Nat.pow_zero, Nat.mul_one]
 have hdiv := fun (P' : Program) (C' : Cx P' gl) => l2div_fs C' (X := n) (Y := d) hpn hpd hd0 hpq hpr (by omega) (by omega)
 have hshl1 := fun (P' : Program) (C' : Cx P' gl) => l2shl_fs C' (n := n / d) (k := 1) hpq (by decide) (by decide) (by omega) hp2
 have hof := fun (P' : Program) (C' : Cx P' gl) => l2of_fs C' (k := 1) (n := 1) rfl hp1 (by decide)
 have hadd : n % d ≠ 0 → ∀ (P' : Program) (C' : Cx P' gl), FS P' gl 202 [.agg [.lst p2], .agg [.lst p1]] (· = .agg [.lst pz]) := fun h P' C' =>
  l2add_fs C' (a := dg (n / d * 2 ^ (1 : Int).toNat)) (b := dg 1) (n := W) hp2 hp1 (valid_dg _) (valid_dg 1) (by rw [val_dg, val_dg, hW, if_neg h, Int.natCast_add, Nat.mul_comm 2]; rfl) (by rw [hpz, hzW]) (by omega) (Nat.le_trans (dg_len 1 (by decide)) (by decide))
 have hp2z : n % d = 0 → p2 = pz := fun h => by rw [hp2, hpz, hzW, hW, if_pos h, Nat.mul_comm 2]; rfl
 have hmk := fun (P' : Program) (C' : Cx P' gl) => l3make_fs C' (n := z.natAbs) (s := sx) (s' := sz) hpz hszx (by omega)
 obtain ⟨l3, hl3⟩ : ∃ l3, l3 = low - 3 := ⟨_, rfl⟩
 rw [← hl3] at hmk'
 have hl4 : d1 ≠ 0 → ∀ (P' : Program) (C' : Cx P' gl), FS P' gl 129 [.agg [B sz, .lst pz], I l3] (· = .agg [B u, .lst r, I g]) := fun h P' C' => l4make_fs C' (z := z) (e := l3) hpz hsz (hmk' h) hr hu hg (by omega) (by omega)
 clear hln hld hlq hlr hlq2 hlz hb1 hb2 hb3 hl1 hl2
 obtain ⟨rb, hrb⟩ : ∃ rb, rb = decide (0 < (dg (n % d)).length) := ⟨_, rfl⟩
 obtain ⟨kb, hkb⟩ : ∃ kb, kb = decide (0 ≤ k) := ⟨_, rfl⟩
 have hrb0 : rb = false → n % d = 0 := fun h => by
  rw [hrb] at h
  rcases Nat.eq_zero_or_pos (n % d) with h' | h'
  ·exact h'
  ·exact absurd (dg_ne_nil h') (of_decide_eq_false h)
 have hrb1 : rb = true → n % d ≠ 0 := fun h h' => by
  rw [hrb] at h
  have := of_decide_eq_true h
  rw [h', dg_zero] at this
  simp at this
 have hkb1 : kb = true → 0 ≤ k := fun h => of_decide_eq_true (by rw [← hkb]; exact h)
 have hkb0 : kb = false → k < 0 := fun h => by have := of_decide_eq_false (p := 0 ≤ k) (by rw [← hkb]; exact h); omega
 have hzb1 : zb = true → d1 = 0 := fun h => hM0.1 (of_decide_eq_true (by rw [← hzb]; exact h))
 have hzb0 : zb = false → d1 ≠ 0 := fun h h' => absurd (hM0.2 h') (of_decide_eq_false (by rw [← hzb]; exact h))
 exact l4quot_walk C B1 B2 B3 hk hkn hl3 hsx (by rw [hp, ints_len, dg_len0, hzb, decide_eq_true_eq]) hkb (by rw [hpr, ints_len, hrb, decide_eq_true_eq]) (fun h => hzero (hzb1 h))
  (fun h => hshlN (hkb1 h)) (fun h => hshlD (hkb0 h)) (fun h => hpeq (hkb0 h)) (fun h => hqeq (hkb1 h)) hdiv hshl1 hof (fun h => hadd (hrb1 h)) (fun h => hp2z (hrb0 h)) hmk (fun h => hl4 (hzb0 h))

end Tryz
end Go.Proofs

