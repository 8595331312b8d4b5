/- Contracts: roots rounded, in the program. -/
import Derived.Test.YtcbagjglchpagaaDoorFM60
namespace Go.Proofs
open Go Go.Pe Go.Dg
namespace Tryd
set_option linter.unusedSimpArgs false
set_option linter.unusedVariables false
variable {P : Program} {gl : List (Nat × Obj)}

set_option maxHeartbeats 2000000 in
set_option maxRecDepth 100000 in
theorem roundRoot_fs (C : Cx P gl) {a n r t : Nat} {E m : Int} {ex : Bool} {p q : List PV} (hp : p = intsL (dg a)) (hl : (dg a).length ≤ 1000) (hE : E.natAbs ≤ 100000) (hn : n = a * 2 ^ E.toNat) (hr : r = rtN (n / 2 ^ (-E).toNat))
    (ht : t = rrt n (-E).toNat r m) (hq : q = intsL (dg t)) (hex : ex = decide (r * r * 2 ^ (-E).toNat = n)) :
    FS P gl 89 [.lst p, I E, I m] (· = .tup [.lst q, B ex]) := by
  obtain ⟨k1, hk1⟩ : ∃ k1 : Int, k1 = E.toNat := ⟨_, rfl⟩
  obtain ⟨k2, hk2⟩ : ∃ k2 : Int, k2 = (-E).toNat := ⟨_, rfl⟩
  have ek1 : k1.toNat = E.toNat := by omega
  have ek2 : k2.toNat = (-E).toNat := by omega
  obtain ⟨s, hs⟩ : ∃ s, s = (-E).toNat := ⟨_, rfl⟩
  rw [← hs] at hr ht hex ek2
  have hnl : (dg n).length ≤ 10000 := by have := len_up a E.toNat; rw [← hn] at this; omega
  obtain ⟨N, hN⟩ : ∃ N, N = n / 2 ^ s := ⟨_, rfl⟩
  rw [← hN] at hr
  have hNl := dg_len_mono (show N ≤ n by rw [hN]; exact Nat.div_le_self _ _)
  have hrl := dg_len_mono (show r ≤ N by rw [hr]; exact rtN_le _)
  have hrt : isRt N r := by rw [hr]; exact rtN_spec _
  have mulL : ∀ x y : Nat, (dg x).length ≤ 11000 → (dg y).length ≤ 11000 → (dg (x * y)).length ≤ 22000 := fun x y h1 h2 => by have := dg_len_mul (K := 11000) (J := 11000) h1 h2; omega
  have upL : ∀ x k : Nat, (dg x).length ≤ 22000 → k ≤ 100000 → (dg (x * 2 ^ k)).length ≤ 30000 := fun x k h1 h2 => by have := len_up x k; omega
  obtain ⟨pn, hpn⟩ : ∃ x, x = intsL (dg n) := ⟨_, rfl⟩
  obtain ⟨pN, hpN⟩ : ∃ x, x = intsL (dg N) := ⟨_, rfl⟩
  obtain ⟨pr, hpr⟩ : ∃ x, x = intsL (dg r) := ⟨_, rfl⟩
  obtain ⟨rr, hrr⟩ : ∃ x, x = r * r := ⟨_, rfl⟩
  obtain ⟨prr, hprr⟩ : ∃ x, x = intsL (dg rr) := ⟨_, rfl⟩
  obtain ⟨ru, hru⟩ : ∃ x, x = rr * 2 ^ s := ⟨_, rfl⟩
  obtain ⟨pru, hpru⟩ : ∃ x, x = intsL (dg ru) := ⟨_, rfl⟩
  obtain ⟨c1, hc1⟩ : ∃ c, c = cmpN ru n := ⟨_, rfl⟩
  obtain ⟨r2, hr2⟩ : ∃ x, x = r * 2 := ⟨_, rfl⟩
  obtain ⟨pr2, hpr2⟩ : ∃ x, x = intsL (dg r2) := ⟨_, rfl⟩
  obtain ⟨p1, hp1⟩ : ∃ x, x = intsL (dg 1) := ⟨_, rfl⟩
  obtain ⟨tw, htw⟩ : ∃ x, x = r2 + 1 := ⟨_, rfl⟩
  obtain ⟨ptw, hptw⟩ : ∃ x, x = intsL (dg tw) := ⟨_, rfl⟩
  obtain ⟨n4, hn4⟩ : ∃ x, x = n * 4 := ⟨_, rfl⟩
  obtain ⟨pn4, hpn4⟩ : ∃ x, x = intsL (dg n4) := ⟨_, rfl⟩
  obtain ⟨tt, htt⟩ : ∃ x, x = tw * tw := ⟨_, rfl⟩
  obtain ⟨ptt, hptt⟩ : ∃ x, x = intsL (dg tt) := ⟨_, rfl⟩
  obtain ⟨tu, htu⟩ : ∃ x, x = tt * 2 ^ s := ⟨_, rfl⟩
  obtain ⟨ptu, hptu⟩ : ∃ x, x = intsL (dg tu) := ⟨_, rfl⟩
  obtain ⟨c2, hc2⟩ : ∃ c, c = cmpN n4 tu := ⟨_, rfl⟩
  obtain ⟨bt, hbt⟩ : ∃ bt : Int, bt = ((r / 2 ^ (0 : Int).toNat % 2 : Nat) : Int) := ⟨_, rfl⟩
  obtain ⟨od, hod⟩ : ∃ od, od = decide (r % 2 = 1) := ⟨_, rfl⟩
  obtain ⟨ub, hub⟩ : ∃ ub, ub = rup false od c2 m := ⟨_, rfl⟩
  obtain ⟨pr1, hpr1⟩ : ∃ x, x = intsL (dg (r + 1)) := ⟨_, rfl⟩
  have l1 : (dg 1).length ≤ 100 := dg_len 1 (by decide)
  have lrr := mulL r r (by omega) (by omega)
  rw [← hrr] at lrr
  have lru := upL rr s (by omega) (by omega)
  rw [← hru] at lru
  have lr2 := len_up r 1
  rw [Nat.pow_one, ← hr2] at lr2
  have ltw : (dg tw).length ≤ 10010 := by
    have := Go.Pe.dg_len_add (x := (r2 : Int)) (y := 1) (K := 10005) (by rw [Int.natAbs_natCast]; omega) (by show (dg 1).length ≤ _; omega)
    rw [show ((r2 : Int) + 1).natAbs = tw by omega] at this
    omega
  have ln4 := len_up n 2
  rw [show (2 : Nat) ^ 2 = 4 from rfl, ← hn4] at ln4
  have ltt := mulL tw tw (by omega) (by omega)
  rw [← htt] at ltt
  have ltu := upL tt s (by omega) (by omega)
  rw [← htu] at ltu
  have u1 := fun (P' : Program) (C' : Cx P' gl) => up_fs C' (a := dg a) (k := k1) (n := n) (r := pn) hp (valid_dg _) rfl (by rw [val_dg, ek1, hn, Int.natCast_mul, Int.natCast_pow]; rfl) hpn (by omega) (by omega) (by omega)
  have u2 := fun (P' : Program) (C' : Cx P' gl) => down_fs C' (a := dg n) (n := n) (k := k2) (r := pN) hpn (valid_dg _) (val_dg _) rfl (by rw [hpN, hN, ek2]) (by omega) (by omega) (by omega)
  have u3 := fun (P' : Program) (C' : Cx P' gl) => rootOf_fs C' hpN hrt hpr (by omega)
  have u4 := fun (P' : Program) (C' : Cx P' gl) => times_fs C' (a := dg r) (b := dg r) (n := rr) hpr hpr (valid_dg _) (valid_dg _) (by rw [val_dg, hrr, Int.natCast_mul]) hprr (by omega)
  have u5 := fun (P' : Program) (C' : Cx P' gl) => up_fs C' (a := dg rr) (k := k2) (n := ru) (r := pru) hprr (valid_dg _) rfl (by rw [val_dg, ek2, hru, Int.natCast_mul, Int.natCast_pow]; rfl) hpru (by omega) (by omega) (by omega)
  have u6 := fun (P' : Program) (C' : Cx P' gl) => compare_fs C' hpru hpn hc1 (by omega)
  have u7 := fun (P' : Program) (C' : Cx P' gl) => up_fs C' (a := dg r) (k := 1) (n := r2) (r := pr2) hpr (valid_dg _) rfl (by rw [val_dg, hr2, Int.natCast_mul]; rfl) hpr2 (by decide) (by decide) (by omega)
  have u8 := fun (P' : Program) (C' : Cx P' gl) => small_fs C' (k := 1) (n := 1) rfl hp1 (by decide)
  have u9 := fun (P' : Program) (C' : Cx P' gl) => plus_fs C' (a := dg r2) (b := dg 1) (n := tw) hpr2 hp1 (valid_dg _) (valid_dg _) (by rw [val_dg, val_dg, htw]; rfl) hptw (by omega) (by omega)
  have u10 := fun (P' : Program) (C' : Cx P' gl) => bitOf_fs C' (n := r) (b := bt) hpr (by decide) (by decide) hbt
  have u11 := fun (P' : Program) (C' : Cx P' gl) => up_fs C' (a := dg n) (k := 2) (n := n4) (r := pn4) hpn (valid_dg _) rfl (by rw [val_dg, hn4, Int.natCast_mul]; rfl) hpn4 (by decide) (by decide) (by omega)
  have u12 := fun (P' : Program) (C' : Cx P' gl) => times_fs C' (a := dg tw) (b := dg tw) (n := tt) hptw hptw (valid_dg _) (valid_dg _) (by rw [val_dg, htt, Int.natCast_mul]) hptt (by omega)
  have u13 := fun (P' : Program) (C' : Cx P' gl) => up_fs C' (a := dg tt) (k := k2) (n := tu) (r := ptu) hptt (valid_dg _) rfl (by rw [val_dg, ek2, htu, Int.natCast_mul, Int.natCast_pow]; rfl) hptu (by omega) (by omega) (by omega)
  have u14 := fun (P' : Program) (C' : Cx P' gl) => compare_fs C' hpn4 hptu hc2 (by omega)
  have u15 := fun (P' : Program) (C' : Cx P' gl) => roundUp_fs C' (s := false) (o := od) (h := c2) (m := m) hub
  have u16 := fun (P' : Program) (C' : Cx P' gl) => plus_fs C' (a := dg r) (b := dg 1) (n := r + 1) hpr hp1 (valid_dg _) (valid_dg _) (by rw [val_dg, val_dg]; rfl) hpr1 (by omega) (by omega)
  have hres : (c1 = 0 → q = pr ∧ ex = true) ∧ (c1 ≠ 0 → ex = false ∧ (ub = true → q = pr1) ∧ (ub = false → q = pr)) := by
    have hiff : c1 = 0 ↔ r * r * 2 ^ s = n := by
      rw [hc1, hru, hrr]
      constructor
      · intro h
        rcases Nat.lt_trichotomy (r * r * 2 ^ s) n with g | g | g
        · rw [cmpN_lt g] at h; exact absurd h (by decide)
        · exact g
        · rw [cmpN_gt g] at h; exact absurd h (by decide)
      · exact cmpN_eq
    have hub2 : ub = rup false (decide (r % 2 = 1)) (cmpN (n * 4) ((2 * r + 1) * (2 * r + 1) * 2 ^ s)) m := by
      rw [hub, hod, hc2, hn4, htu, htt, htw, hr2, Nat.mul_comm r 2]
    refine ⟨fun h => ⟨?_, ?_⟩, fun h => ⟨?_, fun h1 => ?_, fun h1 => ?_⟩⟩
    · rw [hq, ht, rrt, if_pos (hiff.1 h), hpr]
    · rw [hex]; exact decide_eq_true (hiff.1 h)
    · rw [hex]; exact decide_eq_false (fun g => h (hiff.2 g))
    · rw [hq, ht, rrt, if_neg (fun g => h (hiff.2 g)), ← hub2, if_pos h1, hpr1]
    · rw [hq, ht, rrt, if_neg (fun g => h (hiff.2 g)), ← hub2, h1, if_neg (by decide), hpr]
  have hbit : ∀ _ : Unit, (bt = 1 ↔ r % 2 = 1) := fun _ => by
    rw [hbt]
    show (((r / 2 ^ 0 % 2 : Nat) : Int) = 1) ↔ _
    rw [Nat.pow_zero, Nat.div_one]
    omega
  have hmx : ∀ _ : Unit, max E 0 = k1 ∧ max (-E) 0 = k2 := fun _ => by omega
  clear hp hq hn hr ht hex hk1 hk2 ek1 ek2 hs hN hrt hpn hpN hpr hrr hprr hru hpru hc1 hr2 hpr2 hp1 htw hptw hn4 hpn4 htt hptt htu hptu hc2 hbt hub hpr1 hNl hrl hnl mulL upL lrr lru lr2 ltw ln4 ltt ltu l1 hl
  obtain ⟨rfl, hG⟩ := C
  refine FS_ofT (args := fun A => [.lst p, I E, I m]) (R := fun A rr => rr = .tup [.lst q, B ex]) Tryd.hT Tryd.mix Tryd.func89 rfl rfl (Nat.le_of_ble_eq_true rfl) ?_
  generalize hP : Tryd.prog = P
  intro A hA
  have C : Tryd.Cx P gl := ⟨hP.symm, hG⟩
  have hI : intsL = A.ints := by subst hA; rfl
  have hod2 : A.eq bt 1 = od := by
    have := hbit ()
    rw [hod]; subst hA
    show (bt == 1) = _
    rw [Bool.eq_iff_iff, beq_iff_eq, decide_eq_true_eq]; exact this
  have hm1 : A.max E 0 = k1 := by
    have := (hmx ()).1
    subst hA; rw [← this]; show (if 0 > E then 0 else E) = _; split <;> omega
  have hm2 : A.max (A.sub .i64 0 E) 0 = k2 := by
    have := (hmx ()).2
    subst hA
    show (if 0 > IntKind.i64.wrap (0 - E) then 0 else IntKind.i64.wrap (0 - E)) = _
    rw [wrapi (by omega) (by omega), ← this]; split <;> omega
  clear hbit hmx hod
  iterate 2 (all_goals try cbv; all_goals repeat' (first | with_reducible exact True.intro | with_reducible refine And.intro ?_ ?_ | intro _))
  all_goals try exact oH
  all_goals try simp only [hm1, hm2]
  first | (refine callS hA rfl (u1 P C) ?_; rintro _ rfl) | refine ⟨_, u1 P C, ?_⟩
  iterate 2 (all_goals try cbv; all_goals repeat' (first | with_reducible exact True.intro | with_reducible refine And.intro ?_ ?_ | intro _))
  all_goals try exact oH
  all_goals try simp only [hm1, hm2, hod2]
  first | (refine callS hA rfl (u2 P C) ?_; rintro _ rfl) | refine ⟨_, u2 P C, ?_⟩
  iterate 2 (all_goals try cbv; all_goals repeat' (first | with_reducible exact True.intro | with_reducible refine And.intro ?_ ?_ | intro _))
  all_goals try exact oH
  all_goals try simp only [hm1, hm2, hod2]
  first | (refine callS hA rfl (u3 P C) ?_; rintro _ rfl) | refine ⟨_, u3 P C, ?_⟩
  iterate 2 (all_goals try cbv; all_goals repeat' (first | with_reducible exact True.intro | with_reducible refine And.intro ?_ ?_ | intro _))
  all_goals try exact oH
  all_goals try simp only [hm1, hm2, hod2]
  first | (refine callS hA rfl (u1 P C) ?_; rintro _ rfl) | refine ⟨_, u1 P C, ?_⟩
  iterate 2 (all_goals try cbv; all_goals repeat' (first | with_reducible exact True.intro | with_reducible refine And.intro ?_ ?_ | intro _))
  all_goals try exact oH
  all_goals try simp only [hm1, hm2, hod2]
  first | (refine callS hA rfl (u4 P C) ?_; rintro _ rfl) | refine ⟨_, u4 P C, ?_⟩
  iterate 2 (all_goals try cbv; all_goals repeat' (first | with_reducible exact True.intro | with_reducible refine And.intro ?_ ?_ | intro _))
  all_goals try exact oH
  all_goals try simp only [hm1, hm2, hod2]
  first | (refine callS hA rfl (u5 P C) ?_; rintro _ rfl) | refine ⟨_, u5 P C, ?_⟩
  iterate 2 (all_goals try cbv; all_goals repeat' (first | with_reducible exact True.intro | with_reducible refine And.intro ?_ ?_ | intro _))
  all_goals try exact oH
  all_goals try simp only [hm1, hm2, hod2]
  first | (refine callS hA rfl (u6 P C) ?_; rintro _ rfl) | refine ⟨_, u6 P C, ?_⟩
  iterate 2 (all_goals try cbv; all_goals repeat' (first | with_reducible exact True.intro | with_reducible refine And.intro ?_ ?_ | intro _))
  all_goals try exact oH
  all_goals try simp only [hm1, hm2, hod2]
  · rename_i g
    obtain ⟨e1, e2⟩ := hres.1 (by clear hres; (subst hA; subst_vars; simp only [AR.std, natCast_eq, sH, reduceCtorEq] at *; try simp (disch := omega) only [AR.std, natCast_eq, sH, reduceCtorEq] at *); omega)
    rw [e1, e2]
  · rename_i g
    obtain ⟨e1, e2, e3⟩ := hres.2 (by clear hres; (subst hA; subst_vars; simp only [AR.std, natCast_eq, sH, reduceCtorEq] at *; try simp (disch := omega) only [AR.std, natCast_eq, sH, reduceCtorEq] at *); omega)
    rw [e1]
    clear hres g
    first | (refine callS hA rfl (u7 P C) ?_; rintro _ rfl) | refine ⟨_, u7 P C, ?_⟩
    iterate 2 (all_goals try cbv; all_goals repeat' (first | with_reducible exact True.intro | with_reducible refine And.intro ?_ ?_ | intro _))
    all_goals try exact oH
    all_goals try simp only [hm1, hm2, hod2]
    first | (refine callS hA rfl (u8 P C) ?_; rintro _ rfl) | refine ⟨_, u8 P C, ?_⟩
    iterate 2 (all_goals try cbv; all_goals repeat' (first | with_reducible exact True.intro | with_reducible refine And.intro ?_ ?_ | intro _))
    all_goals try exact oH
    all_goals try simp only [hm1, hm2, hod2]
    first | (refine callS hA rfl (u9 P C) ?_; rintro _ rfl) | refine ⟨_, u9 P C, ?_⟩
    iterate 2 (all_goals try cbv; all_goals repeat' (first | with_reducible exact True.intro | with_reducible refine And.intro ?_ ?_ | intro _))
    all_goals try exact oH
    all_goals try simp only [hm1, hm2, hod2]
    first | (refine callS hA rfl (u10 P C) ?_; rintro _ rfl) | refine ⟨_, u10 P C, ?_⟩
    iterate 2 (all_goals try cbv; all_goals repeat' (first | with_reducible exact True.intro | with_reducible refine And.intro ?_ ?_ | intro _))
    all_goals try exact oH
    all_goals try simp only [hm1, hm2, hod2]
    first | (refine callS hA rfl (u11 P C) ?_; rintro _ rfl) | refine ⟨_, u11 P C, ?_⟩
    iterate 2 (all_goals try cbv; all_goals repeat' (first | with_reducible exact True.intro | with_reducible refine And.intro ?_ ?_ | intro _))
    all_goals try exact oH
    all_goals try simp only [hm1, hm2, hod2]
    first | (refine callS hA rfl (u12 P C) ?_; rintro _ rfl) | refine ⟨_, u12 P C, ?_⟩
    iterate 2 (all_goals try cbv; all_goals repeat' (first | with_reducible exact True.intro | with_reducible refine And.intro ?_ ?_ | intro _))
    all_goals try exact oH
    all_goals try simp only [hm1, hm2, hod2]
    first | (refine callS hA rfl (u13 P C) ?_; rintro _ rfl) | refine ⟨_, u13 P C, ?_⟩
    iterate 2 (all_goals try cbv; all_goals repeat' (first | with_reducible exact True.intro | with_reducible refine And.intro ?_ ?_ | intro _))
    all_goals try exact oH
    all_goals try simp only [hm1, hm2, hod2]
    first | (refine callS hA rfl (u14 P C) ?_; rintro _ rfl) | refine ⟨_, u14 P C, ?_⟩
    iterate 2 (all_goals try cbv; all_goals repeat' (first | with_reducible exact True.intro | with_reducible refine And.intro ?_ ?_ | intro _))
    all_goals try exact oH
    all_goals try simp only [hm1, hm2, hod2]
    first | (refine callS hA rfl (u15 P C) ?_; rintro _ rfl) | refine ⟨_, u15 P C, ?_⟩
    iterate 2 (all_goals try cbv; all_goals repeat' (first | with_reducible exact True.intro | with_reducible refine And.intro ?_ ?_ | intro _))
    all_goals try exact oH
    all_goals try simp only [hm1, hm2, hod2]
    · rename_i g
      have g : ub = true := g
      first | (refine callS hA rfl (u8 P C) ?_; rintro _ rfl) | refine ⟨_, u8 P C, ?_⟩
      iterate 2 (all_goals try cbv; all_goals repeat' (first | with_reducible exact True.intro | with_reducible refine And.intro ?_ ?_ | intro _))
      all_goals try exact oH
      all_goals try simp only [hm1, hm2, hod2]
      first | (refine callS hA rfl (u16 P C) ?_; rintro _ rfl) | refine ⟨_, u16 P C, ?_⟩
      iterate 2 (all_goals try cbv; all_goals repeat' (first | with_reducible exact True.intro | with_reducible refine And.intro ?_ ?_ | intro _))
      all_goals try exact oH
      all_goals try simp only [hm1, hm2, hod2]
      rw [e2 g]
    · rename_i g
      have g : ub = false := g
      rw [e3 g]

set_option maxHeartbeats 1000000 in
set_option maxRecDepth 100000 in
theorem exactRoot_fs (C : Cx P gl) {a n r t : Nat} {e low m : Int} {s ex : Bool} {p q : List PV} (hp : p = intsL (dg a)) (hl : (dg a).length ≤ 1000) (he : e.natAbs ≤ 10000) (hlow : low.natAbs ≤ 10000) (hn : n = a * 2 ^ (e - 2 * low).toNat) (hr : r = rtN (n / 2 ^ (-(e - 2 * low)).toNat))
    (ht : t = rrt n (-(e - 2 * low)).toNat r m) (hq : q = intsL (dg t)) (hex : ex = decide (r * r * 2 ^ (-(e - 2 * low)).toNat = n)) :
    FS P gl 41 [.agg [B s, .lst p, I e], I low, I m] (· = .tup [.agg [B false, .lst q, I low], B ex]) := by
  obtain ⟨E, hE⟩ : ∃ E, E = e - 2 * low := ⟨_, rfl⟩
  rw [← hE] at hn hr ht hex
  have hrr := fun (P' : Program) (C' : Cx P' gl) => roundRoot_fs C' (E := E) (m := m) hp hl (by omega) hn hr ht hq hex
  clear hn hr ht hq hex hp hl
  obtain ⟨rfl, hG⟩ := C
  refine FS_ofT (args := fun A => [.agg [B s, .lst p, I e], I low, I m]) (R := fun A rr => rr = .tup [.agg [B false, .lst q, I low], B ex]) Tryd.hT Tryd.mix Tryd.func41 rfl rfl (Nat.le_of_ble_eq_true rfl) ?_
  generalize hP : Tryd.prog = P
  intro A hA
  have C : Tryd.Cx P gl := ⟨hP.symm, hG⟩
  have hI : intsL = A.ints := by subst hA; rfl
  have h1 : A.mul .i64 2 low = 2 * low := by subst hA; exact wrapi (by omega) (by omega)
  have h2 : A.sub .i64 e (A.mul .i64 2 low) = E := by rw [h1, hE]; subst hA; exact wrapi (by omega) (by omega)
  iterate 2 (all_goals try cbv; all_goals repeat' (first | with_reducible exact True.intro | with_reducible refine And.intro ?_ ?_ | intro _))
  all_goals try exact oH
  all_goals try simp only [h2]
  first | (refine callS hA rfl (hrr P C) ?_; rintro _ rfl) | refine ⟨_, hrr P C, ?_⟩
  iterate 2 (all_goals try cbv; all_goals repeat' (first | with_reducible exact True.intro | with_reducible refine And.intro ?_ ?_ | intro _))
  all_goals try exact oH

end Tryd
end Go.Proofs
