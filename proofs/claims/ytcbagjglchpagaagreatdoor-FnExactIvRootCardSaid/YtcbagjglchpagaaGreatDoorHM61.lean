/- Contracts: roots rounded, in the program. -/
import Derived.Test.YtcbagjglchpagaaGreatDoorHD6
import Derived.Test.YtcbagjglchpagaaGreatDoorHN30
import Derived.Test.YtcbagjglchpagaaGreatDoorHN3
import Derived.Test.YtcbagjglchpagaaGreatDoorHPeRu
namespace Go.Proofs
open Go Go.Pe Go.Dg
namespace Tryz
set_option linter.unusedSimpArgs false
set_option linter.unusedVariables false
variable {P : Program} {gl : List (Nat × Obj)}

theorem bl_len (a : Nat) : bl a ≤ 16 * (dg a).length := by
  refine (bl_le _ _).2 ?_
  have := dg_lt_pow a
  rwa [show (65536 : Nat) = 2 ^ 16 from rfl, ← Nat.pow_mul] at this

/-- a step of Newton's: what is called -/
theorem rootStep_ex (gl : List (Nat × Obj)) {a r X X0 : Nat} {p q u : List PV} (hp : p = intsL (dg a)) (hrt : isRt a r) (hq : q = intsL (dg r)) (ha : 0 < a) (hl : (dg a).length ≤ 300000) (hl0 : (dg X0).length ≤ 400000)
    (hu : u = intsL (dg X)) (hX : 0 < X) (hX2 : a < (X + 1) * (X + 1)) (hX0 : X ≤ X0) : ∃ (Y : Nat) (c : Int) (r1 r2 v y : List PV), (∀ P', Cx P' gl → FS P' gl 203 [.lst p, .lst u] (· = .tup [.lst r1, .lst r2])) ∧
      (∀ P', Cx P' gl → FS P' gl 173 [.lst u, .lst r1] (· = .lst v)) ∧ (∀ P', Cx P' gl → FS P' gl 169 [.lst v, I 1] (· = .lst y)) ∧ (∀ P', Cx P' gl → FS P' gl 171 [.lst y, .lst u] (· = I c)) ∧
      (0 ≤ c → u = q) ∧ (c < 0 → y = intsL (dg Y) ∧ 0 < Y ∧ a < (Y + 1) * (Y + 1) ∧ Y ≤ X0 ∧ Y < X) := by
  have hXl := dg_len_mono hX0
  have hQ : a / X ≤ a := Nat.div_le_self _ _
  have hQl := dg_len_mono hQ
  obtain ⟨S, hS⟩ : ∃ S, S = X + a / X := ⟨_, rfl⟩
  have hSl : (dg S).length ≤ 400001 := by
    have := Go.Pe.dg_len_add (x := (X : Int)) (y := ((a / X : Nat) : Int)) (K := 400000) (by rw [Int.natAbs_natCast]; omega) (by rw [Int.natAbs_natCast]; omega)
    rw [← Int.natCast_add, Int.natAbs_natCast, ← hS] at this
    exact this
  have hYl := dg_len_mono (Nat.div_le_self S 2)
  refine ⟨S / 2, cmpN (S / 2) X, intsL (dg (a / X)), intsL (dg (a % X)), intsL (dg S), intsL (dg (S / 2)), fun P' C' => divide_fs C' hp hu hX rfl rfl (by omega) (by omega),
    fun P' C' => plus_fs C' (a := dg X) (b := dg (a / X)) (n := S) hu rfl (valid_dg _) (valid_dg _) (by rw [val_dg, val_dg, hS]; rfl) rfl (by omega) (by omega),
    fun P' C' => down_fs C' (a := dg S) (n := S) (k := 1) rfl (valid_dg _) (val_dg _) rfl rfl (by decide) (by decide) (by omega),
    fun P' C' => compare_fs C' rfl hu rfl (by omega), fun hc => ?_, fun hc => ?_⟩
  · have hge : X ≤ S / 2 := by
      apply Nat.le_of_not_lt
      intro h
      rw [cmpN_lt h] at hc
      exact absurd hc (by decide)
    have := newton_stop hX2 (by rw [← hS]; exact hge)
    rw [hu, hq, isRt_unique this hrt]
  · have hlt : S / 2 < X := by
      apply Nat.lt_of_not_le
      intro h
      rcases Nat.lt_or_eq_of_le h with h | h
      · rw [cmpN_gt h] at hc; exact absurd hc (by decide)
      · rw [cmpN_eq h.symm] at hc; exact absurd hc (by decide)
    have h1 := newton_step (a := a) hX
    have h2 := newton_pos ha hX
    rw [← hS] at h1 h2
    exact ⟨rfl, h2, h1, by omega, hlt⟩

set_option maxHeartbeats 1000000 in
set_option maxRecDepth 100000 in
theorem rootOf_fs (C : Cx P gl) {a r : Nat} {p q : List PV} (hp : p = intsL (dg a)) (hrt : isRt a r) (hq : q = intsL (dg r)) (hl : (dg a).length ≤ 300000) :
    FS P gl 168 [.lst p] (· = .lst q) := by
  by_cases h0 : a = 0
  · have hr0 : r = 0 := isRt_unique hrt (by rw [h0]; exact ⟨Nat.le_refl _, by decide⟩)
    have hp0 : p = [] := by rw [hp, h0, dg_zero]; rfl
    have hq0 : q = [] := by rw [hq, hr0, dg_zero]; rfl
    rw [hp0, hq0]
    clear hp hq hp0 hq0 hrt h0 hr0 hl
    obtain ⟨rfl, hG⟩ := C
    refine FS_ofT (args := fun A => [.lst []]) (R := fun A rr => rr = .lst []) Tryz.hT Tryz.mix Tryz.func168 rfl rfl (Nat.le_of_ble_eq_true rfl) ?_
    generalize hP : Tryz.prog = P
    intro A hA
    have C : Tryz.Cx P gl := ⟨hP.symm, hG⟩
    have hI : intsL = A.ints := by subst hA; rfl
    iterate 2 (all_goals try cbv; all_goals repeat' (first | with_reducible exact True.intro | with_reducible refine And.intro ?_ ?_ | intro _))
    all_goals try exact oH
    iterate 2 (all_goals try cbv; all_goals repeat' (first | with_reducible exact True.intro | with_reducible refine And.intro ?_ ?_ | intro _))
    all_goals try exact oH
  · have ha : 0 < a := by omega
    obtain ⟨b, hb⟩ : ∃ b : Int, b = (bl a : Nat) := ⟨_, rfl⟩
    obtain ⟨h, hh⟩ : ∃ h : Int, h = (((bl a + 1) / 2 : Nat) : Int) := ⟨_, rfl⟩
    obtain ⟨X0, hX0⟩ : ∃ X0, X0 = 2 ^ ((bl a + 1) / 2) := ⟨_, rfl⟩
    obtain ⟨p1, hp1⟩ : ∃ p1, p1 = intsL (dg 1) := ⟨_, rfl⟩
    obtain ⟨x0, hx0⟩ : ∃ x0, x0 = intsL (dg X0) := ⟨_, rfl⟩
    have hbl := bl_len a
    have hl0 : (dg X0).length ≤ 400000 := by
      have := len_up 1 ((bl a + 1) / 2)
      rw [Nat.one_mul, ← hX0] at this
      have h1 : (dg 1).length ≤ 100 := dg_len 1 (by decide)
      omega
    have hbits := fun (P' : Program) (C' : Cx P' gl) => bitsOf_fs C' hp hb (by omega)
    have hsm := fun (P' : Program) (C' : Cx P' gl) => small_fs C' (k := 1) (n := 1) rfl hp1 (by decide)
    have hup := fun (P' : Program) (C' : Cx P' gl) => up_fs C' (a := dg 1) (k := h) (k' := h) (n := X0) (r := x0) hp1 (valid_dg 1) rfl (by rw [val_dg, hh, Int.toNat_natCast, hX0]; simp) hx0 (by omega) (by omega) (Nat.le_trans (dg_len 1 (by decide)) (by decide))
    have hpl : p.length ≠ 0 := by rw [hp, ints_len]; have := dg_ne_nil ha; omega
    have hX1 : 0 < X0 := by rw [hX0]; exact Nat.two_pow_pos _
    have hX2 : a < (X0 + 1) * (X0 + 1) := by rw [hX0]; exact newton_start a
    have hstep := fun (X : Nat) (u : List PV) (hu : u = intsL (dg X)) (g1 : 0 < X) (g2 : a < (X + 1) * (X + 1)) (g3 : X ≤ X0) => rootStep_ex gl hp hrt hq ha hl hl0 hu g1 g2 g3
    have hb4 : ∀ _ : Unit, b + 1 = 2 * h ∨ b + 1 = 2 * h + 1 := fun _ => by omega
    have hb5 : 0 ≤ b ∧ b ≤ 10000000 := by omega
    clear hp hrt hq hl hp1 hX0 hl0 hh hb hbl
    obtain ⟨rfl, hG⟩ := C
    refine FS_ofT (args := fun A => [.lst p]) (R := fun A rr => rr = .lst q) Tryz.hT Tryz.mix Tryz.func168 rfl rfl (Nat.le_of_ble_eq_true rfl) ?_
    generalize hP : Tryz.prog = P
    intro A hA
    have C : Tryz.Cx P gl := ⟨hP.symm, hG⟩
    have hI : intsL = A.ints := by subst hA; rfl
    have hhalf : A.quo .i64 (A.add .i64 b 1) 2 = h := by
      have := hb4 ()
      subst hA
      show IntKind.i64.wrap ((IntKind.i64.wrap (b + 1)).tdiv 2) = h
      rw [wrapi (n := b + 1) (by omega) (by omega), Int.tdiv_eq_ediv_of_nonneg (by omega), wrapi (by omega) (by omega)]
      omega
    have hlen : A.eq (A.cast (A.len p)) 0 = false := by
      subst hA
      show ((((p.length : Nat) : Int) == 0) = false)
      rw [beq_eq_false_iff_ne]; omega
    clear hb4
    iterate 2 (all_goals try cbv; all_goals repeat' (first | with_reducible exact True.intro | with_reducible refine And.intro ?_ ?_ | intro _))
    all_goals try exact oH
    all_goals try simp only [hlen]
    iterate 2 (all_goals try cbv; all_goals repeat' (first | with_reducible exact True.intro | with_reducible refine And.intro ?_ ?_ | intro _))
    all_goals try exact oH
    refine callS hA rfl (hsm P C) ?_; rintro _ rfl
    iterate 2 (all_goals try cbv; all_goals repeat' (first | with_reducible exact True.intro | with_reducible refine And.intro ?_ ?_ | intro _))
    all_goals try exact oH
    refine callS hA rfl (hbits P C) ?_; rintro _ rfl
    iterate 2 (all_goals try cbv; all_goals repeat' (first | with_reducible exact True.intro | with_reducible refine And.intro ?_ ?_ | intro _))
    all_goals try exact oH
    simp only [hhalf]
    refine callS hA rfl (hup P C) ?_; rintro _ rfl
    iterate 2 (all_goals try cbv; all_goals repeat' (first | with_reducible exact True.intro | with_reducible refine And.intro ?_ ?_ | intro _))
    all_goals try exact oH
    refine loopI hA [] (ι := Nat × List PV) (fun x => [(3, .pv (.lst x.2))]) (fun x => []) (fun x => x.1) (fun x => x.2 = intsL (dg x.1) ∧ 0 < x.1 ∧ a < (x.1 + 1) * (x.1 + 1) ∧ x.1 ≤ X0) (X0, x0) (by rfl) ?_ ?_ ?_
    all_goals try exact tH
    · exact ⟨hx0, hX1, hX2, Nat.le_refl _⟩
    rintro ⟨X, u⟩ ⟨hu, g1, g2, g3⟩
    simp only at hu g1 g2 g3
    obtain ⟨Y, c, r1, r2, v, w, s1, s2, s3, s4, s5, s6⟩ := hstep X u hu g1 g2 g3
    clear hstep hu g1 g2 g3 hX1 hX2 hx0
    iterate 2 (all_goals try cbv; all_goals repeat' (first | with_reducible exact True.intro | with_reducible refine And.intro ?_ ?_ | intro _))
    all_goals try exact oH
    refine callS hA rfl (s1 P C) ?_; rintro _ rfl
    iterate 2 (all_goals try cbv; all_goals repeat' (first | with_reducible exact True.intro | with_reducible refine And.intro ?_ ?_ | intro _))
    all_goals try exact oH
    first | (refine callS hA rfl (s2 P C) ?_; rintro _ rfl) | refine ⟨_, s2 P C, ?_⟩
    iterate 2 (all_goals try cbv; all_goals repeat' (first | with_reducible exact True.intro | with_reducible refine And.intro ?_ ?_ | intro _))
    all_goals try exact oH
    refine callS hA rfl (s3 P C) ?_; rintro _ rfl
    iterate 2 (all_goals try cbv; all_goals repeat' (first | with_reducible exact True.intro | with_reducible refine And.intro ?_ ?_ | intro _))
    all_goals try exact oH
    refine callS hA rfl (s4 P C) ?_; rintro _ rfl
    iterate 2 (all_goals try cbv; all_goals repeat' (first | with_reducible exact True.intro | with_reducible refine And.intro ?_ ?_ | intro _))
    all_goals try exact oH
    · rename_i g
      have hc : 0 ≤ c := by clear s5 s6; (subst hA; subst_vars; simp only [AR.std, natCast_eq, sH, reduceCtorEq] at *; try simp (disch := omega) only [AR.std, natCast_eq, sH, reduceCtorEq] at *); omega
      rw [s5 hc]
    · rename_i g
      have hc : c < 0 := by clear s5 s6; (subst hA; subst_vars; simp only [AR.std, natCast_eq, sH, reduceCtorEq] at *; try simp (disch := omega) only [AR.std, natCast_eq, sH, reduceCtorEq] at *); omega
      obtain ⟨t1, t2, t3, t4, t5⟩ := s6 hc
      clear s5 s6
      obtain ⟨y1, hy1⟩ : ∃ y, y = Y := ⟨_, rfl⟩
      obtain ⟨y2, hy2⟩ : ∃ y, y = w := ⟨_, rfl⟩
      refine ⟨⟨(y1, y2), ?_⟩, ?_, ?_⟩
      rotate_left
      · cbv
        exact nH
      · exact Nat.lt_of_le_of_lt (Nat.le_of_eq hy1) t5
      · rw [hy1, hy2]; exact ⟨t1, t2, t3, t4⟩

end Tryz
end Go.Proofs

namespace Go.Proofs
open Go Go.Pe Go.Dg
namespace Tryz
set_option linter.unusedSimpArgs false
set_option linter.unusedVariables false
variable {P : Program} {gl : List (Nat × Obj)}

set_option maxHeartbeats 2000000 in
set_option maxRecDepth 100000 in
theorem roundRoot_fs (C : Cx P gl) {a n r t : Nat} {E m : Int} {ex : Bool} {p q : List PV} (hp : p = intsL (dg a)) (hl : (dg a).length ≤ 1000) (hE : E.natAbs ≤ 100000) (hn : n = a * 2 ^ E.toNat) (hr : r = rtN (n / 2 ^ (-E).toNat))
    (ht : t = rrt n (-E).toNat r m) (hq : q = intsL (dg t)) (hex : ex = decide (r * r * 2 ^ (-E).toNat = n)) :
    FS P gl 107 [.lst p, I E, I m] (· = .tup [.lst q, B ex]) := by
  obtain ⟨k1, hk1⟩ : ∃ k1 : Int, k1 = E.toNat := ⟨_, rfl⟩
  obtain ⟨k2, hk2⟩ : ∃ k2 : Int, k2 = (-E).toNat := ⟨_, rfl⟩
  have ek1 : k1.toNat = E.toNat := by omega
  have ek2 : k2.toNat = (-E).toNat := by omega
  obtain ⟨s, hs⟩ : ∃ s, s = (-E).toNat := ⟨_, rfl⟩
  rw [← hs] at hr ht hex ek2
  have hnl : (dg n).length ≤ 10000 := by have := len_up a E.toNat; rw [← hn] at this; omega
  obtain ⟨N, hN⟩ : ∃ N, N = n / 2 ^ s := ⟨_, rfl⟩
  rw [← hN] at hr
  have hNl := dg_len_mono (show N ≤ n by rw [hN]; exact Nat.div_le_self _ _)
  have hrl := dg_len_mono (show r ≤ N by rw [hr]; exact rtN_le _)
  have hrt : isRt N r := by rw [hr]; exact rtN_spec _
  have mulL : ∀ x y : Nat, (dg x).length ≤ 11000 → (dg y).length ≤ 11000 → (dg (x * y)).length ≤ 22000 := fun x y h1 h2 => by have := dg_len_mul (K := 11000) (J := 11000) h1 h2; omega
  have upL : ∀ x k : Nat, (dg x).length ≤ 22000 → k ≤ 100000 → (dg (x * 2 ^ k)).length ≤ 30000 := fun x k h1 h2 => by have := len_up x k; omega
  obtain ⟨pn, hpn⟩ : ∃ x, x = intsL (dg n) := ⟨_, rfl⟩
  obtain ⟨pN, hpN⟩ : ∃ x, x = intsL (dg N) := ⟨_, rfl⟩
  obtain ⟨pr, hpr⟩ : ∃ x, x = intsL (dg r) := ⟨_, rfl⟩
  obtain ⟨rr, hrr⟩ : ∃ x, x = r * r := ⟨_, rfl⟩
  obtain ⟨prr, hprr⟩ : ∃ x, x = intsL (dg rr) := ⟨_, rfl⟩
  obtain ⟨ru, hru⟩ : ∃ x, x = rr * 2 ^ s := ⟨_, rfl⟩
  obtain ⟨pru, hpru⟩ : ∃ x, x = intsL (dg ru) := ⟨_, rfl⟩
  obtain ⟨c1, hc1⟩ : ∃ c, c = cmpN ru n := ⟨_, rfl⟩
  obtain ⟨r2, hr2⟩ : ∃ x, x = r * 2 := ⟨_, rfl⟩
  obtain ⟨pr2, hpr2⟩ : ∃ x, x = intsL (dg r2) := ⟨_, rfl⟩
  obtain ⟨p1, hp1⟩ : ∃ x, x = intsL (dg 1) := ⟨_, rfl⟩
  obtain ⟨tw, htw⟩ : ∃ x, x = r2 + 1 := ⟨_, rfl⟩
  obtain ⟨ptw, hptw⟩ : ∃ x, x = intsL (dg tw) := ⟨_, rfl⟩
  obtain ⟨n4, hn4⟩ : ∃ x, x = n * 4 := ⟨_, rfl⟩
  obtain ⟨pn4, hpn4⟩ : ∃ x, x = intsL (dg n4) := ⟨_, rfl⟩
  obtain ⟨tt, htt⟩ : ∃ x, x = tw * tw := ⟨_, rfl⟩
  obtain ⟨ptt, hptt⟩ : ∃ x, x = intsL (dg tt) := ⟨_, rfl⟩
  obtain ⟨tu, htu⟩ : ∃ x, x = tt * 2 ^ s := ⟨_, rfl⟩
  obtain ⟨ptu, hptu⟩ : ∃ x, x = intsL (dg tu) := ⟨_, rfl⟩
  obtain ⟨c2, hc2⟩ : ∃ c, c = cmpN n4 tu := ⟨_, rfl⟩
  obtain ⟨bt, hbt⟩ : ∃ bt : Int, bt = ((r / 2 ^ (0 : Int).toNat % 2 : Nat) : Int) := ⟨_, rfl⟩
  obtain ⟨od, hod⟩ : ∃ od, od = decide (r % 2 = 1) := ⟨_, rfl⟩
  obtain ⟨ub, hub⟩ : ∃ ub, ub = rup false od c2 m := ⟨_, rfl⟩
  obtain ⟨pr1, hpr1⟩ : ∃ x, x = intsL (dg (r + 1)) := ⟨_, rfl⟩
  have l1 : (dg 1).length ≤ 100 := dg_len 1 (by decide)
  have lrr := mulL r r (by omega) (by omega)
  rw [← hrr] at lrr
  have lru := upL rr s (by omega) (by omega)
  rw [← hru] at lru
  have lr2 := len_up r 1
  rw [Nat.pow_one, ← hr2] at lr2
  have ltw : (dg tw).length ≤ 10010 := by
    have := Go.Pe.dg_len_add (x := (r2 : Int)) (y := 1) (K := 10005) (by rw [Int.natAbs_natCast]; omega) (by show (dg 1).length ≤ _; omega)
    rw [show ((r2 : Int) + 1).natAbs = tw by omega] at this
    omega
  have ln4 := len_up n 2
  rw [show (2 : Nat) ^ 2 = 4 from rfl, ← hn4] at ln4
  have ltt := mulL tw tw (by omega) (by omega)
  rw [← htt] at ltt
  have ltu := upL tt s (by omega) (by omega)
  rw [← htu] at ltu
  have u1 := fun (P' : Program) (C' : Cx P' gl) => up_fs C' (a := dg a) (k := k1) (n := n) (r := pn) hp (valid_dg _) rfl (by rw [val_dg, ek1, hn, Int.natCast_mul, Int.natCast_pow]; rfl) hpn (by omega) (by omega) (by omega)
  have u2 := fun (P' : Program) (C' : Cx P' gl) => down_fs C' (a := dg n) (n := n) (k := k2) (r := pN) hpn (valid_dg _) (val_dg _) rfl (by rw [hpN, hN, ek2]) (by omega) (by omega) (by omega)
  have u3 := fun (P' : Program) (C' : Cx P' gl) => rootOf_fs C' hpN hrt hpr (by omega)
  have u4 := fun (P' : Program) (C' : Cx P' gl) => times_fs C' (a := dg r) (b := dg r) (n := rr) hpr hpr (valid_dg _) (valid_dg _) (by rw [val_dg, hrr, Int.natCast_mul]) hprr (by omega)
  have u5 := fun (P' : Program) (C' : Cx P' gl) => up_fs C' (a := dg rr) (k := k2) (n := ru) (r := pru) hprr (valid_dg _) rfl (by rw [val_dg, ek2, hru, Int.natCast_mul, Int.natCast_pow]; rfl) hpru (by omega) (by omega) (by omega)
  have u6 := fun (P' : Program) (C' : Cx P' gl) => compare_fs C' hpru hpn hc1 (by omega)
  have u7 := fun (P' : Program) (C' : Cx P' gl) => up_fs C' (a := dg r) (k := 1) (n := r2) (r := pr2) hpr (valid_dg _) rfl (by rw [val_dg, hr2, Int.natCast_mul]; rfl) hpr2 (by decide) (by decide) (by omega)
  have u8 := fun (P' : Program) (C' : Cx P' gl) => small_fs C' (k := 1) (n := 1) rfl hp1 (by decide)
  have u9 := fun (P' : Program) (C' : Cx P' gl) => plus_fs C' (a := dg r2) (b := dg 1) (n := tw) hpr2 hp1 (valid_dg _) (valid_dg _) (by rw [val_dg, val_dg, htw]; rfl) hptw (by omega) (by omega)
  have u10 := fun (P' : Program) (C' : Cx P' gl) => bitOf_fs C' (n := r) (b := bt) hpr (by decide) (by decide) hbt
  have u11 := fun (P' : Program) (C' : Cx P' gl) => up_fs C' (a := dg n) (k := 2) (n := n4) (r := pn4) hpn (valid_dg _) rfl (by rw [val_dg, hn4, Int.natCast_mul]; rfl) hpn4 (by decide) (by decide) (by omega)
  have u12 := fun (P' : Program) (C' : Cx P' gl) => times_fs C' (a := dg tw) (b := dg tw) (n := tt) hptw hptw (valid_dg _) (valid_dg _) (by rw [val_dg, htt, Int.natCast_mul]) hptt (by omega)
  have u13 := fun (P' : Program) (C' : Cx P' gl) => up_fs C' (a := dg tt) (k := k2) (n := tu) (r := ptu) hptt (valid_dg _) rfl (by rw [val_dg, ek2, htu, Int.natCast_mul, Int.natCast_pow]; rfl) hptu (by omega) (by omega) (by omega)
  have u14 := fun (P' : Program) (C' : Cx P' gl) => compare_fs C' hpn4 hptu hc2 (by omega)
  have u15 := fun (P' : Program) (C' : Cx P' gl) => roundUp_fs C' (s := false) (o := od) (h := c2) (m := m) hub
  have u16 := fun (P' : Program) (C' : Cx P' gl) => plus_fs C' (a := dg r) (b := dg 1) (n := r + 1) hpr hp1 (valid_dg _) (valid_dg _) (by rw [val_dg, val_dg]; rfl) hpr1 (by omega) (by omega)
  have hres : (c1 = 0 → q = pr ∧ ex = true) ∧ (c1 ≠ 0 → ex = false ∧ (ub = true → q = pr1) ∧ (ub = false → q = pr)) := by
    have hiff : c1 = 0 ↔ r * r * 2 ^ s = n := by
      rw [hc1, hru, hrr]
      constructor
      · intro h
        rcases Nat.lt_trichotomy (r * r * 2 ^ s) n with g | g | g
        · rw [cmpN_lt g] at h; exact absurd h (by decide)
        · exact g
        · rw [cmpN_gt g] at h; exact absurd h (by decide)
      · exact cmpN_eq
    have hub2 : ub = rup false (decide (r % 2 = 1)) (cmpN (n * 4) ((2 * r + 1) * (2 * r + 1) * 2 ^ s)) m := by
      rw [hub, hod, hc2, hn4, htu, htt, htw, hr2, Nat.mul_comm r 2]
    refine ⟨fun h => ⟨?_, ?_⟩, fun h => ⟨?_, fun h1 => ?_, fun h1 => ?_⟩⟩
    · rw [hq, ht, rrt, if_pos (hiff.1 h), hpr]
    · rw [hex]; exact decide_eq_true (hiff.1 h)
    · rw [hex]; exact decide_eq_false (fun g => h (hiff.2 g))
    · rw [hq, ht, rrt, if_neg (fun g => h (hiff.2 g)), ← hub2, if_pos h1, hpr1]
    · rw [hq, ht, rrt, if_neg (fun g => h (hiff.2 g)), ← hub2, h1, if_neg (by decide), hpr]
  have hbit : ∀ _ : Unit, (bt = 1 ↔ r % 2 = 1) := fun _ => by
    rw [hbt]
    show (((r / 2 ^ 0 % 2 : Nat) : Int) = 1) ↔ _
    rw [Nat.pow_zero, Nat.div_one]
    omega
  have hmx : ∀ _ : Unit, max E 0 = k1 ∧ max (-E) 0 = k2 := fun _ => by omega
  clear hp hq hn hr ht hex hk1 hk2 ek1 ek2 hs hN hrt hpn hpN hpr hrr hprr hru hpru hc1 hr2 hpr2 hp1 htw hptw hn4 hpn4 htt hptt htu hptu hc2 hbt hub hpr1 hNl hrl hnl mulL upL lrr lru lr2 ltw ln4 ltt ltu l1 hl
  obtain ⟨rfl, hG⟩ := C
  refine FS_ofT (args := fun A => [.lst p, I E, I m]) (R := fun A rr => rr = .tup [.lst q, B ex]) Tryz.hT Tryz.mix Tryz.func107 rfl rfl (Nat.le_of_ble_eq_true rfl) ?_
  generalize hP : Tryz.prog = P
  intro A hA
  have C : Tryz.Cx P gl := ⟨hP.symm, hG⟩
  have hI : intsL = A.ints := by subst hA; rfl
  have hod2 : A.eq bt 1 = od := by
    have := hbit ()
    rw [hod]; subst hA
    show (bt == 1) = _
    rw [Bool.eq_iff_iff, beq_iff_eq, decide_eq_true_eq]; exact this
  have hm1 : A.max E 0 = k1 := by
    have := (hmx ()).1
    subst hA; rw [← this]; show (if 0 > E then 0 else E) = _; split <;> omega
  have hm2 : A.max (A.sub .i64 0 E) 0 = k2 := by
    have := (hmx ()).2
    subst hA
    show (if 0 > IntKind.i64.wrap (0 - E) then 0 else IntKind.i64.wrap (0 - E)) = _
    rw [wrapi (by omega) (by omega), ← this]; split <;> omega
  clear hbit hmx hod
  iterate 2 (all_goals try cbv; all_goals repeat' (first | with_reducible exact True.intro | with_reducible refine And.intro ?_ ?_ | intro _))
  all_goals try exact oH
  all_goals try simp only [hm1, hm2]
  first | (refine callS hA rfl (u1 P C) ?_; rintro _ rfl) | refine ⟨_, u1 P C, ?_⟩
  iterate 2 (all_goals try cbv; all_goals repeat' (first | with_reducible exact True.intro | with_reducible refine And.intro ?_ ?_ | intro _))
  all_goals try exact oH
  all_goals try simp only [hm1, hm2, hod2]
  first | (refine callS hA rfl (u2 P C) ?_; rintro _ rfl) | refine ⟨_, u2 P C, ?_⟩
  iterate 2 (all_goals try cbv; all_goals repeat' (first | with_reducible exact True.intro | with_reducible refine And.intro ?_ ?_ | intro _))
  all_goals try exact oH
  all_goals try simp only [hm1, hm2, hod2]
  first | (refine callS hA rfl (u3 P C) ?_; rintro _ rfl) | refine ⟨_, u3 P C, ?_⟩
  iterate 2 (all_goals try cbv; all_goals repeat' (first | with_reducible exact True.intro | with_reducible refine And.intro ?_ ?_ | intro _))
  all_goals try exact oH
  all_goals try simp only [hm1, hm2, hod2]
  first | (refine callS hA rfl (u1 P C) ?_; rintro _ rfl) | refine ⟨_, u1 P C, ?_⟩
  iterate 2 (all_goals try cbv; all_goals repeat' (first | with_reducible exact True.intro | with_reducible refine And.intro ?_ ?_ | intro _))
  all_goals try exact oH
  all_goals try simp only [hm1, hm2, hod2]
  first | (refine callS hA rfl (u4 P C) ?_; rintro _ rfl) | refine ⟨_, u4 P C, ?_⟩
  iterate 2 (all_goals try cbv; all_goals repeat' (first | with_reducible exact True.intro | with_reducible refine And.intro ?_ ?_ | intro _))
  all_goals try exact oH
  all_goals try simp only [hm1, hm2, hod2]
  first | (refine callS hA rfl (u5 P C) ?_; rintro _ rfl) | refine ⟨_, u5 P C, ?_⟩
  iterate 2 (all_goals try cbv; all_goals repeat' (first | with_reducible exact True.intro | with_reducible refine And.intro ?_ ?_ | intro _))
  all_goals try exact oH
  all_goals try simp only [hm1, hm2, hod2]
  first | (refine callS hA rfl (u6 P C) ?_; rintro _ rfl) | refine ⟨_, u6 P C, ?_⟩
  iterate 2 (all_goals try cbv; all_goals repeat' (first | with_reducible exact True.intro | with_reducible refine And.intro ?_ ?_ | intro _))
  all_goals try exact oH
  all_goals try simp only [hm1, hm2, hod2]
  · rename_i g
    obtain ⟨e1, e2⟩ := hres.1 (by clear hres; (subst hA; subst_vars; simp only [AR.std, natCast_eq, sH, reduceCtorEq] at *; try simp (disch := omega) only [AR.std, natCast_eq, sH, reduceCtorEq] at *); omega)
    rw [e1, e2]
  · rename_i g
    obtain ⟨e1, e2, e3⟩ := hres.2 (by clear hres; (subst hA; subst_vars; simp only [AR.std, natCast_eq, sH, reduceCtorEq] at *; try simp (disch := omega) only [AR.std, natCast_eq, sH, reduceCtorEq] at *); omega)
    rw [e1]
    clear hres g
    first | (refine callS hA rfl (u7 P C) ?_; rintro _ rfl) | refine ⟨_, u7 P C, ?_⟩
    iterate 2 (all_goals try cbv; all_goals repeat' (first | with_reducible exact True.intro | with_reducible refine And.intro ?_ ?_ | intro _))
    all_goals try exact oH
    all_goals try simp only [hm1, hm2, hod2]
    first | (refine callS hA rfl (u8 P C) ?_; rintro _ rfl) | refine ⟨_, u8 P C, ?_⟩
    iterate 2 (all_goals try cbv; all_goals repeat' (first | with_reducible exact True.intro | with_reducible refine And.intro ?_ ?_ | intro _))
    all_goals try exact oH
    all_goals try simp only [hm1, hm2, hod2]
    first | (refine callS hA rfl (u9 P C) ?_; rintro _ rfl) | refine ⟨_, u9 P C, ?_⟩
    iterate 2 (all_goals try cbv; all_goals repeat' (first | with_reducible exact True.intro | with_reducible refine And.intro ?_ ?_ | intro _))
    all_goals try exact oH
    all_goals try simp only [hm1, hm2, hod2]
    first | (refine callS hA rfl (u10 P C) ?_; rintro _ rfl) | refine ⟨_, u10 P C, ?_⟩
    iterate 2 (all_goals try cbv; all_goals repeat' (first | with_reducible exact True.intro | with_reducible refine And.intro ?_ ?_ | intro _))
    all_goals try exact oH
    all_goals try simp only [hm1, hm2, hod2]
    first | (refine callS hA rfl (u11 P C) ?_; rintro _ rfl) | refine ⟨_, u11 P C, ?_⟩
    iterate 2 (all_goals try cbv; all_goals repeat' (first | with_reducible exact True.intro | with_reducible refine And.intro ?_ ?_ | intro _))
    all_goals try exact oH
    all_goals try simp only [hm1, hm2, hod2]
    first | (refine callS hA rfl (u12 P C) ?_; rintro _ rfl) | refine ⟨_, u12 P C, ?_⟩
    iterate 2 (all_goals try cbv; all_goals repeat' (first | with_reducible exact True.intro | with_reducible refine And.intro ?_ ?_ | intro _))
    all_goals try exact oH
    all_goals try simp only [hm1, hm2, hod2]
    first | (refine callS hA rfl (u13 P C) ?_; rintro _ rfl) | refine ⟨_, u13 P C, ?_⟩
    iterate 2 (all_goals try cbv; all_goals repeat' (first | with_reducible exact True.intro | with_reducible refine And.intro ?_ ?_ | intro _))
    all_goals try exact oH
    all_goals try simp only [hm1, hm2, hod2]
    first | (refine callS hA rfl (u14 P C) ?_; rintro _ rfl) | refine ⟨_, u14 P C, ?_⟩
    iterate 2 (all_goals try cbv; all_goals repeat' (first | with_reducible exact True.intro | with_reducible refine And.intro ?_ ?_ | intro _))
    all_goals try exact oH
    all_goals try simp only [hm1, hm2, hod2]
    first | (refine callS hA rfl (u15 P C) ?_; rintro _ rfl) | refine ⟨_, u15 P C, ?_⟩
    iterate 2 (all_goals try cbv; all_goals repeat' (first | with_reducible exact True.intro | with_reducible refine And.intro ?_ ?_ | intro _))
    all_goals try exact oH
    all_goals try simp only [hm1, hm2, hod2]
    · rename_i g
      have g : ub = true := g
      first | (refine callS hA rfl (u8 P C) ?_; rintro _ rfl) | refine ⟨_, u8 P C, ?_⟩
      iterate 2 (all_goals try cbv; all_goals repeat' (first | with_reducible exact True.intro | with_reducible refine And.intro ?_ ?_ | intro _))
      all_goals try exact oH
      all_goals try simp only [hm1, hm2, hod2]
      first | (refine callS hA rfl (u16 P C) ?_; rintro _ rfl) | refine ⟨_, u16 P C, ?_⟩
      iterate 2 (all_goals try cbv; all_goals repeat' (first | with_reducible exact True.intro | with_reducible refine And.intro ?_ ?_ | intro _))
      all_goals try exact oH
      all_goals try simp only [hm1, hm2, hod2]
      rw [e2 g]
    · rename_i g
      have g : ub = false := g
      rw [e3 g]

set_option maxHeartbeats 1000000 in
set_option maxRecDepth 100000 in
theorem exactRoot_fs (C : Cx P gl) {a n r t : Nat} {e low m : Int} {s ex : Bool} {p q : List PV} (hp : p = intsL (dg a)) (hl : (dg a).length ≤ 1000) (he : e.natAbs ≤ 10000) (hlow : low.natAbs ≤ 10000) (hn : n = a * 2 ^ (e - 2 * low).toNat) (hr : r = rtN (n / 2 ^ (-(e - 2 * low)).toNat))
    (ht : t = rrt n (-(e - 2 * low)).toNat r m) (hq : q = intsL (dg t)) (hex : ex = decide (r * r * 2 ^ (-(e - 2 * low)).toNat = n)) :
    FS P gl 56 [.agg [B s, .lst p, I e], I low, I m] (· = .tup [.agg [B false, .lst q, I low], B ex]) := by
  obtain ⟨E, hE⟩ : ∃ E, E = e - 2 * low := ⟨_, rfl⟩
  rw [← hE] at hn hr ht hex
  have hrr := fun (P' : Program) (C' : Cx P' gl) => roundRoot_fs C' (E := E) (m := m) hp hl (by omega) hn hr ht hq hex
  clear hn hr ht hq hex hp hl
  obtain ⟨rfl, hG⟩ := C
  refine FS_ofT (args := fun A => [.agg [B s, .lst p, I e], I low, I m]) (R := fun A rr => rr = .tup [.agg [B false, .lst q, I low], B ex]) Tryz.hT Tryz.mix Tryz.func56 rfl rfl (Nat.le_of_ble_eq_true rfl) ?_
  generalize hP : Tryz.prog = P
  intro A hA
  have C : Tryz.Cx P gl := ⟨hP.symm, hG⟩
  have hI : intsL = A.ints := by subst hA; rfl
  have h1 : A.mul .i64 2 low = 2 * low := by subst hA; exact wrapi (by omega) (by omega)
  have h2 : A.sub .i64 e (A.mul .i64 2 low) = E := by rw [h1, hE]; subst hA; exact wrapi (by omega) (by omega)
  iterate 2 (all_goals try cbv; all_goals repeat' (first | with_reducible exact True.intro | with_reducible refine And.intro ?_ ?_ | intro _))
  all_goals try exact oH
  all_goals try simp only [h2]
  first | (refine callS hA rfl (hrr P C) ?_; rintro _ rfl) | refine ⟨_, hrr P C, ?_⟩
  iterate 2 (all_goals try cbv; all_goals repeat' (first | with_reducible exact True.intro | with_reducible refine And.intro ?_ ?_ | intro _))
  all_goals try exact oH

/-- the root of a number in canonical form, rounded -/
theorem xRoot {d : Dyadic} {low m : Int} (hn : 0 ≤ cZ d) (hl : (dg (cZ d).natAbs).length ≤ 100) (hE : (cE d).natAbs ≤ 3000) (hb : low.natAbs ≤ 3000) {L E : Nat} (hL : 1000 ≤ L) (hb2 : low.natAbs ≤ E) :
    ∃ (y : Cell3) (ex : Bool), X (rootD d low m) L E y ∧
      ∀ (P : Program) (gl : List (Nat × Obj)) (p r : List PV), Cx P gl → p = intsL (canY d).2.1 → r = intsL y.2.1 → FS P gl 56 [.agg [B (canY d).1, .lst p, I (canY d).2.2], I low, I m] (· = .tup [.agg [B y.1, .lst r, I y.2.2], B ex]) := by
  obtain ⟨n, hn'⟩ : ∃ n, n = (cZ d).natAbs * 2 ^ (cE d - 2 * low).toNat := ⟨_, rfl⟩
  obtain ⟨r, hr⟩ : ∃ r, r = rtN (n / 2 ^ (-(cE d - 2 * low)).toNat) := ⟨_, rfl⟩
  obtain ⟨t, ht⟩ : ∃ t, t = rrt n (-(cE d - 2 * low)).toNat r m := ⟨_, rfl⟩
  have hnl := len_up (cZ d).natAbs (cE d - 2 * low).toNat
  rw [← hn'] at hnl
  have h1 : t ≤ n + 1 := by
    have h2 := rrt_le n (-(cE d - 2 * low)).toNat r m
    have h3 := rtN_le (n / 2 ^ (-(cE d - 2 * low)).toNat)
    have h4 := Nat.div_le_self n (2 ^ (-(cE d - 2 * low)).toNat)
    rw [← ht] at h2
    rw [← hr] at h3
    omega
  have h5 := dg_len_mono h1
  have h6 : (dg (n + 1)).length ≤ 900 := by
    have l1 : (dg 1).length ≤ 100 := dg_len 1 (by decide)
    have := Go.Pe.dg_len_add (x := (n : Int)) (y := 1) (K := 800) (by rw [Int.natAbs_natCast]; omega) (by show (dg 1).length ≤ _; omega)
    rw [show ((n : Int) + 1).natAbs = n + 1 by omega] at this
    omega
  refine ⟨(false, dg t, low), decide (r * r * 2 ^ (-(cE d - 2 * low)).toNat = n), ⟨(t : Int), (decide_eq_false (by omega)).symm, by rw [Int.natAbs_natCast], ?_, by rw [Int.natAbs_natCast]; omega, hb2⟩, ?_⟩
  · rw [rootD, ← hn', ← hr, ← ht]
  · intro P gl p q C hp hq
    exact exactRoot_fs C (n := n) (r := r) (t := t) hp (by omega) (by show (cE d).natAbs ≤ _; omega) (by omega) hn' hr ht hq rfl

end Tryz
end Go.Proofs

