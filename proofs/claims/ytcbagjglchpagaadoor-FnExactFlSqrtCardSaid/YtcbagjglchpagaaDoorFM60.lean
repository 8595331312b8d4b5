/- Contracts: square roots in the program. -/
import Derived.Test.YtcbagjglchpagaaDoorFD6
import Derived.Test.YtcbagjglchpagaaDoorFN30
import Derived.Test.YtcbagjglchpagaaDoorFN3
import Derived.Test.YtcbagjglchpagaaDoorFPeTq
namespace Go.Proofs
open Go Go.Pe Go.Dg
namespace Tryd
set_option linter.unusedSimpArgs false
set_option linter.unusedVariables false
variable {P : Program} {gl : List (Nat × Obj)}

theorem bl_len (a : Nat) : bl a ≤ 16 * (dg a).length := by
  refine (bl_le _ _).2 ?_
  have := dg_lt_pow a
  rwa [show (65536 : Nat) = 2 ^ 16 from rfl, ← Nat.pow_mul] at this

/-- a step of Newton's: what is called -/
theorem rootStep_ex (gl : List (Nat × Obj)) {a r X X0 : Nat} {p q u : List PV} (hp : p = intsL (dg a)) (hrt : isRt a r) (hq : q = intsL (dg r)) (ha : 0 < a) (hl : (dg a).length ≤ 300000) (hl0 : (dg X0).length ≤ 400000)
    (hu : u = intsL (dg X)) (hX : 0 < X) (hX2 : a < (X + 1) * (X + 1)) (hX0 : X ≤ X0) : ∃ (Y : Nat) (c : Int) (r1 r2 v y : List PV), (∀ P', Cx P' gl → FS P' gl 166 [.lst p, .lst u] (· = .tup [.lst r1, .lst r2])) ∧
      (∀ P', Cx P' gl → FS P' gl 136 [.lst u, .lst r1] (· = .lst v)) ∧ (∀ P', Cx P' gl → FS P' gl 130 [.lst v, I 1] (· = .lst y)) ∧ (∀ P', Cx P' gl → FS P' gl 134 [.lst y, .lst u] (· = I c)) ∧
      (0 ≤ c → u = q) ∧ (c < 0 → y = intsL (dg Y) ∧ 0 < Y ∧ a < (Y + 1) * (Y + 1) ∧ Y ≤ X0 ∧ Y < X) := by
  have hXl := dg_len_mono hX0
  have hQ : a / X ≤ a := Nat.div_le_self _ _
  have hQl := dg_len_mono hQ
  obtain ⟨S, hS⟩ : ∃ S, S = X + a / X := ⟨_, rfl⟩
  have hSl : (dg S).length ≤ 400001 := by
    have := Go.Pe.dg_len_add (x := (X : Int)) (y := ((a / X : Nat) : Int)) (K := 400000) (by rw [Int.natAbs_natCast]; omega) (by rw [Int.natAbs_natCast]; omega)
    rw [← Int.natCast_add, Int.natAbs_natCast, ← hS] at this
    exact this
  have hYl := dg_len_mono (Nat.div_le_self S 2)
  refine ⟨S / 2, cmpN (S / 2) X, intsL (dg (a / X)), intsL (dg (a % X)), intsL (dg S), intsL (dg (S / 2)), fun P' C' => divide_fs C' hp hu hX rfl rfl (by omega) (by omega),
    fun P' C' => plus_fs C' (a := dg X) (b := dg (a / X)) (n := S) hu rfl (valid_dg _) (valid_dg _) (by rw [val_dg, val_dg, hS]; rfl) rfl (by omega) (by omega),
    fun P' C' => down_fs C' (a := dg S) (n := S) (k := 1) rfl (valid_dg _) (val_dg _) rfl rfl (by decide) (by decide) (by omega),
    fun P' C' => compare_fs C' rfl hu rfl (by omega), fun hc => ?_, fun hc => ?_⟩
  · have hge : X ≤ S / 2 := by
      apply Nat.le_of_not_lt
      intro h
      rw [cmpN_lt h] at hc
      exact absurd hc (by decide)
    have := newton_stop hX2 (by rw [← hS]; exact hge)
    rw [hu, hq, isRt_unique this hrt]
  · have hlt : S / 2 < X := by
      apply Nat.lt_of_not_le
      intro h
      rcases Nat.lt_or_eq_of_le h with h | h
      · rw [cmpN_gt h] at hc; exact absurd hc (by decide)
      · rw [cmpN_eq h.symm] at hc; exact absurd hc (by decide)
    have h1 := newton_step (a := a) hX
    have h2 := newton_pos ha hX
    rw [← hS] at h1 h2
    exact ⟨rfl, h2, h1, by omega, hlt⟩

set_option maxHeartbeats 1000000 in
set_option maxRecDepth 100000 in
theorem rootOf_fs (C : Cx P gl) {a r : Nat} {p q : List PV} (hp : p = intsL (dg a)) (hrt : isRt a r) (hq : q = intsL (dg r)) (hl : (dg a).length ≤ 300000) :
    FS P gl 133 [.lst p] (· = .lst q) := by
  by_cases h0 : a = 0
  · have hr0 : r = 0 := isRt_unique hrt (by rw [h0]; exact ⟨Nat.le_refl _, by decide⟩)
    have hp0 : p = [] := by rw [hp, h0, dg_zero]; rfl
    have hq0 : q = [] := by rw [hq, hr0, dg_zero]; rfl
    rw [hp0, hq0]
    clear hp hq hp0 hq0 hrt h0 hr0 hl
    obtain ⟨rfl, hG⟩ := C
    refine FS_ofT (args := fun A => [.lst []]) (R := fun A rr => rr = .lst []) Tryd.hT Tryd.mix Tryd.func133 rfl rfl (Nat.le_of_ble_eq_true rfl) ?_
    generalize hP : Tryd.prog = P
    intro A hA
    have C : Tryd.Cx P gl := ⟨hP.symm, hG⟩
    have hI : intsL = A.ints := by subst hA; rfl
    iterate 2 (all_goals try cbv; all_goals repeat' (first | with_reducible exact True.intro | with_reducible refine And.intro ?_ ?_ | intro _))
    all_goals try exact oH
    iterate 2 (all_goals try cbv; all_goals repeat' (first | with_reducible exact True.intro | with_reducible refine And.intro ?_ ?_ | intro _))
    all_goals try exact oH
  · have ha : 0 < a := by omega
    obtain ⟨b, hb⟩ : ∃ b : Int, b = (bl a : Nat) := ⟨_, rfl⟩
    obtain ⟨h, hh⟩ : ∃ h : Int, h = (((bl a + 1) / 2 : Nat) : Int) := ⟨_, rfl⟩
    obtain ⟨X0, hX0⟩ : ∃ X0, X0 = 2 ^ ((bl a + 1) / 2) := ⟨_, rfl⟩
    obtain ⟨p1, hp1⟩ : ∃ p1, p1 = intsL (dg 1) := ⟨_, rfl⟩
    obtain ⟨x0, hx0⟩ : ∃ x0, x0 = intsL (dg X0) := ⟨_, rfl⟩
    have hbl := bl_len a
    have hl0 : (dg X0).length ≤ 400000 := by
      have := len_up 1 ((bl a + 1) / 2)
      rw [Nat.one_mul, ← hX0] at this
      have h1 : (dg 1).length ≤ 100 := dg_len 1 (by decide)
      omega
    have hbits := fun (P' : Program) (C' : Cx P' gl) => bitsOf_fs C' hp hb (by omega)
    have hsm := fun (P' : Program) (C' : Cx P' gl) => small_fs C' (k := 1) (n := 1) rfl hp1 (by decide)
    have hup := fun (P' : Program) (C' : Cx P' gl) => up_fs C' (a := dg 1) (k := h) (k' := h) (n := X0) (r := x0) hp1 (valid_dg 1) rfl (by rw [val_dg, hh, Int.toNat_natCast, hX0]; simp) hx0 (by omega) (by omega) (Nat.le_trans (dg_len 1 (by decide)) (by decide))
    have hpl : p.length ≠ 0 := by rw [hp, ints_len]; have := dg_ne_nil ha; omega
    have hX1 : 0 < X0 := by rw [hX0]; exact Nat.two_pow_pos _
    have hX2 : a < (X0 + 1) * (X0 + 1) := by rw [hX0]; exact newton_start a
    have hstep := fun (X : Nat) (u : List PV) (hu : u = intsL (dg X)) (g1 : 0 < X) (g2 : a < (X + 1) * (X + 1)) (g3 : X ≤ X0) => rootStep_ex gl hp hrt hq ha hl hl0 hu g1 g2 g3
    have hb4 : ∀ _ : Unit, b + 1 = 2 * h ∨ b + 1 = 2 * h + 1 := fun _ => by omega
    have hb5 : 0 ≤ b ∧ b ≤ 10000000 := by omega
    clear hp hrt hq hl hp1 hX0 hl0 hh hb hbl
    obtain ⟨rfl, hG⟩ := C
    refine FS_ofT (args := fun A => [.lst p]) (R := fun A rr => rr = .lst q) Tryd.hT Tryd.mix Tryd.func133 rfl rfl (Nat.le_of_ble_eq_true rfl) ?_
    generalize hP : Tryd.prog = P
    intro A hA
    have C : Tryd.Cx P gl := ⟨hP.symm, hG⟩
    have hI : intsL = A.ints := by subst hA; rfl
    have hhalf : A.quo .i64 (A.add .i64 b 1) 2 = h := by
      have := hb4 ()
      subst hA
      show IntKind.i64.wrap ((IntKind.i64.wrap (b + 1)).tdiv 2) = h
      rw [wrapi (n := b + 1) (by omega) (by omega), Int.tdiv_eq_ediv_of_nonneg (by omega), wrapi (by omega) (by omega)]
      omega
    have hlen : A.eq (A.cast (A.len p)) 0 = false := by
      subst hA
      show ((((p.length : Nat) : Int) == 0) = false)
      rw [beq_eq_false_iff_ne]; omega
    clear hb4
    iterate 2 (all_goals try cbv; all_goals repeat' (first | with_reducible exact True.intro | with_reducible refine And.intro ?_ ?_ | intro _))
    all_goals try exact oH
    all_goals try simp only [hlen]
    iterate 2 (all_goals try cbv; all_goals repeat' (first | with_reducible exact True.intro | with_reducible refine And.intro ?_ ?_ | intro _))
    all_goals try exact oH
    refine callS hA rfl (hsm P C) ?_; rintro _ rfl
    iterate 2 (all_goals try cbv; all_goals repeat' (first | with_reducible exact True.intro | with_reducible refine And.intro ?_ ?_ | intro _))
    all_goals try exact oH
    refine callS hA rfl (hbits P C) ?_; rintro _ rfl
    iterate 2 (all_goals try cbv; all_goals repeat' (first | with_reducible exact True.intro | with_reducible refine And.intro ?_ ?_ | intro _))
    all_goals try exact oH
    simp only [hhalf]
    refine callS hA rfl (hup P C) ?_; rintro _ rfl
    iterate 2 (all_goals try cbv; all_goals repeat' (first | with_reducible exact True.intro | with_reducible refine And.intro ?_ ?_ | intro _))
    all_goals try exact oH
    refine loopI hA [] (ι := Nat × List PV) (fun x => [(3, .pv (.lst x.2))]) (fun x => []) (fun x => x.1) (fun x => x.2 = intsL (dg x.1) ∧ 0 < x.1 ∧ a < (x.1 + 1) * (x.1 + 1) ∧ x.1 ≤ X0) (X0, x0) (by rfl) ?_ ?_ ?_
    all_goals try exact tH
    · exact ⟨hx0, hX1, hX2, Nat.le_refl _⟩
    rintro ⟨X, u⟩ ⟨hu, g1, g2, g3⟩
    simp only at hu g1 g2 g3
    obtain ⟨Y, c, r1, r2, v, w, s1, s2, s3, s4, s5, s6⟩ := hstep X u hu g1 g2 g3
    clear hstep hu g1 g2 g3 hX1 hX2 hx0
    iterate 2 (all_goals try cbv; all_goals repeat' (first | with_reducible exact True.intro | with_reducible refine And.intro ?_ ?_ | intro _))
    all_goals try exact oH
    refine callS hA rfl (s1 P C) ?_; rintro _ rfl
    iterate 2 (all_goals try cbv; all_goals repeat' (first | with_reducible exact True.intro | with_reducible refine And.intro ?_ ?_ | intro _))
    all_goals try exact oH
    first | (refine callS hA rfl (s2 P C) ?_; rintro _ rfl) | refine ⟨_, s2 P C, ?_⟩
    iterate 2 (all_goals try cbv; all_goals repeat' (first | with_reducible exact True.intro | with_reducible refine And.intro ?_ ?_ | intro _))
    all_goals try exact oH
    refine callS hA rfl (s3 P C) ?_; rintro _ rfl
    iterate 2 (all_goals try cbv; all_goals repeat' (first | with_reducible exact True.intro | with_reducible refine And.intro ?_ ?_ | intro _))
    all_goals try exact oH
    refine callS hA rfl (s4 P C) ?_; rintro _ rfl
    iterate 2 (all_goals try cbv; all_goals repeat' (first | with_reducible exact True.intro | with_reducible refine And.intro ?_ ?_ | intro _))
    all_goals try exact oH
    · rename_i g
      have hc : 0 ≤ c := by clear s5 s6; (subst hA; subst_vars; simp only [AR.std, natCast_eq, sH, reduceCtorEq] at *; try simp (disch := omega) only [AR.std, natCast_eq, sH, reduceCtorEq] at *); omega
      rw [s5 hc]
    · rename_i g
      have hc : c < 0 := by clear s5 s6; (subst hA; subst_vars; simp only [AR.std, natCast_eq, sH, reduceCtorEq] at *; try simp (disch := omega) only [AR.std, natCast_eq, sH, reduceCtorEq] at *); omega
      obtain ⟨t1, t2, t3, t4, t5⟩ := s6 hc
      clear s5 s6
      obtain ⟨y1, hy1⟩ : ∃ y, y = Y := ⟨_, rfl⟩
      obtain ⟨y2, hy2⟩ : ∃ y, y = w := ⟨_, rfl⟩
      refine ⟨⟨(y1, y2), ?_⟩, ?_, ?_⟩
      rotate_left
      · cbv
        exact nH
      · exact Nat.lt_of_le_of_lt (Nat.le_of_eq hy1) t5
      · rw [hy1, hy2]; exact ⟨t1, t2, t3, t4⟩

end Tryd
end Go.Proofs
