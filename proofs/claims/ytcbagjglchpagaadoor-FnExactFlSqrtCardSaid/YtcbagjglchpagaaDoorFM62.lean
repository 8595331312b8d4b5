/- Contracts: square roots in the reference. -/
import Derived.Test.YtcbagjglchpagaaDoorFM60
import Derived.Test.YtcbagjglchpagaaDoorFN33
import Derived.Test.YtcbagjglchpagaaDoorFN8
namespace Go.Proofs
open Go Go.Pe Go.Dg
namespace Tryd
set_option linter.unusedSimpArgs false
set_option linter.unusedVariables false
variable {P : Program} {gl : List (Nat × Obj)}

theorem l2bits_fs (C : Cx P gl) {x : Nat} {p : List PV} {b : Int} (hp : p = intsL (dg x)) (hb : b = (bl x : Nat)) (hx : x ≠ 0) (hl : (dg x).length ≤ 1000000) : FS P gl 80 [.agg [.lst p]] (· = I b) := by
  obtain ⟨rfl, _⟩ := C; subst hp; subst hb
  exact l2bitsO_fs (gl := gl) x hx hl

/-- a step of Newton's: what is called -/
theorem l2rootStep (gl : List (Nat × Obj)) {a r X X0 : Nat} {p q u : List PV} (hp : p = intsL (dg a)) (hrt : isRt a r) (hq : q = intsL (dg r)) (ha : 0 < a) (hl : (dg a).length ≤ 300000) (hl0 : (dg X0).length ≤ 400000)
    (hu : u = intsL (dg X)) (hX : 0 < X) (hX2 : a < (X + 1) * (X + 1)) (hX0 : X ≤ X0) : ∃ (Y : Nat) (c : Int) (r1 r2 v y : List PV), (∀ P', Cx P' gl → FS P' gl 90 [.agg [.lst p], .agg [.lst u]] (· = .tup [.agg [.lst r1], .agg [.lst r2]])) ∧
      (∀ P', Cx P' gl → FS P' gl 79 [.agg [.lst u], .agg [.lst r1]] (· = .agg [.lst v])) ∧ (∀ P', Cx P' gl → FS P' gl 75 [.agg [.lst v], I 1] (· = .agg [.lst y])) ∧ (∀ P', Cx P' gl → FS P' gl 77 [.agg [.lst y], .agg [.lst u]] (· = I c)) ∧
      (0 ≤ c → u = q) ∧ (c < 0 → y = intsL (dg Y) ∧ 0 < Y ∧ a < (Y + 1) * (Y + 1) ∧ Y ≤ X0 ∧ Y < X) := by
  have hXl := dg_len_mono hX0
  have hQ : a / X ≤ a := Nat.div_le_self _ _
  have hQl := dg_len_mono hQ
  obtain ⟨S, hS⟩ : ∃ S, S = X + a / X := ⟨_, rfl⟩
  have hSl : (dg S).length ≤ 400001 := by
    have := Go.Pe.dg_len_add (x := (X : Int)) (y := ((a / X : Nat) : Int)) (K := 400000) (by rw [Int.natAbs_natCast]; omega) (by rw [Int.natAbs_natCast]; omega)
    rw [← Int.natCast_add, Int.natAbs_natCast, ← hS] at this
    exact this
  have hYl := dg_len_mono (Nat.div_le_self S 2)
  refine ⟨S / 2, cmpN (S / 2) X, intsL (dg (a / X)), intsL (dg (a % X)), intsL (dg S), intsL (dg (S / 2)), fun P' C' => l2div_fs C' hp hu hX rfl rfl (by omega) (by omega),
    fun P' C' => l2add_fs C' (a := dg X) (b := dg (a / X)) (n := S) hu rfl (valid_dg _) (valid_dg _) (by rw [val_dg, val_dg, hS]; rfl) rfl (by omega) (by omega),
    fun P' C' => l2shr_fs C' (n := S) (k := 1) rfl (by decide) (by decide) (by omega) rfl,
    fun P' C' => l2cmp_fs C' rfl hu rfl (by omega) (by omega), fun hc => ?_, fun hc => ?_⟩
  · have hge : X ≤ S / 2 := by
      apply Nat.le_of_not_lt
      intro h
      rw [cmpN_lt h] at hc
      exact absurd hc (by decide)
    have := newton_stop hX2 (by rw [← hS]; exact hge)
    rw [hu, hq, isRt_unique this hrt]
  · have hlt : S / 2 < X := by
      apply Nat.lt_of_not_le
      intro h
      rcases Nat.lt_or_eq_of_le h with h | h
      · rw [cmpN_gt h] at hc; exact absurd hc (by decide)
      · rw [cmpN_eq h.symm] at hc; exact absurd hc (by decide)
    have h1 := newton_step (a := a) hX
    have h2 := newton_pos ha hX
    rw [← hS] at h1 h2
    exact ⟨rfl, h2, h1, by omega, hlt⟩

set_option maxHeartbeats 2000000 in
set_option maxRecDepth 100000 in
theorem l2root_fs (C : Cx P gl) {a r : Nat} {p q : List PV} (hp : p = intsL (dg a)) (hrt : isRt a r) (hq : q = intsL (dg r)) (hl : (dg a).length ≤ 300000) :
    FS P gl 76 [.agg [.lst p]] (· = .agg [.lst q]) := by
  by_cases h0 : a = 0
  · have hr0 : r = 0 := isRt_unique hrt (by rw [h0]; exact ⟨Nat.le_refl _, by decide⟩)
    have hp0 : p = [] := by rw [hp, h0, dg_zero]; rfl
    have hq0 : q = [] := by rw [hq, hr0, dg_zero]; rfl
    rw [hp0, hq0]
    clear hp hq hp0 hq0 hrt h0 hr0 hl
    obtain ⟨rfl, hG⟩ := C
    refine FS_ofT (args := fun A => [.agg [.lst []]]) (R := fun A rr => rr = .agg [.lst []]) Tryd.hT Tryd.mix Tryd.func76 rfl rfl (Nat.le_of_ble_eq_true rfl) ?_
    generalize hP : Tryd.prog = P
    intro A hA
    have C : Tryd.Cx P gl := ⟨hP.symm, hG⟩
    have hI : intsL = A.ints := by subst hA; rfl
    iterate 2 (all_goals try cbv; all_goals repeat' (first | with_reducible exact True.intro | with_reducible refine And.intro ?_ ?_ | intro _))
    all_goals try exact oH
    iterate 2 (all_goals try cbv; all_goals repeat' (first | with_reducible exact True.intro | with_reducible refine And.intro ?_ ?_ | intro _))
    all_goals try exact oH
  · have ha : 0 < a := by omega
    obtain ⟨b, hb⟩ : ∃ b : Int, b = (bl a : Nat) := ⟨_, rfl⟩
    obtain ⟨h, hh⟩ : ∃ h : Int, h = (((bl a + 1) / 2 : Nat) : Int) := ⟨_, rfl⟩
    obtain ⟨X0, hX0⟩ : ∃ X0, X0 = 2 ^ ((bl a + 1) / 2) := ⟨_, rfl⟩
    obtain ⟨p1, hp1⟩ : ∃ p1, p1 = intsL (dg 1) := ⟨_, rfl⟩
    obtain ⟨x0, hx0⟩ : ∃ x0, x0 = intsL (dg X0) := ⟨_, rfl⟩
    have hbl := bl_len a
    have l1 : (dg 1).length ≤ 100 := dg_len 1 (by decide)
    have hl0 : (dg X0).length ≤ 400000 := by
      have := len_up 1 ((bl a + 1) / 2)
      rw [Nat.one_mul, ← hX0] at this
      omega
    have hbits := fun (P' : Program) (C' : Cx P' gl) => l2bits_fs C' hp hb h0 (by omega)
    have hsm := fun (P' : Program) (C' : Cx P' gl) => l2of_fs C' (k := 1) (n := 1) rfl hp1 (by decide)
    have hup := fun (P' : Program) (C' : Cx P' gl) => l2shl_fs C' (n := 1) (k := h) (r := x0) hp1 (by omega) (by omega) (by omega) (by rw [hx0, hX0, hh, Int.toNat_natCast, Nat.one_mul])
    have hpl : p.length ≠ 0 := by rw [hp, ints_len]; have := dg_ne_nil ha; omega
    have hX1 : 0 < X0 := by rw [hX0]; exact Nat.two_pow_pos _
    have hX2 : a < (X0 + 1) * (X0 + 1) := by rw [hX0]; exact newton_start a
    have hstep := fun (X : Nat) (u : List PV) (hu : u = intsL (dg X)) (g1 : 0 < X) (g2 : a < (X + 1) * (X + 1)) (g3 : X ≤ X0) => l2rootStep gl hp hrt hq ha hl hl0 hu g1 g2 g3
    have hb4 : ∀ _ : Unit, b + 1 = 2 * h ∨ b + 1 = 2 * h + 1 := fun _ => by omega
    have hb5 : 0 ≤ b ∧ b ≤ 10000000 := by omega
    clear hp hrt hq hl hp1 hX0 hl0 hh hb hbl l1
    obtain ⟨rfl, hG⟩ := C
    refine FS_ofT (args := fun A => [.agg [.lst p]]) (R := fun A rr => rr = .agg [.lst q]) Tryd.hT Tryd.mix Tryd.func76 rfl rfl (Nat.le_of_ble_eq_true rfl) ?_
    generalize hP : Tryd.prog = P
    intro A hA
    have C : Tryd.Cx P gl := ⟨hP.symm, hG⟩
    have hI : intsL = A.ints := by subst hA; rfl
    have hhalf : A.quo .i64 (A.add .i64 b 1) 2 = h := by
      have := hb4 ()
      subst hA
      show IntKind.i64.wrap ((IntKind.i64.wrap (b + 1)).tdiv 2) = h
      rw [wrapi (n := b + 1) (by omega) (by omega), Int.tdiv_eq_ediv_of_nonneg (by omega), wrapi (by omega) (by omega)]
      omega
    have hlen : A.eq (A.cast (A.len p)) 0 = false := by
      subst hA
      show ((((p.length : Nat) : Int) == 0) = false)
      rw [beq_eq_false_iff_ne]; omega
    clear hb4
    iterate 2 (all_goals try cbv; all_goals repeat' (first | with_reducible exact True.intro | with_reducible refine And.intro ?_ ?_ | intro _))
    all_goals try exact oH
    all_goals try simp only [hlen]
    iterate 2 (all_goals try cbv; all_goals repeat' (first | with_reducible exact True.intro | with_reducible refine And.intro ?_ ?_ | intro _))
    all_goals try exact oH
    first | (refine callS hA rfl (hsm P C) ?_; rintro _ rfl) | refine ⟨_, hsm P C, ?_⟩
    iterate 2 (all_goals try cbv; all_goals repeat' (first | with_reducible exact True.intro | with_reducible refine And.intro ?_ ?_ | intro _))
    all_goals try exact oH
    first | (refine callS hA rfl (hbits P C) ?_; rintro _ rfl) | refine ⟨_, hbits P C, ?_⟩
    iterate 2 (all_goals try cbv; all_goals repeat' (first | with_reducible exact True.intro | with_reducible refine And.intro ?_ ?_ | intro _))
    all_goals try exact oH
    all_goals try simp only [hhalf]
    first | (refine callS hA rfl (hup P C) ?_; rintro _ rfl) | refine ⟨_, hup P C, ?_⟩
    iterate 2 (all_goals try cbv; all_goals repeat' (first | with_reducible exact True.intro | with_reducible refine And.intro ?_ ?_ | intro _))
    all_goals try exact oH
    refine loopI hA [] (ι := Nat × List PV) (fun x => []) (fun x => [(2, .box [.pv (.lst x.2)])]) (fun x => x.1) (fun x => x.2 = intsL (dg x.1) ∧ 0 < x.1 ∧ a < (x.1 + 1) * (x.1 + 1) ∧ x.1 ≤ X0) (X0, x0) (by rfl) ?_ ?_ ?_
    all_goals try exact tH
    · exact ⟨hx0, hX1, hX2, Nat.le_refl _⟩
    rintro ⟨X, u⟩ ⟨hu, g1, g2, g3⟩
    simp only at hu g1 g2 g3
    obtain ⟨Y, c, r1, r2, v, w, s1, s2, s3, s4, s5, s6⟩ := hstep X u hu g1 g2 g3
    clear hstep hu g1 g2 g3 hX1 hX2 hx0
    iterate 2 (all_goals try cbv; all_goals repeat' (first | with_reducible exact True.intro | with_reducible refine And.intro ?_ ?_ | intro _))
    all_goals try exact oH
    first | (refine callS hA rfl (s1 P C) ?_; rintro _ rfl) | refine ⟨_, s1 P C, ?_⟩
    iterate 2 (all_goals try cbv; all_goals repeat' (first | with_reducible exact True.intro | with_reducible refine And.intro ?_ ?_ | intro _))
    all_goals try exact oH
    first | (refine callS hA rfl (s2 P C) ?_; rintro _ rfl) | refine ⟨_, s2 P C, ?_⟩
    iterate 2 (all_goals try cbv; all_goals repeat' (first | with_reducible exact True.intro | with_reducible refine And.intro ?_ ?_ | intro _))
    all_goals try exact oH
    first | (refine callS hA rfl (s3 P C) ?_; rintro _ rfl) | refine ⟨_, s3 P C, ?_⟩
    iterate 2 (all_goals try cbv; all_goals repeat' (first | with_reducible exact True.intro | with_reducible refine And.intro ?_ ?_ | intro _))
    all_goals try exact oH
    first | (refine callS hA rfl (s4 P C) ?_; rintro _ rfl) | refine ⟨_, s4 P C, ?_⟩
    iterate 2 (all_goals try cbv; all_goals repeat' (first | with_reducible exact True.intro | with_reducible refine And.intro ?_ ?_ | intro _))
    all_goals try exact oH
    · rename_i g
      have hc : 0 ≤ c := by clear s5 s6; (subst hA; subst_vars; simp only [AR.std, natCast_eq, sH, reduceCtorEq] at *; try simp (disch := omega) only [AR.std, natCast_eq, sH, reduceCtorEq] at *); omega
      rw [s5 hc]
    · rename_i g
      have hc : c < 0 := by clear s5 s6; (subst hA; subst_vars; simp only [AR.std, natCast_eq, sH, reduceCtorEq] at *; try simp (disch := omega) only [AR.std, natCast_eq, sH, reduceCtorEq] at *); omega
      obtain ⟨t1, t2, t3, t4, t5⟩ := s6 hc
      clear s5 s6
      obtain ⟨y1, hy1⟩ : ∃ y, y = Y := ⟨_, rfl⟩
      obtain ⟨y2, hy2⟩ : ∃ y, y = w := ⟨_, rfl⟩
      refine ⟨⟨(y1, y2), ?_⟩, ?_, ?_⟩
      rotate_left
      · cbv
        exact nH
      · exact Nat.lt_of_le_of_lt (Nat.le_of_eq hy1) t5
      · rw [hy1, hy2]; exact ⟨t1, t2, t3, t4⟩

set_option maxHeartbeats 2000000 in
set_option maxRecDepth 100000 in
theorem l4sqrt0_fs (C : Cx P gl) {s : Bool} {e low : Int} : FS P gl 33 [.agg [B s, .lst [], I e], I low] (· = .agg [B false, .lst [], I 0]) := by
  obtain ⟨rfl, hG⟩ := C
  refine FS_ofT (args := fun A => [.agg [B s, .lst [], I e], I low]) (R := fun A rr => rr = .agg [B false, .lst [], I 0]) Tryd.hT Tryd.mix Tryd.func33 rfl rfl (Nat.le_of_ble_eq_true rfl) ?_
  generalize hP : Tryd.prog = P
  intro A hA
  have C : Tryd.Cx P gl := ⟨hP.symm, hG⟩
  have hI : intsL = A.ints := by subst hA; rfl
  iterate 2 (all_goals try cbv; all_goals repeat' (first | with_reducible exact True.intro | with_reducible refine And.intro ?_ ?_ | intro _))
  all_goals try exact oH
  iterate 2 (all_goals try cbv; all_goals repeat' (first | with_reducible exact True.intro | with_reducible refine And.intro ?_ ?_ | intro _))
  all_goals try exact oH

set_option maxHeartbeats 2000000 in
set_option maxRecDepth 100000 in
theorem l4sqrt_walk (C : Cx P gl) {s u kb : Bool} {e low k kn l2 l3 c g : Int} {p r pn pq pqq p2 p1 pz : List PV} (b1 : e.natAbs ≤ 100000) (b3 : low.natAbs ≤ 100000)
    (hl2 : l2 = low - 2) (hk : k = e - 2 * l2) (hkn : kn = -k) (hl3 : l3 = low - 3) (hpl : p.length ≠ 0) (hkb : kb = decide (0 ≤ k))
    (hshl : kb = true → ∀ (P' : Program) (C' : Cx P' gl), FS P' gl 74 [.agg [.lst p], I k] (· = .agg [.lst pn]))
    (hshr : kb = false → ∀ (P' : Program) (C' : Cx P' gl), FS P' gl 75 [.agg [.lst p], I kn] (· = .agg [.lst pn]))
    (hroot : ∀ (P' : Program) (C' : Cx P' gl), FS P' gl 76 [.agg [.lst pn]] (· = .agg [.lst pq]))
    (hmul : ∀ (P' : Program) (C' : Cx P' gl), FS P' gl 78 [.agg [.lst pq], .agg [.lst pq]] (· = .agg [.lst pqq]))
    (hcmp : ∀ (P' : Program) (C' : Cx P' gl), FS P' gl 77 [.agg [.lst pqq], .agg [.lst pn]] (· = I c))
    (hshl1 : ∀ (P' : Program) (C' : Cx P' gl), FS P' gl 74 [.agg [.lst pq], I 1] (· = .agg [.lst p2]))
    (hof : ∀ (P' : Program) (C' : Cx P' gl), FS P' gl 71 [I 1] (· = .agg [.lst p1]))
    (hadd : (kb = false ∨ c ≠ 0) → ∀ (P' : Program) (C' : Cx P' gl), FS P' gl 79 [.agg [.lst p2], .agg [.lst p1]] (· = .agg [.lst pz]))
    (hp2z : kb = true → c = 0 → p2 = pz)
    (hmk : ∀ (P' : Program) (C' : Cx P' gl), FS P' gl 70 [B false, .agg [.lst pz]] (· = .agg [B false, .lst pz]))
    (hl4 : ∀ (P' : Program) (C' : Cx P' gl), FS P' gl 69 [.agg [B false, .lst pz], I l3] (· = .agg [B u, .lst r, I g])) :
    FS P gl 33 [.agg [B s, .lst p, I e], I low] (· = .agg [B u, .lst r, I g]) := by
  obtain ⟨rfl, hG⟩ := C
  refine FS_ofT (args := fun A => [.agg [B s, .lst p, I e], I low]) (R := fun A rr => rr = .agg [B u, .lst r, I g]) Tryd.hT Tryd.mix Tryd.func33 rfl rfl (Nat.le_of_ble_eq_true rfl) ?_
  generalize hP : Tryd.prog = P
  intro A hA
  have C : Tryd.Cx P gl := ⟨hP.symm, hG⟩
  have hI : intsL = A.ints := by subst hA; rfl
  have f1 : A.eq (A.cast (A.len p)) 0 = false := by
    subst hA; show (((p.length : Nat) : Int) == 0) = false
    rw [beq_eq_false_iff_ne]; omega
  have f2 : A.sub .i64 low 2 = l2 := by rw [hl2]; subst hA; exact wrapi (by omega) (by omega)
  have f3 : A.sub .i64 e (A.mul .i64 2 l2) = k := by
    have m1 : A.mul .i64 2 l2 = 2 * l2 := by subst hA; exact wrapi (by omega) (by omega)
    rw [m1, hk]; subst hA; exact wrapi (by omega) (by omega)
  have f4 : A.le 0 k = kb := by rw [hkb]; subst hA; rfl
  have f5 : A.sub .i64 0 k = kn := by subst hA; show IntKind.i64.wrap (0 - k) = _; rw [wrapi (by omega) (by omega)]; omega
  have f6 : A.sub .i64 l2 1 = l3 := by subst hA; show IntKind.i64.wrap (l2 - 1) = _; rw [wrapi (by omega) (by omega)]; omega
  have f7 : A.ne c 0 = true → c ≠ 0 := by intro h; subst hA; simpa [AR.std] using h
  have f8 : A.ne c 0 = false → c = 0 := by intro h; subst hA; simpa [AR.std] using h
  clear hkb hk hkn hl2 hl3 hpl
  iterate 2 (all_goals try cbv; all_goals repeat' (first | with_reducible exact True.intro | with_reducible refine And.intro ?_ ?_ | intro _))
  all_goals try exact oH
  all_goals try simp only [f1, f2, f3, f4, f5, f6]
  iterate 2 (all_goals try cbv; all_goals repeat' (first | with_reducible exact True.intro | with_reducible refine And.intro ?_ ?_ | intro _))
  all_goals try exact oH
  all_goals try simp only [f1, f2, f3, f4, f5, f6]
  · rename_i g
    have g : kb = true := by simpa only [f2, f3, f4] using g
    have hshl := hshl g
    iterate 2 (all_goals try cbv; all_goals repeat' (first | with_reducible exact True.intro | with_reducible refine And.intro ?_ ?_ | intro _))
    all_goals try exact oH
    first | (refine callS hA rfl (hshl P C) ?_; rintro _ rfl) | refine ⟨_, hshl P C, ?_⟩
    iterate 2 (all_goals try cbv; all_goals repeat' (first | with_reducible exact True.intro | with_reducible refine And.intro ?_ ?_ | intro _))
    all_goals try exact oH
    all_goals try simp only [f2, f3, f5, f6]
    first | (refine callS hA rfl (hroot P C) ?_; rintro _ rfl) | refine ⟨_, hroot P C, ?_⟩
    iterate 2 (all_goals try cbv; all_goals repeat' (first | with_reducible exact True.intro | with_reducible refine And.intro ?_ ?_ | intro _))
    all_goals try exact oH
    all_goals try simp only [f2, f3, f5, f6]
    first | (refine callS hA rfl (hmul P C) ?_; rintro _ rfl) | refine ⟨_, hmul P C, ?_⟩
    iterate 2 (all_goals try cbv; all_goals repeat' (first | with_reducible exact True.intro | with_reducible refine And.intro ?_ ?_ | intro _))
    all_goals try exact oH
    all_goals try simp only [f2, f3, f5, f6]
    first | (refine callS hA rfl (hcmp P C) ?_; rintro _ rfl) | refine ⟨_, hcmp P C, ?_⟩
    iterate 2 (all_goals try cbv; all_goals repeat' (first | with_reducible exact True.intro | with_reducible refine And.intro ?_ ?_ | intro _))
    all_goals try exact oH
    all_goals try simp only [f2, f3, f5, f6]
    · rename_i g2
      have g2 := f7 g2
      first | (refine callS hA rfl (hshl1 P C) ?_; rintro _ rfl) | refine ⟨_, hshl1 P C, ?_⟩
      iterate 2 (all_goals try cbv; all_goals repeat' (first | with_reducible exact True.intro | with_reducible refine And.intro ?_ ?_ | intro _))
      all_goals try exact oH
      all_goals try simp only [f2, f3, f5, f6]
      first | (refine callS hA rfl (hof P C) ?_; rintro _ rfl) | refine ⟨_, hof P C, ?_⟩
      iterate 2 (all_goals try cbv; all_goals repeat' (first | with_reducible exact True.intro | with_reducible refine And.intro ?_ ?_ | intro _))
      all_goals try exact oH
      all_goals try simp only [f2, f3, f5, f6]
      first | (refine callS hA rfl (hadd (.inr g2) P C) ?_; rintro _ rfl) | refine ⟨_, hadd (.inr g2) P C, ?_⟩
      iterate 2 (all_goals try cbv; all_goals repeat' (first | with_reducible exact True.intro | with_reducible refine And.intro ?_ ?_ | intro _))
      all_goals try exact oH
      all_goals try simp only [f2, f3, f5, f6]
      first | (refine callS hA rfl (hmk P C) ?_; rintro _ rfl) | refine ⟨_, hmk P C, ?_⟩
      iterate 2 (all_goals try cbv; all_goals repeat' (first | with_reducible exact True.intro | with_reducible refine And.intro ?_ ?_ | intro _))
      all_goals try exact oH
      all_goals try simp only [f2, f3, f5, f6]
      first | (refine callS hA rfl (hl4 P C) ?_; rintro _ rfl) | refine ⟨_, hl4 P C, ?_⟩
      iterate 2 (all_goals try cbv; all_goals repeat' (first | with_reducible exact True.intro | with_reducible refine And.intro ?_ ?_ | intro _))
      all_goals try exact oH
      all_goals try simp only [f2, f3, f5, f6]
    · rename_i g2
      have g2 := f8 g2
      have e := hp2z g g2
      subst e
      first | (refine callS hA rfl (hshl1 P C) ?_; rintro _ rfl) | refine ⟨_, hshl1 P C, ?_⟩
      iterate 2 (all_goals try cbv; all_goals repeat' (first | with_reducible exact True.intro | with_reducible refine And.intro ?_ ?_ | intro _))
      all_goals try exact oH
      all_goals try simp only [f2, f3, f5, f6]
      first | (refine callS hA rfl (hmk P C) ?_; rintro _ rfl) | refine ⟨_, hmk P C, ?_⟩
      iterate 2 (all_goals try cbv; all_goals repeat' (first | with_reducible exact True.intro | with_reducible refine And.intro ?_ ?_ | intro _))
      all_goals try exact oH
      all_goals try simp only [f2, f3, f5, f6]
      first | (refine callS hA rfl (hl4 P C) ?_; rintro _ rfl) | refine ⟨_, hl4 P C, ?_⟩
      iterate 2 (all_goals try cbv; all_goals repeat' (first | with_reducible exact True.intro | with_reducible refine And.intro ?_ ?_ | intro _))
      all_goals try exact oH
      all_goals try simp only [f2, f3, f5, f6]
  · rename_i g
    have g : kb = false := by simpa only [f2, f3, f4] using g
    have hshr := hshr g
    iterate 2 (all_goals try cbv; all_goals repeat' (first | with_reducible exact True.intro | with_reducible refine And.intro ?_ ?_ | intro _))
    all_goals try exact oH
    all_goals try simp only [f5]
    first | (refine callS hA rfl (hshr P C) ?_; rintro _ rfl) | refine ⟨_, hshr P C, ?_⟩
    iterate 2 (all_goals try cbv; all_goals repeat' (first | with_reducible exact True.intro | with_reducible refine And.intro ?_ ?_ | intro _))
    all_goals try exact oH
    all_goals try simp only [f2, f3, f5, f6]
    first | (refine callS hA rfl (hroot P C) ?_; rintro _ rfl) | refine ⟨_, hroot P C, ?_⟩
    iterate 2 (all_goals try cbv; all_goals repeat' (first | with_reducible exact True.intro | with_reducible refine And.intro ?_ ?_ | intro _))
    all_goals try exact oH
    all_goals try simp only [f2, f3, f5, f6]
    first | (refine callS hA rfl (hmul P C) ?_; rintro _ rfl) | refine ⟨_, hmul P C, ?_⟩
    iterate 2 (all_goals try cbv; all_goals repeat' (first | with_reducible exact True.intro | with_reducible refine And.intro ?_ ?_ | intro _))
    all_goals try exact oH
    all_goals try simp only [f2, f3, f5, f6]
    first | (refine callS hA rfl (hcmp P C) ?_; rintro _ rfl) | refine ⟨_, hcmp P C, ?_⟩
    iterate 2 (all_goals try cbv; all_goals repeat' (first | with_reducible exact True.intro | with_reducible refine And.intro ?_ ?_ | intro _))
    all_goals try exact oH
    all_goals try simp only [f2, f3, f5, f6]
    · rename_i g2
      have g2 := f7 g2
      first | (refine callS hA rfl (hshl1 P C) ?_; rintro _ rfl) | refine ⟨_, hshl1 P C, ?_⟩
      iterate 2 (all_goals try cbv; all_goals repeat' (first | with_reducible exact True.intro | with_reducible refine And.intro ?_ ?_ | intro _))
      all_goals try exact oH
      all_goals try simp only [f2, f3, f5, f6]
      first | (refine callS hA rfl (hof P C) ?_; rintro _ rfl) | refine ⟨_, hof P C, ?_⟩
      iterate 2 (all_goals try cbv; all_goals repeat' (first | with_reducible exact True.intro | with_reducible refine And.intro ?_ ?_ | intro _))
      all_goals try exact oH
      all_goals try simp only [f2, f3, f5, f6]
      first | (refine callS hA rfl (hadd (.inr g2) P C) ?_; rintro _ rfl) | refine ⟨_, hadd (.inr g2) P C, ?_⟩
      iterate 2 (all_goals try cbv; all_goals repeat' (first | with_reducible exact True.intro | with_reducible refine And.intro ?_ ?_ | intro _))
      all_goals try exact oH
      all_goals try simp only [f2, f3, f5, f6]
      first | (refine callS hA rfl (hmk P C) ?_; rintro _ rfl) | refine ⟨_, hmk P C, ?_⟩
      iterate 2 (all_goals try cbv; all_goals repeat' (first | with_reducible exact True.intro | with_reducible refine And.intro ?_ ?_ | intro _))
      all_goals try exact oH
      all_goals try simp only [f2, f3, f5, f6]
      first | (refine callS hA rfl (hl4 P C) ?_; rintro _ rfl) | refine ⟨_, hl4 P C, ?_⟩
      iterate 2 (all_goals try cbv; all_goals repeat' (first | with_reducible exact True.intro | with_reducible refine And.intro ?_ ?_ | intro _))
      all_goals try exact oH
      all_goals try simp only [f2, f3, f5, f6]
    · rename_i g2
      have g2 := f8 g2
      first | (refine callS hA rfl (hshl1 P C) ?_; rintro _ rfl) | refine ⟨_, hshl1 P C, ?_⟩
      iterate 2 (all_goals try cbv; all_goals repeat' (first | with_reducible exact True.intro | with_reducible refine And.intro ?_ ?_ | intro _))
      all_goals try exact oH
      all_goals try simp only [f2, f3, f5, f6]
      first | (refine callS hA rfl (hof P C) ?_; rintro _ rfl) | refine ⟨_, hof P C, ?_⟩
      iterate 2 (all_goals try cbv; all_goals repeat' (first | with_reducible exact True.intro | with_reducible refine And.intro ?_ ?_ | intro _))
      all_goals try exact oH
      all_goals try simp only [f2, f3, f5, f6]
      first | (refine callS hA rfl (hadd (.inl g) P C) ?_; rintro _ rfl) | refine ⟨_, hadd (.inl g) P C, ?_⟩
      iterate 2 (all_goals try cbv; all_goals repeat' (first | with_reducible exact True.intro | with_reducible refine And.intro ?_ ?_ | intro _))
      all_goals try exact oH
      all_goals try simp only [f2, f3, f5, f6]
      first | (refine callS hA rfl (hmk P C) ?_; rintro _ rfl) | refine ⟨_, hmk P C, ?_⟩
      iterate 2 (all_goals try cbv; all_goals repeat' (first | with_reducible exact True.intro | with_reducible refine And.intro ?_ ?_ | intro _))
      all_goals try exact oH
      all_goals try simp only [f2, f3, f5, f6]
      first | (refine callS hA rfl (hl4 P C) ?_; rintro _ rfl) | refine ⟨_, hl4 P C, ?_⟩
      iterate 2 (all_goals try cbv; all_goals repeat' (first | with_reducible exact True.intro | with_reducible refine And.intro ?_ ?_ | intro _))
      all_goals try exact oH
      all_goals try simp only [f2, f3, f5, f6]

/-- the root with two bits more, in the reference -/
theorem l4sqrt_fs (C : Cx P gl) {d d' : Dyadic} {s u : Bool} {e g low : Int} {p r : List PV} (hn : 0 ≤ cZ d) (hs : s = decide (cZ d < 0)) (hp : p = intsL (dg (cZ d).natAbs)) (he : e = cE d)
    (hd : d' = sqrtD d low) (hu : u = decide (cZ d' < 0)) (hr : r = intsL (dg (cZ d').natAbs)) (hg : g = cE d') (hb1 : e.natAbs ≤ 10000) (hb3 : low.natAbs ≤ 10000) (hl : (dg (cZ d).natAbs).length ≤ 1000) :
    FS P gl 33 [.agg [B s, .lst p, I e], I low] (· = .agg [B u, .lst r, I g]) := by
  by_cases h0 : d = 0
  · have e1 : d' = 0 := by rw [hd, sqrtD, if_pos h0]
    have hp0 : p = [] := by rw [hp, h0, cZ_zero, show Int.natAbs 0 = 0 from rfl, dg_zero]; rfl
    have hr0 : r = [] := by rw [hr, e1, cZ_zero, show Int.natAbs 0 = 0 from rfl, dg_zero]; rfl
    have hu0 : u = false := by rw [hu, e1]; rfl
    have hg0 : g = 0 := by rw [hg, e1]; rfl
    rw [hp0, hr0, hu0, hg0]
    exact l4sqrt0_fs C
  · obtain ⟨M, hM⟩ : ∃ M, M = (cZ d).natAbs := ⟨_, rfl⟩
    have hM0 : 0 < M := by rw [hM]; have : cZ d ≠ 0 := fun h => h0 (cZ_eq_zero.1 h); omega
    obtain ⟨k, hk⟩ : ∃ k : Int, k = e - 2 * (low - 2) := ⟨_, rfl⟩
    obtain ⟨n, hn'⟩ : ∃ n, n = sqN d low := ⟨_, rfl⟩
    obtain ⟨q, hq⟩ : ∃ q, q = rtN n := ⟨_, rfl⟩
    obtain ⟨W, hW⟩ : ∃ W, W = 2 * q + sqS d low := ⟨_, rfl⟩
    have hnv : n = M * 2 ^ k.toNat / 2 ^ (-k).toNat := by rw [hn', sqN, ← he, ← hk, ← hM]
    have hd2 : d' = mk (W : Int) (low - 3) := by rw [hd, sqrtD, if_neg h0, ← hn', ← hq, ← hW]
    obtain ⟨c, hc⟩ : ∃ c, c = cmpN (q * q) n := ⟨_, rfl⟩
    have hc0 : c = 0 ↔ q * q = n := by
      rw [hc]
      constructor
      · intro h
        rcases Nat.lt_trichotomy (q * q) n with g | g | g
        · rw [cmpN_lt g] at h; exact absurd h (by decide)
        · exact g
        · rw [cmpN_gt g] at h; exact absurd h (by decide)
      · exact cmpN_eq
    have hS : sqS d low = if k < 0 ∨ c ≠ 0 then 1 else 0 := by
      rw [sqS, ← hn', ← hq, ← he, ← hk]
      have : (k < 0 ∨ q * q ≠ n) ↔ (k < 0 ∨ c ≠ 0) := by rw [ne_eq, ne_eq, hc0]
      by_cases hh : k < 0 ∨ c ≠ 0
      · rw [if_pos hh, if_pos (this.2 hh)]
      · rw [if_neg hh, if_neg (fun h => hh (this.1 h))]
    rw [← hM] at hp hl
    have hl1 := len_up M k.toNat
    have hnl : (dg n).length ≤ 30000 := by
      have := dg_len_mono (Nat.div_le_self (M * 2 ^ k.toNat) (2 ^ (-k).toNat))
      rw [← hnv] at this
      omega
    have hql := dg_len_mono (show q ≤ n by rw [hq]; exact rtN_le n)
    have hqq : (dg (q * q)).length ≤ 60000 := by have := dg_len_mul (x := q) (y := q) (K := 30000) (J := 30000) (by omega) (by omega); omega
    have hl2 : (dg (q * 2 ^ (1 : Int).toNat)).length ≤ 30002 := by have := len_up q (1 : Int).toNat; have h1 : (1 : Int).toNat = 1 := rfl; omega
    have l1 : (dg 1).length ≤ 100 := dg_len 1 (by decide)
    have hWl : (dg W).length ≤ 30003 := by
      have := Go.Pe.dg_len_add (x := ((q * 2 ^ (1 : Int).toNat : Nat) : Int)) (y := ((sqS d low : Nat) : Int)) (K := 30002) (by rw [Int.natAbs_natCast]; exact hl2) (by
        rw [Int.natAbs_natCast, hS]; split
        · omega
        · rw [dg_zero]; exact Nat.zero_le _)
      rw [show (((q * 2 ^ (1 : Int).toNat : Nat) : Int) + ((sqS d low : Nat) : Int)).natAbs = W by
        have h1 : q * 2 ^ (1 : Int).toNat = q * 2 := rfl
        rw [h1, hW]; omega] at this
      exact this
    obtain ⟨pn, hpn⟩ : ∃ x, x = intsL (dg n) := ⟨_, rfl⟩
    obtain ⟨pq, hpq⟩ : ∃ x, x = intsL (dg q) := ⟨_, rfl⟩
    obtain ⟨pqq, hpqq⟩ : ∃ x, x = intsL (dg (q * q)) := ⟨_, rfl⟩
    obtain ⟨p2, hp2⟩ : ∃ x, x = intsL (dg (q * 2 ^ (1 : Int).toNat)) := ⟨_, rfl⟩
    obtain ⟨p1, hp1⟩ : ∃ x, x = intsL (dg 1) := ⟨_, rfl⟩
    obtain ⟨pz, hpz⟩ : ∃ x, x = intsL (dg W) := ⟨_, rfl⟩
    have hq2 : q * 2 ^ (1 : Int).toNat = 2 * q := Nat.mul_comm q 2
    refine l4sqrt_walk C (s := s) (kb := decide (0 ≤ k)) (c := c) (l2 := low - 2) (kn := -k) (l3 := low - 3) (pn := pn) (pq := pq) (pqq := pqq) (p2 := p2) (p1 := p1) (pz := pz) (by omega) (by omega) rfl hk rfl rfl
      (by rw [hp, ints_len]; have := dg_ne_nil hM0; omega) rfl ?_ ?_ ?_ ?_ ?_ ?_ ?_ ?_ ?_ ?_ ?_
    · intro h P' C'
      have h := of_decide_eq_true h
      exact l2shl_fs C' (n := M) hp h (by omega) (by omega) (by rw [hpn, hnv, show (-k).toNat = 0 by omega, Nat.pow_zero, Nat.div_one])
    · intro h P' C'
      have h := of_decide_eq_false h
      exact l2shr_fs C' (n := M) hp (by omega) (by omega) (by omega) (by rw [hpn, hnv, show k.toNat = 0 by omega, Nat.pow_zero, Nat.mul_one])
    · intro P' C'
      exact l2root_fs C' hpn (by rw [hq]; exact rtN_spec n) hpq (by omega)
    · intro P' C'
      exact l2mul_fs C' (a := dg q) (b := dg q) (n := q * q) hpq hpq (valid_dg _) (valid_dg _) (by rw [val_dg, Int.natCast_mul]) hpqq (by omega)
    · intro P' C'
      exact l2cmp_fs C' hpqq hpn hc (by omega) (by omega)
    · intro P' C'
      exact l2shl_fs C' (n := q) (k := 1) hpq (by decide) (by decide) (by omega) hp2
    · intro P' C'
      exact l2of_fs C' (k := 1) (n := 1) rfl hp1 (by decide)
    · intro h P' C'
      have h : k < 0 ∨ c ≠ 0 := by rcases h with h | h <;> first | (left; have := of_decide_eq_false h; omega) | exact .inr h
      refine l2add_fs C' (a := dg (q * 2 ^ (1 : Int).toNat)) (b := dg 1) (n := W) hp2 hp1 (valid_dg _) (valid_dg 1) ?_ hpz (by omega) (by omega)
      rw [val_dg, val_dg, hW, hS, if_pos h, hq2]; rfl
    · intro h1 h2
      have h1 := of_decide_eq_true h1
      rw [hp2, hpz, hW, hS, if_neg (by rintro (h | h) <;> first | omega | exact h h2), hq2]; rfl
    · intro P' C'
      exact l3make_fs C' (n := W) (s := false) hpz rfl (by omega)
    · intro P' C'
      exact l4make_fs C' (z := (W : Int)) (e := low - 3) (by rw [Int.natAbs_natCast]; exact hpz) (decide_eq_false (by omega)).symm hd2 hr hu hg (by omega) (by rw [Int.natAbs_natCast]; omega)

end Tryd
end Go.Proofs
