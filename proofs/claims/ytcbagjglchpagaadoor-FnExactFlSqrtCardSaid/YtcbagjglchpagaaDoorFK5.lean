/- Contracts: the float of a number, in the reference. -/
import Derived.Test.YtcbagjglchpagaaDoorFK3
namespace Go.Proofs
open Go Go.Pe Go.Dg
namespace Tryd
set_option linter.unusedSimpArgs false
set_option linter.unusedVariables false
variable {P : Program} {gl : List (Nat × Obj)}

theorem beq_ff {A : AR} (hA : A = AR.std) {y : Bool} (g : y = false) : A.beq y false = true := by subst hA g; rfl
theorem andb_ff {A : AR} (hA : A = AR.std) {x y : Bool} (g1 : A.beq x false = true) (g2 : y = true) : A.andb (A.beq x false) (A.beq y true) = true := by
  subst hA g2
  cases x <;> first | rfl | exact absurd g1 (by decide)

set_option maxHeartbeats 8000000 in
set_option maxRecDepth 100000 in
theorem l5round_walk (C : Cx P gl) {s zs same sx : Bool} {e T mode low ex T2 g m fl fl1 : Int} {k' m' e' : Int} {p px pm : List PV} (hpl : p.length ≠ 0)
    (hT : ∀ (P' : Program) (C' : Cx P' gl), FS P' gl 34 [.agg [B s, .lst p, I e]] (· = I T)) (hTb : T.natAbs ≤ 100000) (hlow : low = max (T - 53) (-1074))
    (hr : ∀ (P' : Program) (C' : Cx P' gl), FS P' gl 51 [.agg [B s, .lst p, I e], I low, I mode] (· = .tup [.agg [B sx, .lst px, I ex], B same]))
    (hfl : fl1 = fl0 same T) (hz : px.length = 0 → k' = 0 ∧ m' = 0 ∧ e' = 0 ∧ fl = fl1)
    (hT2 : ∀ (P' : Program) (C' : Cx P' gl), FS P' gl 34 [.agg [B sx, .lst px, I ex]] (· = I T2)) (hTb2 : T2.natAbs ≤ 100000)
    (hmost : ∀ (P' : Program) (C' : Cx P' gl), FS P' gl 72 [B s] (· = .agg [I 1, B s, I 9007199254740991, I 971]))
    (hov : px.length ≠ 0 → 1024 < T2 → fl = 3 ∧ (overB s mode = true → k' = 1 ∧ m' = 9007199254740991 ∧ e' = 971) ∧ (overB s mode = false → k' = 2 ∧ m' = 0 ∧ e' = 0))
    (hg : px.length ≠ 0 → T2 ≤ 1024 → g = max (T2 - 53) (-1074) ∧ sx = s ∧ k' = 1 ∧ m' = m ∧ e' = g ∧ fl = fl1 ∧ (ex - g).natAbs ≤ 100000 ∧
      (∀ (P' : Program) (C' : Cx P' gl), FS P' gl 74 [.agg [.lst px], I (ex - g)] (· = .agg [.lst pm])) ∧ (∀ (P' : Program) (C' : Cx P' gl), FS P' gl 73 [.agg [.lst pm]] (· = I m)))
    (he : e.natAbs ≤ 100000) (hex : ex.natAbs ≤ 100000) :
    FS P gl 32 [.agg [B s, .lst p, I e], I mode, B zs] (· = .tup [.agg [I k', B s, I m', I e'], I fl]) := by
  obtain ⟨rfl, hG⟩ := C
  refine FS_ofT (args := fun A => [.agg [B s, .lst p, I e], I mode, B zs]) (R := fun A rr => rr = .tup [.agg [I k', B s, I m', I e'], I fl]) Tryd.hT Tryd.mix Tryd.func32 rfl rfl (Nat.le_of_ble_eq_true rfl) ?_
  generalize hP : Tryd.prog = P
  intro A hA
  have C : Tryd.Cx P gl := ⟨hP.symm, hG⟩
  have hI : intsL = A.ints := by subst hA; rfl
  have f1 : A.eq (A.cast (A.len p)) 0 = false := by
    subst hA; show (((p.length : Nat) : Int) == 0) = false
    rw [beq_eq_false_iff_ne]; omega
  have f2 : A.sub .i64 T 53 = T - 53 := by subst hA; exact wrapi (by omega) (by omega)
  have f5 : A.sub .i64 T2 53 = T2 - 53 := by subst hA; exact wrapi (by omega) (by omega)
  have f4 : A.bor .i64 1 4 = 5 := by subst hA; rfl
  have fo : A.pick (A.pick (A.eq mode 1) true (A.pick (A.eq mode 2) s false)) true (A.pick (A.eq mode 3) (A.bnot s) false) = overB s mode := by
    clear hT hr hT2 hmost hov hg hz
    subst hA
    rw [pick_or, pick_or, pick_and, pick_and, eq_dec, eq_dec, eq_dec, bnot_not]; rfl
  clear hpl
  iterate 2 (all_goals try cbv; all_goals repeat' (first | with_reducible exact True.intro | with_reducible refine And.intro ?_ ?_ | intro _))
  all_goals try exact oH
  all_goals try simp only [f1]
  iterate 2 (all_goals try cbv; all_goals repeat' (first | with_reducible exact True.intro | with_reducible refine And.intro ?_ ?_ | intro _))
  all_goals try exact oH
  first | (refine callS hA rfl (hT P C) ?_; rintro _ rfl) | refine ⟨_, hT P C, ?_⟩
  iterate 2 (all_goals try cbv; all_goals repeat' (first | with_reducible exact True.intro | with_reducible refine And.intro ?_ ?_ | intro _))
  all_goals try exact oH
  all_goals try simp only [f2, f4, f5]
  · rename_i gg
    have hlo : (T - 53 < -1074) := by
      try simp only [f2, f5] at gg
      clear hT hr hT2 hmost hov hg hz
      subst hA
      exact of_decide_eq_true (show decide (T - 53 < -1074) = true from gg)
    obtain rfl : low = -1074 := by rw [hlow]; omega
    clear gg hlow
    iterate 2 (all_goals try cbv; all_goals repeat' (first | with_reducible exact True.intro | with_reducible refine And.intro ?_ ?_ | intro _))
    all_goals try exact oH
    all_goals try simp only [f2, f4, f5]
    first | (refine callS hA rfl (hr P C) ?_; rintro _ rfl) | refine ⟨_, hr P C, ?_⟩
    all_goals try cbv
    all_goals repeat' (first | with_reducible exact True.intro | with_reducible refine And.intro ?_ ?_ | intro _)
    all_goals try exact oH
    all_goals try simp only [f2, f4, f5]
    · rename_i gg
      have hsame : same = false := by cases same <;> first | rfl | (exfalso; clear hT hr hT2 hmost hov hg hz hfl; subst hA; exact absurd gg (by decide))
      clear gg
      iterate 2 (all_goals try cbv; all_goals repeat' (first | with_reducible exact True.intro | with_reducible refine And.intro ?_ ?_ | intro _))
      all_goals try exact oH
      first | (refine callS hA rfl (hT P C) ?_; rintro _ rfl) | refine ⟨_, hT P C, ?_⟩
      all_goals try cbv
      all_goals repeat' (first | with_reducible exact True.intro | with_reducible refine And.intro ?_ ?_ | intro _)
      all_goals try exact oH
      all_goals try simp only [f2, f4, f5]
      rename_i gg
      have hund : (T < -1021) := by
        try simp only [f2, f5] at gg
        clear hT hr hT2 hmost hov hg hz
        subst hA
        exact of_decide_eq_true (show decide (T < -1021) = true from gg)
      clear gg
      have hfv : fl1 = 5 := by rw [hfl, fl0, if_neg (by rw [hsame]; decide), if_pos (by omega)]
      all_goals try cbv
      all_goals repeat' (first | with_reducible exact True.intro | with_reducible refine And.intro ?_ ?_ | intro _)
      all_goals try exact oH
      all_goals try simp only [f2, f4, f5]
      · rename_i gg
        have h0 : px.length = 0 := by
          clear hT hr hT2 hmost hov hg hz
          subst hA
          have := of_decide_eq_true (show decide (((px.length : Nat) : Int) = 0) = true by rw [← gg]; exact (eq_dec (x := ((px.length : Nat) : Int)) (y := 0)).symm)
          omega
        obtain ⟨e1, e2, e3, e4⟩ := hz h0
        rw [e1, e2, e3, e4, hfv]
        iterate 2 (all_goals try cbv; all_goals repeat' (first | with_reducible exact True.intro | with_reducible refine And.intro ?_ ?_ | intro _))
        all_goals try exact oH
      · rename_i gg
        have h0 : px.length ≠ 0 := by
          clear hT hr hT2 hmost hov hg hz
          subst hA
          have := of_decide_eq_false (show decide (((px.length : Nat) : Int) = 0) = false by rw [← gg]; exact (eq_dec (x := ((px.length : Nat) : Int)) (y := 0)).symm)
          omega
        clear gg
        iterate 2 (all_goals try cbv; all_goals repeat' (first | with_reducible exact True.intro | with_reducible refine And.intro ?_ ?_ | intro _))
        all_goals try exact oH
        first | (refine callS hA rfl (hT2 P C) ?_; rintro _ rfl) | refine ⟨_, hT2 P C, ?_⟩
        all_goals try cbv
        all_goals repeat' (first | with_reducible exact True.intro | with_reducible refine And.intro ?_ ?_ | intro _)
        all_goals try exact oH
        · rename_i gg
          have hover : (1024 < T2) := by
            try simp only [f2, f5] at gg
            clear hT hr hT2 hmost hov hg hz
            subst hA
            exact of_decide_eq_true (show decide (1024 < T2) = true from gg)
          clear gg
          obtain ⟨o1, o2, o3⟩ := hov h0 hover
          all_goals try cbv
          all_goals repeat' (first | with_reducible exact True.intro | with_reducible refine And.intro ?_ ?_ | intro _)
          all_goals try exact oH
          all_goals try (first | (cbv; done) | (cbv; exact True.intro) | (cbv; exact beq_ff hA (by assumption)) | (cbv; exact andb_ff hA (by assumption) (by assumption)))
          · rename_i gg
            obtain ⟨e1, e2, e3⟩ := o2 (by rw [← fo]; exact gg)
            rw [e1, e2, e3, o1]
            iterate 2 (all_goals try cbv; all_goals repeat' (first | with_reducible exact True.intro | with_reducible refine And.intro ?_ ?_ | intro _))
            all_goals try exact oH
            first | (refine callS hA rfl (hmost P C) ?_; rintro _ rfl) | refine ⟨_, hmost P C, ?_⟩
            iterate 2 (all_goals try cbv; all_goals repeat' (first | with_reducible exact True.intro | with_reducible refine And.intro ?_ ?_ | intro _))
            all_goals try exact oH
          · rename_i gg
            obtain ⟨e1, e2, e3⟩ := o3 (by rw [← fo]; exact gg)
            rw [e1, e2, e3, o1]
            iterate 2 (all_goals try cbv; all_goals repeat' (first | with_reducible exact True.intro | with_reducible refine And.intro ?_ ?_ | intro _))
            all_goals try exact oH
        · rename_i gg
          have hover0 : ¬(1024 < T2) := by
            try simp only [f2, f5] at gg
            clear hT hr hT2 hmost hov hg hz
            subst hA
            exact of_decide_eq_false (show decide (1024 < T2) = false from gg)
          have hover : T2 ≤ 1024 := by omega
          clear gg
          iterate 2 (all_goals try cbv; all_goals repeat' (first | with_reducible exact True.intro | with_reducible refine And.intro ?_ ?_ | intro _))
          all_goals try exact oH
          first | (refine callS hA rfl (hT2 P C) ?_; rintro _ rfl) | refine ⟨_, hT2 P C, ?_⟩
          all_goals try cbv
          all_goals repeat' (first | with_reducible exact True.intro | with_reducible refine And.intro ?_ ?_ | intro _)
          all_goals try exact oH
          · rename_i gg
            have hlo2 : (T2 - 53 < -1074) := by
              try simp only [f2, f5] at gg
              clear hT hr hT2 hmost hov hg hz
              subst hA
              exact of_decide_eq_true (show decide (T2 - 53 < -1074) = true from gg)
            clear gg
            obtain ⟨g1, g2, g3, g4, g5, g6, g7, g8, g9⟩ := hg h0 hover
            have hgv : g = -1074 := by rw [g1]; omega
            have f6 : A.sub .i64 ex (-1074) = ex - g := by rw [hgv]; subst hA; exact wrapi (by omega) (by omega)
            rw [g3, g4, g5, g6, hfv]
            rw [← hgv] at f6
            iterate 2 (all_goals try cbv; all_goals repeat' (first | with_reducible exact True.intro | with_reducible refine And.intro ?_ ?_ | intro _))
            all_goals try exact oH
            all_goals try simp only [f2, f5, ← hgv]
            all_goals try simp only [f6]
            first | (refine callS hA rfl (g8 P C) ?_; rintro _ rfl) | refine ⟨_, g8 P C, ?_⟩
            iterate 2 (all_goals try cbv; all_goals repeat' (first | with_reducible exact True.intro | with_reducible refine And.intro ?_ ?_ | intro _))
            all_goals try exact oH
            first | (refine callS hA rfl (g9 P C) ?_; rintro _ rfl) | refine ⟨_, g9 P C, ?_⟩
            iterate 2 (all_goals try cbv; all_goals repeat' (first | with_reducible exact True.intro | with_reducible refine And.intro ?_ ?_ | intro _))
            all_goals try exact oH
            all_goals try simp only [f2, f5, ← hgv]
            all_goals try rw [g2]
          · rename_i gg
            have hlo2 : ¬(T2 - 53 < -1074) := by
              try simp only [f2, f5] at gg
              clear hT hr hT2 hmost hov hg hz
              subst hA
              exact of_decide_eq_false (show decide (T2 - 53 < -1074) = false from gg)
            clear gg
            obtain ⟨g1, g2, g3, g4, g5, g6, g7, g8, g9⟩ := hg h0 hover
            have hgv : g = T2 - 53 := by rw [g1]; omega
            have f6 : A.sub .i64 ex (T2 - 53) = ex - g := by rw [hgv]; subst hA; exact wrapi (by omega) (by omega)
            rw [g3, g4, g5, g6, hfv]
            rw [← hgv] at f6
            iterate 2 (all_goals try cbv; all_goals repeat' (first | with_reducible exact True.intro | with_reducible refine And.intro ?_ ?_ | intro _))
            all_goals try exact oH
            all_goals try simp only [f2, f5, ← hgv]
            all_goals try simp only [f6]
            first | (refine callS hA rfl (g8 P C) ?_; rintro _ rfl) | refine ⟨_, g8 P C, ?_⟩
            iterate 2 (all_goals try cbv; all_goals repeat' (first | with_reducible exact True.intro | with_reducible refine And.intro ?_ ?_ | intro _))
            all_goals try exact oH
            first | (refine callS hA rfl (g9 P C) ?_; rintro _ rfl) | refine ⟨_, g9 P C, ?_⟩
            iterate 2 (all_goals try cbv; all_goals repeat' (first | with_reducible exact True.intro | with_reducible refine And.intro ?_ ?_ | intro _))
            all_goals try exact oH
            all_goals try simp only [f2, f5, ← hgv]
            all_goals try rw [g2]
    · rename_i gg
      have hsame : same = true := by cases same <;> first | rfl | (exfalso; clear hT hr hT2 hmost hov hg hz hfl; subst hA; exact absurd gg (by decide))
      clear gg
      have hfv : fl1 = 0 := by rw [hfl, fl0, if_pos hsame]
      all_goals try cbv
      all_goals repeat' (first | with_reducible exact True.intro | with_reducible refine And.intro ?_ ?_ | intro _)
      all_goals try exact oH
      all_goals try simp only [f2, f4, f5]
      · rename_i gg
        have h0 : px.length = 0 := by
          clear hT hr hT2 hmost hov hg hz
          subst hA
          have := of_decide_eq_true (show decide (((px.length : Nat) : Int) = 0) = true by rw [← gg]; exact (eq_dec (x := ((px.length : Nat) : Int)) (y := 0)).symm)
          omega
        obtain ⟨e1, e2, e3, e4⟩ := hz h0
        rw [e1, e2, e3, e4, hfv]
        iterate 2 (all_goals try cbv; all_goals repeat' (first | with_reducible exact True.intro | with_reducible refine And.intro ?_ ?_ | intro _))
        all_goals try exact oH
      · rename_i gg
        have h0 : px.length ≠ 0 := by
          clear hT hr hT2 hmost hov hg hz
          subst hA
          have := of_decide_eq_false (show decide (((px.length : Nat) : Int) = 0) = false by rw [← gg]; exact (eq_dec (x := ((px.length : Nat) : Int)) (y := 0)).symm)
          omega
        clear gg
        iterate 2 (all_goals try cbv; all_goals repeat' (first | with_reducible exact True.intro | with_reducible refine And.intro ?_ ?_ | intro _))
        all_goals try exact oH
        first | (refine callS hA rfl (hT2 P C) ?_; rintro _ rfl) | refine ⟨_, hT2 P C, ?_⟩
        all_goals try cbv
        all_goals repeat' (first | with_reducible exact True.intro | with_reducible refine And.intro ?_ ?_ | intro _)
        all_goals try exact oH
        · rename_i gg
          have hover : (1024 < T2) := by
            try simp only [f2, f5] at gg
            clear hT hr hT2 hmost hov hg hz
            subst hA
            exact of_decide_eq_true (show decide (1024 < T2) = true from gg)
          clear gg
          obtain ⟨o1, o2, o3⟩ := hov h0 hover
          all_goals try cbv
          all_goals repeat' (first | with_reducible exact True.intro | with_reducible refine And.intro ?_ ?_ | intro _)
          all_goals try exact oH
          all_goals try (first | (cbv; done) | (cbv; exact True.intro) | (cbv; exact beq_ff hA (by assumption)) | (cbv; exact andb_ff hA (by assumption) (by assumption)))
          · rename_i gg
            obtain ⟨e1, e2, e3⟩ := o2 (by rw [← fo]; exact gg)
            rw [e1, e2, e3, o1]
            iterate 2 (all_goals try cbv; all_goals repeat' (first | with_reducible exact True.intro | with_reducible refine And.intro ?_ ?_ | intro _))
            all_goals try exact oH
            first | (refine callS hA rfl (hmost P C) ?_; rintro _ rfl) | refine ⟨_, hmost P C, ?_⟩
            iterate 2 (all_goals try cbv; all_goals repeat' (first | with_reducible exact True.intro | with_reducible refine And.intro ?_ ?_ | intro _))
            all_goals try exact oH
          · rename_i gg
            obtain ⟨e1, e2, e3⟩ := o3 (by rw [← fo]; exact gg)
            rw [e1, e2, e3, o1]
            iterate 2 (all_goals try cbv; all_goals repeat' (first | with_reducible exact True.intro | with_reducible refine And.intro ?_ ?_ | intro _))
            all_goals try exact oH
        · rename_i gg
          have hover0 : ¬(1024 < T2) := by
            try simp only [f2, f5] at gg
            clear hT hr hT2 hmost hov hg hz
            subst hA
            exact of_decide_eq_false (show decide (1024 < T2) = false from gg)
          have hover : T2 ≤ 1024 := by omega
          clear gg
          iterate 2 (all_goals try cbv; all_goals repeat' (first | with_reducible exact True.intro | with_reducible refine And.intro ?_ ?_ | intro _))
          all_goals try exact oH
          first | (refine callS hA rfl (hT2 P C) ?_; rintro _ rfl) | refine ⟨_, hT2 P C, ?_⟩
          all_goals try cbv
          all_goals repeat' (first | with_reducible exact True.intro | with_reducible refine And.intro ?_ ?_ | intro _)
          all_goals try exact oH
          · rename_i gg
            have hlo2 : (T2 - 53 < -1074) := by
              try simp only [f2, f5] at gg
              clear hT hr hT2 hmost hov hg hz
              subst hA
              exact of_decide_eq_true (show decide (T2 - 53 < -1074) = true from gg)
            clear gg
            obtain ⟨g1, g2, g3, g4, g5, g6, g7, g8, g9⟩ := hg h0 hover
            have hgv : g = -1074 := by rw [g1]; omega
            have f6 : A.sub .i64 ex (-1074) = ex - g := by rw [hgv]; subst hA; exact wrapi (by omega) (by omega)
            rw [g3, g4, g5, g6, hfv]
            rw [← hgv] at f6
            iterate 2 (all_goals try cbv; all_goals repeat' (first | with_reducible exact True.intro | with_reducible refine And.intro ?_ ?_ | intro _))
            all_goals try exact oH
            all_goals try simp only [f2, f5, ← hgv]
            all_goals try simp only [f6]
            first | (refine callS hA rfl (g8 P C) ?_; rintro _ rfl) | refine ⟨_, g8 P C, ?_⟩
            iterate 2 (all_goals try cbv; all_goals repeat' (first | with_reducible exact True.intro | with_reducible refine And.intro ?_ ?_ | intro _))
            all_goals try exact oH
            first | (refine callS hA rfl (g9 P C) ?_; rintro _ rfl) | refine ⟨_, g9 P C, ?_⟩
            iterate 2 (all_goals try cbv; all_goals repeat' (first | with_reducible exact True.intro | with_reducible refine And.intro ?_ ?_ | intro _))
            all_goals try exact oH
            all_goals try simp only [f2, f5, ← hgv]
            all_goals try rw [g2]
          · rename_i gg
            have hlo2 : ¬(T2 - 53 < -1074) := by
              try simp only [f2, f5] at gg
              clear hT hr hT2 hmost hov hg hz
              subst hA
              exact of_decide_eq_false (show decide (T2 - 53 < -1074) = false from gg)
            clear gg
            obtain ⟨g1, g2, g3, g4, g5, g6, g7, g8, g9⟩ := hg h0 hover
            have hgv : g = T2 - 53 := by rw [g1]; omega
            have f6 : A.sub .i64 ex (T2 - 53) = ex - g := by rw [hgv]; subst hA; exact wrapi (by omega) (by omega)
            rw [g3, g4, g5, g6, hfv]
            rw [← hgv] at f6
            iterate 2 (all_goals try cbv; all_goals repeat' (first | with_reducible exact True.intro | with_reducible refine And.intro ?_ ?_ | intro _))
            all_goals try exact oH
            all_goals try simp only [f2, f5, ← hgv]
            all_goals try simp only [f6]
            first | (refine callS hA rfl (g8 P C) ?_; rintro _ rfl) | refine ⟨_, g8 P C, ?_⟩
            iterate 2 (all_goals try cbv; all_goals repeat' (first | with_reducible exact True.intro | with_reducible refine And.intro ?_ ?_ | intro _))
            all_goals try exact oH
            first | (refine callS hA rfl (g9 P C) ?_; rintro _ rfl) | refine ⟨_, g9 P C, ?_⟩
            iterate 2 (all_goals try cbv; all_goals repeat' (first | with_reducible exact True.intro | with_reducible refine And.intro ?_ ?_ | intro _))
            all_goals try exact oH
            all_goals try simp only [f2, f5, ← hgv]
            all_goals try rw [g2]
  · rename_i gg
    have hlo : ¬(T - 53 < -1074) := by
      try simp only [f2, f5] at gg
      clear hT hr hT2 hmost hov hg hz
      subst hA
      exact of_decide_eq_false (show decide (T - 53 < -1074) = false from gg)
    obtain rfl : low = T - 53 := by rw [hlow]; omega
    clear gg hlow
    iterate 2 (all_goals try cbv; all_goals repeat' (first | with_reducible exact True.intro | with_reducible refine And.intro ?_ ?_ | intro _))
    all_goals try exact oH
    all_goals try simp only [f2, f4, f5]
    first | (refine callS hA rfl (hr P C) ?_; rintro _ rfl) | refine ⟨_, hr P C, ?_⟩
    all_goals try cbv
    all_goals repeat' (first | with_reducible exact True.intro | with_reducible refine And.intro ?_ ?_ | intro _)
    all_goals try exact oH
    all_goals try simp only [f2, f4, f5]
    · rename_i gg
      have hsame : same = false := by cases same <;> first | rfl | (exfalso; clear hT hr hT2 hmost hov hg hz hfl; subst hA; exact absurd gg (by decide))
      clear gg
      iterate 2 (all_goals try cbv; all_goals repeat' (first | with_reducible exact True.intro | with_reducible refine And.intro ?_ ?_ | intro _))
      all_goals try exact oH
      first | (refine callS hA rfl (hT P C) ?_; rintro _ rfl) | refine ⟨_, hT P C, ?_⟩
      all_goals try cbv
      all_goals repeat' (first | with_reducible exact True.intro | with_reducible refine And.intro ?_ ?_ | intro _)
      all_goals try exact oH
      all_goals try simp only [f2, f4, f5]
      rename_i gg
      have hund : ¬(T < -1021) := by
        try simp only [f2, f5] at gg
        clear hT hr hT2 hmost hov hg hz
        subst hA
        exact of_decide_eq_false (show decide (T < -1021) = false from gg)
      clear gg
      have hfv : fl1 = 1 := by rw [hfl, fl0, if_neg (by rw [hsame]; decide), if_neg (by omega)]
      all_goals try cbv
      all_goals repeat' (first | with_reducible exact True.intro | with_reducible refine And.intro ?_ ?_ | intro _)
      all_goals try exact oH
      all_goals try simp only [f2, f4, f5]
      · rename_i gg
        have h0 : px.length = 0 := by
          clear hT hr hT2 hmost hov hg hz
          subst hA
          have := of_decide_eq_true (show decide (((px.length : Nat) : Int) = 0) = true by rw [← gg]; exact (eq_dec (x := ((px.length : Nat) : Int)) (y := 0)).symm)
          omega
        obtain ⟨e1, e2, e3, e4⟩ := hz h0
        rw [e1, e2, e3, e4, hfv]
        iterate 2 (all_goals try cbv; all_goals repeat' (first | with_reducible exact True.intro | with_reducible refine And.intro ?_ ?_ | intro _))
        all_goals try exact oH
      · rename_i gg
        have h0 : px.length ≠ 0 := by
          clear hT hr hT2 hmost hov hg hz
          subst hA
          have := of_decide_eq_false (show decide (((px.length : Nat) : Int) = 0) = false by rw [← gg]; exact (eq_dec (x := ((px.length : Nat) : Int)) (y := 0)).symm)
          omega
        clear gg
        iterate 2 (all_goals try cbv; all_goals repeat' (first | with_reducible exact True.intro | with_reducible refine And.intro ?_ ?_ | intro _))
        all_goals try exact oH
        first | (refine callS hA rfl (hT2 P C) ?_; rintro _ rfl) | refine ⟨_, hT2 P C, ?_⟩
        all_goals try cbv
        all_goals repeat' (first | with_reducible exact True.intro | with_reducible refine And.intro ?_ ?_ | intro _)
        all_goals try exact oH
        · rename_i gg
          have hover : (1024 < T2) := by
            try simp only [f2, f5] at gg
            clear hT hr hT2 hmost hov hg hz
            subst hA
            exact of_decide_eq_true (show decide (1024 < T2) = true from gg)
          clear gg
          obtain ⟨o1, o2, o3⟩ := hov h0 hover
          all_goals try cbv
          all_goals repeat' (first | with_reducible exact True.intro | with_reducible refine And.intro ?_ ?_ | intro _)
          all_goals try exact oH
          all_goals try (first | (cbv; done) | (cbv; exact True.intro) | (cbv; exact beq_ff hA (by assumption)) | (cbv; exact andb_ff hA (by assumption) (by assumption)))
          · rename_i gg
            obtain ⟨e1, e2, e3⟩ := o2 (by rw [← fo]; exact gg)
            rw [e1, e2, e3, o1]
            iterate 2 (all_goals try cbv; all_goals repeat' (first | with_reducible exact True.intro | with_reducible refine And.intro ?_ ?_ | intro _))
            all_goals try exact oH
            first | (refine callS hA rfl (hmost P C) ?_; rintro _ rfl) | refine ⟨_, hmost P C, ?_⟩
            iterate 2 (all_goals try cbv; all_goals repeat' (first | with_reducible exact True.intro | with_reducible refine And.intro ?_ ?_ | intro _))
            all_goals try exact oH
          · rename_i gg
            obtain ⟨e1, e2, e3⟩ := o3 (by rw [← fo]; exact gg)
            rw [e1, e2, e3, o1]
            iterate 2 (all_goals try cbv; all_goals repeat' (first | with_reducible exact True.intro | with_reducible refine And.intro ?_ ?_ | intro _))
            all_goals try exact oH
        · rename_i gg
          have hover0 : ¬(1024 < T2) := by
            try simp only [f2, f5] at gg
            clear hT hr hT2 hmost hov hg hz
            subst hA
            exact of_decide_eq_false (show decide (1024 < T2) = false from gg)
          have hover : T2 ≤ 1024 := by omega
          clear gg
          iterate 2 (all_goals try cbv; all_goals repeat' (first | with_reducible exact True.intro | with_reducible refine And.intro ?_ ?_ | intro _))
          all_goals try exact oH
          first | (refine callS hA rfl (hT2 P C) ?_; rintro _ rfl) | refine ⟨_, hT2 P C, ?_⟩
          all_goals try cbv
          all_goals repeat' (first | with_reducible exact True.intro | with_reducible refine And.intro ?_ ?_ | intro _)
          all_goals try exact oH
          · rename_i gg
            have hlo2 : (T2 - 53 < -1074) := by
              try simp only [f2, f5] at gg
              clear hT hr hT2 hmost hov hg hz
              subst hA
              exact of_decide_eq_true (show decide (T2 - 53 < -1074) = true from gg)
            clear gg
            obtain ⟨g1, g2, g3, g4, g5, g6, g7, g8, g9⟩ := hg h0 hover
            have hgv : g = -1074 := by rw [g1]; omega
            have f6 : A.sub .i64 ex (-1074) = ex - g := by rw [hgv]; subst hA; exact wrapi (by omega) (by omega)
            rw [g3, g4, g5, g6, hfv]
            rw [← hgv] at f6
            iterate 2 (all_goals try cbv; all_goals repeat' (first | with_reducible exact True.intro | with_reducible refine And.intro ?_ ?_ | intro _))
            all_goals try exact oH
            all_goals try simp only [f2, f5, ← hgv]
            all_goals try simp only [f6]
            first | (refine callS hA rfl (g8 P C) ?_; rintro _ rfl) | refine ⟨_, g8 P C, ?_⟩
            iterate 2 (all_goals try cbv; all_goals repeat' (first | with_reducible exact True.intro | with_reducible refine And.intro ?_ ?_ | intro _))
            all_goals try exact oH
            first | (refine callS hA rfl (g9 P C) ?_; rintro _ rfl) | refine ⟨_, g9 P C, ?_⟩
            iterate 2 (all_goals try cbv; all_goals repeat' (first | with_reducible exact True.intro | with_reducible refine And.intro ?_ ?_ | intro _))
            all_goals try exact oH
            all_goals try simp only [f2, f5, ← hgv]
            all_goals try rw [g2]
          · rename_i gg
            have hlo2 : ¬(T2 - 53 < -1074) := by
              try simp only [f2, f5] at gg
              clear hT hr hT2 hmost hov hg hz
              subst hA
              exact of_decide_eq_false (show decide (T2 - 53 < -1074) = false from gg)
            clear gg
            obtain ⟨g1, g2, g3, g4, g5, g6, g7, g8, g9⟩ := hg h0 hover
            have hgv : g = T2 - 53 := by rw [g1]; omega
            have f6 : A.sub .i64 ex (T2 - 53) = ex - g := by rw [hgv]; subst hA; exact wrapi (by omega) (by omega)
            rw [g3, g4, g5, g6, hfv]
            rw [← hgv] at f6
            iterate 2 (all_goals try cbv; all_goals repeat' (first | with_reducible exact True.intro | with_reducible refine And.intro ?_ ?_ | intro _))
            all_goals try exact oH
            all_goals try simp only [f2, f5, ← hgv]
            all_goals try simp only [f6]
            first | (refine callS hA rfl (g8 P C) ?_; rintro _ rfl) | refine ⟨_, g8 P C, ?_⟩
            iterate 2 (all_goals try cbv; all_goals repeat' (first | with_reducible exact True.intro | with_reducible refine And.intro ?_ ?_ | intro _))
            all_goals try exact oH
            first | (refine callS hA rfl (g9 P C) ?_; rintro _ rfl) | refine ⟨_, g9 P C, ?_⟩
            iterate 2 (all_goals try cbv; all_goals repeat' (first | with_reducible exact True.intro | with_reducible refine And.intro ?_ ?_ | intro _))
            all_goals try exact oH
            all_goals try simp only [f2, f5, ← hgv]
            all_goals try rw [g2]
    · rename_i gg
      have hsame : same = true := by cases same <;> first | rfl | (exfalso; clear hT hr hT2 hmost hov hg hz hfl; subst hA; exact absurd gg (by decide))
      clear gg
      have hfv : fl1 = 0 := by rw [hfl, fl0, if_pos hsame]
      all_goals try cbv
      all_goals repeat' (first | with_reducible exact True.intro | with_reducible refine And.intro ?_ ?_ | intro _)
      all_goals try exact oH
      all_goals try simp only [f2, f4, f5]
      · rename_i gg
        have h0 : px.length = 0 := by
          clear hT hr hT2 hmost hov hg hz
          subst hA
          have := of_decide_eq_true (show decide (((px.length : Nat) : Int) = 0) = true by rw [← gg]; exact (eq_dec (x := ((px.length : Nat) : Int)) (y := 0)).symm)
          omega
        obtain ⟨e1, e2, e3, e4⟩ := hz h0
        rw [e1, e2, e3, e4, hfv]
        iterate 2 (all_goals try cbv; all_goals repeat' (first | with_reducible exact True.intro | with_reducible refine And.intro ?_ ?_ | intro _))
        all_goals try exact oH
      · rename_i gg
        have h0 : px.length ≠ 0 := by
          clear hT hr hT2 hmost hov hg hz
          subst hA
          have := of_decide_eq_false (show decide (((px.length : Nat) : Int) = 0) = false by rw [← gg]; exact (eq_dec (x := ((px.length : Nat) : Int)) (y := 0)).symm)
          omega
        clear gg
        iterate 2 (all_goals try cbv; all_goals repeat' (first | with_reducible exact True.intro | with_reducible refine And.intro ?_ ?_ | intro _))
        all_goals try exact oH
        first | (refine callS hA rfl (hT2 P C) ?_; rintro _ rfl) | refine ⟨_, hT2 P C, ?_⟩
        all_goals try cbv
        all_goals repeat' (first | with_reducible exact True.intro | with_reducible refine And.intro ?_ ?_ | intro _)
        all_goals try exact oH
        · rename_i gg
          have hover : (1024 < T2) := by
            try simp only [f2, f5] at gg
            clear hT hr hT2 hmost hov hg hz
            subst hA
            exact of_decide_eq_true (show decide (1024 < T2) = true from gg)
          clear gg
          obtain ⟨o1, o2, o3⟩ := hov h0 hover
          all_goals try cbv
          all_goals repeat' (first | with_reducible exact True.intro | with_reducible refine And.intro ?_ ?_ | intro _)
          all_goals try exact oH
          all_goals try (first | (cbv; done) | (cbv; exact True.intro) | (cbv; exact beq_ff hA (by assumption)) | (cbv; exact andb_ff hA (by assumption) (by assumption)))
          · rename_i gg
            obtain ⟨e1, e2, e3⟩ := o2 (by rw [← fo]; exact gg)
            rw [e1, e2, e3, o1]
            iterate 2 (all_goals try cbv; all_goals repeat' (first | with_reducible exact True.intro | with_reducible refine And.intro ?_ ?_ | intro _))
            all_goals try exact oH
            first | (refine callS hA rfl (hmost P C) ?_; rintro _ rfl) | refine ⟨_, hmost P C, ?_⟩
            iterate 2 (all_goals try cbv; all_goals repeat' (first | with_reducible exact True.intro | with_reducible refine And.intro ?_ ?_ | intro _))
            all_goals try exact oH
          · rename_i gg
            obtain ⟨e1, e2, e3⟩ := o3 (by rw [← fo]; exact gg)
            rw [e1, e2, e3, o1]
            iterate 2 (all_goals try cbv; all_goals repeat' (first | with_reducible exact True.intro | with_reducible refine And.intro ?_ ?_ | intro _))
            all_goals try exact oH
        · rename_i gg
          have hover0 : ¬(1024 < T2) := by
            try simp only [f2, f5] at gg
            clear hT hr hT2 hmost hov hg hz
            subst hA
            exact of_decide_eq_false (show decide (1024 < T2) = false from gg)
          have hover : T2 ≤ 1024 := by omega
          clear gg
          iterate 2 (all_goals try cbv; all_goals repeat' (first | with_reducible exact True.intro | with_reducible refine And.intro ?_ ?_ | intro _))
          all_goals try exact oH
          first | (refine callS hA rfl (hT2 P C) ?_; rintro _ rfl) | refine ⟨_, hT2 P C, ?_⟩
          all_goals try cbv
          all_goals repeat' (first | with_reducible exact True.intro | with_reducible refine And.intro ?_ ?_ | intro _)
          all_goals try exact oH
          · rename_i gg
            have hlo2 : (T2 - 53 < -1074) := by
              try simp only [f2, f5] at gg
              clear hT hr hT2 hmost hov hg hz
              subst hA
              exact of_decide_eq_true (show decide (T2 - 53 < -1074) = true from gg)
            clear gg
            obtain ⟨g1, g2, g3, g4, g5, g6, g7, g8, g9⟩ := hg h0 hover
            have hgv : g = -1074 := by rw [g1]; omega
            have f6 : A.sub .i64 ex (-1074) = ex - g := by rw [hgv]; subst hA; exact wrapi (by omega) (by omega)
            rw [g3, g4, g5, g6, hfv]
            rw [← hgv] at f6
            iterate 2 (all_goals try cbv; all_goals repeat' (first | with_reducible exact True.intro | with_reducible refine And.intro ?_ ?_ | intro _))
            all_goals try exact oH
            all_goals try simp only [f2, f5, ← hgv]
            all_goals try simp only [f6]
            first | (refine callS hA rfl (g8 P C) ?_; rintro _ rfl) | refine ⟨_, g8 P C, ?_⟩
            iterate 2 (all_goals try cbv; all_goals repeat' (first | with_reducible exact True.intro | with_reducible refine And.intro ?_ ?_ | intro _))
            all_goals try exact oH
            first | (refine callS hA rfl (g9 P C) ?_; rintro _ rfl) | refine ⟨_, g9 P C, ?_⟩
            iterate 2 (all_goals try cbv; all_goals repeat' (first | with_reducible exact True.intro | with_reducible refine And.intro ?_ ?_ | intro _))
            all_goals try exact oH
            all_goals try simp only [f2, f5, ← hgv]
            all_goals try rw [g2]
          · rename_i gg
            have hlo2 : ¬(T2 - 53 < -1074) := by
              try simp only [f2, f5] at gg
              clear hT hr hT2 hmost hov hg hz
              subst hA
              exact of_decide_eq_false (show decide (T2 - 53 < -1074) = false from gg)
            clear gg
            obtain ⟨g1, g2, g3, g4, g5, g6, g7, g8, g9⟩ := hg h0 hover
            have hgv : g = T2 - 53 := by rw [g1]; omega
            have f6 : A.sub .i64 ex (T2 - 53) = ex - g := by rw [hgv]; subst hA; exact wrapi (by omega) (by omega)
            rw [g3, g4, g5, g6, hfv]
            rw [← hgv] at f6
            iterate 2 (all_goals try cbv; all_goals repeat' (first | with_reducible exact True.intro | with_reducible refine And.intro ?_ ?_ | intro _))
            all_goals try exact oH
            all_goals try simp only [f2, f5, ← hgv]
            all_goals try simp only [f6]
            first | (refine callS hA rfl (g8 P C) ?_; rintro _ rfl) | refine ⟨_, g8 P C, ?_⟩
            iterate 2 (all_goals try cbv; all_goals repeat' (first | with_reducible exact True.intro | with_reducible refine And.intro ?_ ?_ | intro _))
            all_goals try exact oH
            first | (refine callS hA rfl (g9 P C) ?_; rintro _ rfl) | refine ⟨_, g9 P C, ?_⟩
            iterate 2 (all_goals try cbv; all_goals repeat' (first | with_reducible exact True.intro | with_reducible refine And.intro ?_ ?_ | intro _))
            all_goals try exact oH
            all_goals try simp only [f2, f5, ← hgv]
            all_goals try rw [g2]

end Tryd
end Go.Proofs
