/- Contracts: the float of a number, in the program: one of its cases. -/
import Derived.Test.YtcbagjglchpagaaDoorFK4l
namespace Go.Proofs
open Go Go.Pe Go.Dg
namespace Tryd
set_option linter.unusedSimpArgs false
set_option linter.unusedVariables false
variable {P : Program} {gl : List (Nat × Obj)}

set_option maxHeartbeats 8000000 in
set_option maxRecDepth 100000 in
theorem floatOf3_walk_o (C : Cx P gl) {f : FuncId} {a0 a1 a2 : List PV} {neg same sx sy zb : Bool} {T mode low ex ey T2 g m fl fl1 : Int} {k' m' e' : Int} {px py pm : List PV} {n : Nat}
    (hTb : T.natAbs ≤ 100000) (hlow : low = max (T - 53) (-1074))
    (hr : ∀ (P' : Program) (C' : Cx P' gl), FS P' gl f [I low, .ptr a0 0, .ptr a1 0, .ptr a2 0] (· = .tup [.agg [B sx, .lst px, I ex], B same]))
    (hodd : ∀ (P' : Program) (C' : Cx P' gl), FS P' gl 84 [.agg [B sx, .lst px, I ex]] (· = .agg [B sy, .lst py, I ey]))
    (hzr : ∀ (P' : Program) (C' : Cx P' gl), FS P' gl 85 [.agg [B sy, .lst py, I ey]] (· = B zb)) (hzb : zb = true ↔ py.length = 0)
    (hfl : fl1 = fl0 same T) (hz : py.length = 0 → k' = 0 ∧ m' = 0 ∧ e' = 0 ∧ fl = fl1)
    (hT2 : ∀ (P' : Program) (C' : Cx P' gl), FS P' gl 39 [.agg [B sy, .lst py, I ey]] (· = I T2)) (hTb2 : T2.natAbs ≤ 100000)
    (hov : py.length ≠ 0 → 1024 < T2 → fl = 3 ∧ True) (hovf : py.length ≠ 0 → 1024 < T2 → ∀ (P' : Program) (C' : Cx P' gl), FS P' gl 86 [B neg, I mode] (· = .tup [.agg [I k', B neg, I m', I e'], I 3]))
    (hg : py.length ≠ 0 → T2 ≤ 1024 → g = max (T2 - 53) (-1074) ∧ k' = 1 ∧ m' = m ∧ e' = g ∧ fl = fl1 ∧ (ey - g).natAbs ≤ 100000 ∧
      (∀ (P' : Program) (C' : Cx P' gl), FS P' gl 87 [.lst py, I (ey - g)] (· = .lst pm)) ∧ m = (n : Int) ∧ n < 9007199254740992 ∧ pm = intsL (dg n))
    (hex : ey.natAbs ≤ 100000) (hsame : same = false) (hund : ¬(T ≤ -1022)) :
    FS P gl 38 [B neg, I T, I mode, .fn f [.ptr a0 0, .ptr a1 0, .ptr a2 0]] (· = .tup [.agg [I k', B neg, I m', I e'], I fl]) := by
  obtain ⟨rfl, hG⟩ := C
  refine FS_ofT (args := fun A => [B neg, I T, I mode, .fn f [.ptr a0 0, .ptr a1 0, .ptr a2 0]]) (R := fun A rr => rr = .tup [.agg [I k', B neg, I m', I e'], I fl]) Tryd.hT Tryd.mix Tryd.func38 rfl rfl (Nat.le_of_ble_eq_true rfl) ?_
  generalize hP : Tryd.prog = P
  intro A hA
  have C : Tryd.Cx P gl := ⟨hP.symm, hG⟩
  have hI : intsL = A.ints := by subst hA; rfl
  have f2 : A.sub .i64 T 53 = T - 53 := by subst hA; exact wrapi (by omega) (by omega)
  have f5 : A.sub .i64 T2 53 = T2 - 53 := by subst hA; exact wrapi (by omega) (by omega)
  have f4 : A.bor .i64 1 4 = 5 := by subst hA; rfl
  have f3 : A.max (T - 53) (-1074) = low := by rw [hlow]; subst hA; show (if -1074 > T - 53 then -1074 else T - 53) = _; split <;> omega
  have f7 : A.max (A.sub .i64 T 53) (-1074) = low := by rw [f2, f3]
  iterate 2 (all_goals try cbv; all_goals repeat' (first | with_reducible exact True.intro | with_reducible refine And.intro ?_ ?_ | intro _))
  all_goals try exact oH
  all_goals try simp only [f7]
  first | (refine callS hA rfl (hr P C) ?_; rintro _ rfl) | refine ⟨_, hr P C, ?_⟩
  all_goals try cbv
  all_goals repeat' (first | with_reducible exact True.intro | with_reducible refine And.intro ?_ ?_ | intro _)
  all_goals try exact oH
  rename_i gg
  clear gg
  all_goals try cbv
  all_goals repeat' (first | with_reducible exact True.intro | with_reducible refine And.intro ?_ ?_ | intro _)
  all_goals try exact oH
  rename_i gg
  clear gg
  have hfv : fl1 = 1 := by rw [hfl, fl0, if_neg (by rw [hsame]; decide), if_neg (by omega)]
  iterate 2 (all_goals try cbv; all_goals repeat' (first | with_reducible exact True.intro | with_reducible refine And.intro ?_ ?_ | intro _))
  all_goals try exact oH
  all_goals try simp only [f2, f3, f4, f5, f7]
  first | (refine callS hA rfl (hodd P C) ?_; rintro _ rfl) | refine ⟨_, hodd P C, ?_⟩
  iterate 2 (all_goals try cbv; all_goals repeat' (first | with_reducible exact True.intro | with_reducible refine And.intro ?_ ?_ | intro _))
  all_goals try exact oH
  first | (refine callS hA rfl (hzr P C) ?_; rintro _ rfl) | refine ⟨_, hzr P C, ?_⟩
  iterate 2 (all_goals try cbv; all_goals repeat' (first | with_reducible exact True.intro | with_reducible refine And.intro ?_ ?_ | intro _))
  all_goals try exact oH
  · rename_i gg
    have h0 : py.length = 0 := hzb.1 gg
    obtain ⟨e1, e2, e3, e4⟩ := hz h0
    rw [e1, e2, e3, e4, hfv]
    iterate 2 (all_goals try cbv; all_goals repeat' (first | with_reducible exact True.intro | with_reducible refine And.intro ?_ ?_ | intro _))
    all_goals try exact oH
    first | (refine callS hA rfl (zero_fs C) ?_; rintro _ rfl) | refine ⟨_, zero_fs C, ?_⟩
    iterate 2 (all_goals try cbv; all_goals repeat' (first | with_reducible exact True.intro | with_reducible refine And.intro ?_ ?_ | intro _))
    all_goals try exact oH
  · rename_i gg
    have h0 : py.length ≠ 0 := fun h => by rw [hzb.2 h] at gg; cases gg
    clear gg
    iterate 2 (all_goals try cbv; all_goals repeat' (first | with_reducible exact True.intro | with_reducible refine And.intro ?_ ?_ | intro _))
    all_goals try exact oH
    first | (refine callS hA rfl (hT2 P C) ?_; rintro _ rfl) | refine ⟨_, hT2 P C, ?_⟩
    iterate 2 (all_goals try cbv; all_goals repeat' (first | with_reducible exact True.intro | with_reducible refine And.intro ?_ ?_ | intro _))
    all_goals try exact oH
    · rename_i gg
      have hover : (1024 < T2) := by
        try simp only [f2, f5] at gg
        clear hr hodd hT2 hov hg hz hovf hzr
        subst hA
        exact of_decide_eq_true (show decide (1024 < T2) = true from gg)
      clear gg
      obtain ⟨o1, o2⟩ := hov h0 hover
      have ho := hovf h0 hover
      rw [o1]
      iterate 2 (all_goals try cbv; all_goals repeat' (first | with_reducible exact True.intro | with_reducible refine And.intro ?_ ?_ | intro _))
      all_goals try exact oH
      first | (refine callS hA rfl (ho P C) ?_; rintro _ rfl) | refine ⟨_, ho P C, ?_⟩
      iterate 2 (all_goals try cbv; all_goals repeat' (first | with_reducible exact True.intro | with_reducible refine And.intro ?_ ?_ | intro _))
      all_goals try exact oH
    · rename_i gg
      have hover0 : ¬(1024 < T2) := by
        try simp only [f2, f5] at gg
        clear hr hodd hT2 hov hg hz hovf hzr
        subst hA
        exact of_decide_eq_false (show decide (1024 < T2) = false from gg)
      have hover : T2 ≤ 1024 := by omega
      clear gg
      obtain ⟨g1, g2, g3, g4, g5, g6, g7, g8, g9, g10⟩ := hg h0 hover
      rw [g2, g3, g4, g5, hfv]
      have f8 : A.max (A.sub .i64 T2 53) (-1074) = g := by rw [f5, g1]; subst hA; show (if -1074 > T2 - 53 then -1074 else T2 - 53) = _; split <;> omega
      have f9 : A.sub .i64 ey g = ey - g := by subst hA; exact wrapi (by omega) (by omega)
      have hl4 : (dg n).length ≤ 4 := dg_len_le 4 n (Nat.lt_of_lt_of_le g9 (by decide))
      have hvd := valid_dg n
      have hvl := val_dg n
      obtain ⟨l, hl'⟩ : ∃ l, l = dg n := ⟨_, rfl⟩
      rw [← hl'] at g10 hl4 hvd hvl
      clear hl'
      iterate 2 (all_goals try cbv; all_goals repeat' (first | with_reducible exact True.intro | with_reducible refine And.intro ?_ ?_ | intro _))
      all_goals try exact oH
      first | (refine callS hA rfl (hT2 P C) ?_; rintro _ rfl) | refine ⟨_, hT2 P C, ?_⟩
      iterate 2 (all_goals try cbv; all_goals repeat' (first | with_reducible exact True.intro | with_reducible refine And.intro ?_ ?_ | intro _))
      all_goals try exact oH
      all_goals try simp only [f8]
      iterate 2 (all_goals try cbv; all_goals repeat' (first | with_reducible exact True.intro | with_reducible refine And.intro ?_ ?_ | intro _))
      all_goals try exact oH
      all_goals try simp only [f8]
      all_goals try simp only [f9]
      first | (refine callS hA rfl (g7 P C) ?_; rintro _ rfl) | refine ⟨_, g7 P C, ?_⟩
      iterate 2 (all_goals try cbv; all_goals repeat' (first | with_reducible exact True.intro | with_reducible refine And.intro ?_ ?_ | intro _))
      all_goals try exact oH
      all_goals try simp only [f8]
      refine loopI hA [] (ι := Int × Int) (fun x => [(14, .pv (I x.2)), (60, .pv (I x.1))]) (fun x => []) (fun x => (l.length - x.1).toNat) (fun x => 0 ≤ x.1 ∧ x.1 ≤ l.length ∧ x.2 = val (l.take x.1.toNat)) (0, 0) (by rfl) ?_ ?_ ?_
      all_goals try exact tH
      · exact ⟨Int.le_refl _, by omega, rfl⟩
      rintro ⟨i, w⟩ ⟨hi0, hi1, hw⟩
      simp only at hi0 hi1 hw
      have hstep : ∀ _ : Unit, i < l.length → A.bor .i64 w (A.shl .i64 (A.gi (A.el pm (A.nat i)) 0) (A.mul .i64 16 i)) = val (l.take (i + 1).toNat) ∧ i + 1 ≤ l.length ∧ i.toNat < l.length := by
        intro _ h
        refine ⟨?_, by omega, by omega⟩
        have hel : A.gi (A.el pm (A.nat i)) 0 = l.getD i.toNat 0 := by
          rw [g10]; subst hA
          show getI ((intsL l).getD i.toNat D0) 0 = _
          rw [ints_get l i.toNat (by omega)]; rfl
        rw [hel]
        subst hA
        exact orStep hvd hvl g9 hl4 hi0 h hw rfl
      have hob : ∀ _ : Unit, i < l.length → A.len_eq (A.el pm (A.nat i)) 1 ∧ A.len_le 1 (A.el pm (A.nat i)) ∧ A.peq false 0 1 (A.el pm (A.nat i)) (I (A.gi (A.el pm (A.nat i)) 0)) := by
        intro _ h
        have hel : A.el pm (A.nat i) = I (l.getD i.toNat 0) := by
          rw [g10]; subst hA
          show (intsL l).getD i.toNat D0 = _
          rw [ints_get l i.toNat (by omega)]
        rw [hel]
        subst hA
        exact ⟨rfl, Nat.le_refl 1, rfl⟩
      have hdone : i.toNat = l.length → w = m := fun h => by rw [hw, h, List.take_length, hvl, g8]
      have hlt : ∀ _ : Unit, A.lt i (A.cast (A.len pm)) = true → i < l.length := by
        intro _ h; clear hstep hdone hr hodd hT2 hov hg hz hovf hzr; subst hA; rw [g10] at h; have := of_decide_eq_true (show decide (i < (((intsL l).length : Nat) : Int)) = true from h); rw [ints_len] at this; exact this
      have hge : ∀ _ : Unit, A.lt i (A.cast (A.len pm)) = false → i.toNat = l.length := by
        intro _ h; clear hstep hdone hr hodd hT2 hov hg hz hovf hzr; subst hA; rw [g10] at h; have := of_decide_eq_false (show decide (i < (((intsL l).length : Nat) : Int)) = false from h); rw [ints_len] at this; omega
      have hpl : pm.length = l.length := by rw [g10, ints_len]
      obtain ⟨v, hv'⟩ : ∃ v, v = val (l.take (i + 1).toNat) := ⟨_, rfl⟩
      rw [← hv'] at hstep
      clear hw g7 g8 g10 hvd hvl hr hodd hT2 hov hg hz hovf hzr hzb hfl
      iterate 2 (all_goals try cbv; all_goals repeat' (first | with_reducible exact True.intro | with_reducible refine And.intro ?_ ?_ | intro _))
      all_goals try exact oH
      · rename_i gg; exact (hob () (hlt () gg)).1
      · rename_i gg; exact (hob () (hlt () gg)).2.1
      · rename_i gg; exact (hob () (hlt () gg)).2.2
      · rename_i gg
        obtain ⟨e1, e2, e3⟩ := hstep () (hlt () gg)
        clear hstep hdone hlt hge hob
        all_goals try simp only [e1]
        obtain ⟨y1, hy1⟩ : ∃ y, y = i + 1 := ⟨_, rfl⟩
        obtain ⟨y2, hy2⟩ : ∃ y, y = v := ⟨_, rfl⟩
        refine ⟨⟨(y1, y2), ?_⟩, ?_, ?_⟩
        rotate_left
        · cbv
          exact nH
        · (subst hA; subst_vars; simp only [AR.std, natCast_eq, sH, reduceCtorEq] at *; try simp (disch := omega) only [AR.std, natCast_eq, sH, reduceCtorEq] at *); omega
        · rw [hy1, hy2]; exact ⟨by simp only; omega, e2, hv'⟩
      · rename_i gg
        rw [hdone (hge () gg)]

end Tryd
end Go.Proofs
