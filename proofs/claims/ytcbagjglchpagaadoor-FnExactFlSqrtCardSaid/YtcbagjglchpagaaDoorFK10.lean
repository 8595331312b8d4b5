/- Contracts: FlDiv in the program, all its branches. -/
import Derived.Test.YtcbagjglchpagaaDoorFK9
namespace Go.Proofs
open Go Go.Pe Go.Dg
namespace Tryd
set_option linter.unusedSimpArgs false
set_option linter.unusedVariables false
variable {P : Program} {gl : List (Nat × Obj)}

set_option maxHeartbeats 4000000 in
set_option maxRecDepth 100000 in
theorem implFlDiv_walk (C : Cx P gl) {k1 m1 e1 k2 m2 e2 mode k m e fl T1 T2 lw ea eb g : Int} {s1 s2 ok s neg c1 c2 c4 u1 u2 u : Bool} {p1 p2 p : List PV} (hok : ∀ (P' : Program) (C' : Cx P' gl), FS P' gl 35 [I mode, .lst [.agg [I k1, B s1, I m1, I e1], .agg [I k2, B s2, I m2, I e2]]] (· = B ok))
    (hkd : ∀ (P' : Program) (C' : Cx P' gl), FS P' gl 45 [I 3, .agg [I k1, B s1, I m1, I e1], .agg [I k2, B s2, I m2, I e2]] (· = B c1))
    (hc2 : c2 = (decide (k1 = k2) && k1 != 1)) (hc1 : c1 = (decide (k1 = 3) || decide (k2 = 3))) (hc4 : c4 = (decide (k2 = 2) || decide (k1 = 0))) (hneg : neg = (s1 != s2))
    (h1 : ok = false → k = 3 ∧ s = false ∧ m = 0 ∧ e = 0 ∧ fl = 16) (h2 : ok = true → c1 = true → k = 3 ∧ s = false ∧ m = 0 ∧ e = 0 ∧ fl = 0) (h3 : ok = true → c1 = false → c2 = true → k = 3 ∧ s = false ∧ m = 0 ∧ e = 0 ∧ fl = 16)
    (h4 : ok = true → c1 = false → c2 = false → k1 = 2 → k = 2 ∧ s = neg ∧ m = 0 ∧ e = 0 ∧ fl = 0) (h5 : ok = true → c1 = false → c2 = false → k1 ≠ 2 → c4 = true → k = 0 ∧ s = neg ∧ m = 0 ∧ e = 0 ∧ fl = 0)
    (h6 : ok = true → c1 = false → c2 = false → k1 ≠ 2 → c4 = false → k2 = 0 → k = 2 ∧ s = neg ∧ m = 0 ∧ e = 0 ∧ fl = 8)
    (h7 : ok = true → c1 = false → c2 = false → k1 ≠ 2 → c4 = false → k2 ≠ 0 → (∀ (P' : Program) (C' : Cx P' gl), FS P' gl 37 [.agg [I k1, B s1, I m1, I e1]] (· = .agg [B u1, .lst p1, I ea])) ∧ (∀ (P' : Program) (C' : Cx P' gl), FS P' gl 37 [.agg [I k2, B s2, I m2, I e2]] (· = .agg [B u2, .lst p2, I eb])) ∧
      (∀ (P' : Program) (C' : Cx P' gl), FS P' gl 48 [.agg [B u1, .lst p1, I ea], .agg [B u2, .lst p2, I eb], I mode] (· = .tup [.agg [I k, B s, I m, I e], I fl]))) :
    FS P gl 12 [.agg [I k1, B s1, I m1, I e1], .agg [I k2, B s2, I m2, I e2], I mode] (· = .tup [.agg [I k, B s, I m, I e], I fl]) := by
  obtain ⟨rfl, hG⟩ := C
  refine FS_ofT (args := fun A => [.agg [I k1, B s1, I m1, I e1], .agg [I k2, B s2, I m2, I e2], I mode]) (R := fun A rr => rr = .tup [.agg [I k, B s, I m, I e], I fl]) Tryd.hT Tryd.mix Tryd.func12 rfl rfl (Nat.le_of_ble_eq_true rfl) ?_
  generalize hP : Tryd.prog = P
  intro A hA
  have C : Tryd.Cx P gl := ⟨hP.symm, hG⟩
  have hI : intsL = A.ints := by subst hA; rfl
  have hbs : A.bnot (A.beq s1 s2) = neg := by
    clear h1 h2 h3 h4 h5 h6 h7 hok hkd; rw [hneg]; subst hA; rfl
  have f2 : A.pick (A.eq k1 k2) (A.ne k1 1) false = c2 := by
    clear h1 h2 h3 h4 h5 h6 h7 hok hkd; rw [hc2]; subst hA; rw [pick_and, eq_dec]; rfl
  have f4 : A.pick (A.eq k2 2) true (A.eq k1 0) = c4 := by
    clear h1 h2 h3 h4 h5 h6 h7 hok hkd; rw [hc4]; subst hA; rw [pick_or, eq_dec, eq_dec]
  clear hc1 hc2 hc4 hneg
  iterate 2 (all_goals try cbv; all_goals repeat' (first | with_reducible exact True.intro | with_reducible refine And.intro ?_ ?_ | intro _))
  all_goals try exact oH
  · subst hA; intro q1 hq1; simp only [List.mem_cons, List.not_mem_nil, or_false] at hq1; rcases hq1 with rfl | rfl <;> exact ⟨rfl, rfl⟩
  first | (refine callS hA rfl (hok P C) ?_; rintro _ rfl) | refine ⟨_, hok P C, ?_⟩
  all_goals try cbv
  all_goals repeat' (first | with_reducible exact True.intro | with_reducible refine And.intro ?_ ?_ | intro _)
  all_goals try exact oH
  · rename_i gg
    have g0 : ok = false := ok_t hA gg
    obtain ⟨x1, x2, x3, x4, x5⟩ := h1 g0
    rw [x1, x2, x3, x4, x5]
    clear gg
    iterate 2 (all_goals try cbv; all_goals repeat' (first | with_reducible exact True.intro | with_reducible refine And.intro ?_ ?_ | intro _))
    all_goals try exact oH
    first | (refine callS hA rfl (nan_fs C) ?_; rintro _ rfl) | refine ⟨_, nan_fs C, ?_⟩
    iterate 2 (all_goals try cbv; all_goals repeat' (first | with_reducible exact True.intro | with_reducible refine And.intro ?_ ?_ | intro _))
    all_goals try exact oH
    all_goals try simp only [hbs]
    iterate 2 (all_goals try cbv; all_goals repeat' (first | with_reducible exact True.intro | with_reducible refine And.intro ?_ ?_ | intro _))
    all_goals try exact oH
  · rename_i gg
    have g0 : ok = true := ok_f hA gg
    clear gg
    iterate 2 (all_goals try cbv; all_goals repeat' (first | with_reducible exact True.intro | with_reducible refine And.intro ?_ ?_ | intro _))
    all_goals try exact oH
    first | (refine callS hA rfl (hkd P C) ?_; rintro _ rfl) | refine ⟨_, hkd P C, ?_⟩
    all_goals try cbv
    all_goals repeat' (first | with_reducible exact True.intro | with_reducible refine And.intro ?_ ?_ | intro _)
    all_goals try exact oH
    · rename_i gg
      have g1 : c1 = true := gg
      obtain ⟨x1, x2, x3, x4, x5⟩ := h2 g0 g1
      rw [x1, x2, x3, x4, x5]
      clear gg
      iterate 2 (all_goals try cbv; all_goals repeat' (first | with_reducible exact True.intro | with_reducible refine And.intro ?_ ?_ | intro _))
      all_goals try exact oH
      first | (refine callS hA rfl (nan_fs C) ?_; rintro _ rfl) | refine ⟨_, nan_fs C, ?_⟩
      iterate 2 (all_goals try cbv; all_goals repeat' (first | with_reducible exact True.intro | with_reducible refine And.intro ?_ ?_ | intro _))
      all_goals try exact oH
      all_goals try simp only [hbs]
      iterate 2 (all_goals try cbv; all_goals repeat' (first | with_reducible exact True.intro | with_reducible refine And.intro ?_ ?_ | intro _))
      all_goals try exact oH
    · rename_i gg
      have g1 : c1 = false := gg
      clear gg
      all_goals try cbv
      all_goals repeat' (first | with_reducible exact True.intro | with_reducible refine And.intro ?_ ?_ | intro _)
      all_goals try exact oH
      all_goals try (first | (cbv; done) | (cbv; exact True.intro) | (cbv; exact beq_ff hA (by assumption)) | (cbv; exact beq_tt hA (by assumption)) | (cbv; exact andb_ff hA (by assumption) (by assumption)))
      · rename_i gg
        have g2 : c2 = true := by rw [← f2]; exact gg
        obtain ⟨x1, x2, x3, x4, x5⟩ := h3 g0 g1 g2
        rw [x1, x2, x3, x4, x5]
        clear gg
        iterate 2 (all_goals try cbv; all_goals repeat' (first | with_reducible exact True.intro | with_reducible refine And.intro ?_ ?_ | intro _))
        all_goals try exact oH
        first | (refine callS hA rfl (nan_fs C) ?_; rintro _ rfl) | refine ⟨_, nan_fs C, ?_⟩
        iterate 2 (all_goals try cbv; all_goals repeat' (first | with_reducible exact True.intro | with_reducible refine And.intro ?_ ?_ | intro _))
        all_goals try exact oH
        all_goals try simp only [hbs]
        iterate 2 (all_goals try cbv; all_goals repeat' (first | with_reducible exact True.intro | with_reducible refine And.intro ?_ ?_ | intro _))
        all_goals try exact oH
      · rename_i gg
        have g2 : c2 = false := by rw [← f2]; exact gg
        clear gg
        all_goals try cbv
        all_goals repeat' (first | with_reducible exact True.intro | with_reducible refine And.intro ?_ ?_ | intro _)
        all_goals try exact oH
        · rename_i gg
          have g3 : k1 = 2 := eq_tt hA gg
          obtain ⟨x1, x2, x3, x4, x5⟩ := h4 g0 g1 g2 g3
          rw [x1, x2, x3, x4, x5]
          clear gg
          iterate 2 (all_goals try cbv; all_goals repeat' (first | with_reducible exact True.intro | with_reducible refine And.intro ?_ ?_ | intro _))
          all_goals try exact oH
          all_goals try simp only [hbs]
          first | (refine callS hA rfl (infinity_fs C) ?_; rintro _ rfl) | refine ⟨_, infinity_fs C, ?_⟩
          iterate 2 (all_goals try cbv; all_goals repeat' (first | with_reducible exact True.intro | with_reducible refine And.intro ?_ ?_ | intro _))
          all_goals try exact oH
          all_goals try simp only [hbs]
          iterate 2 (all_goals try cbv; all_goals repeat' (first | with_reducible exact True.intro | with_reducible refine And.intro ?_ ?_ | intro _))
          all_goals try exact oH
        · rename_i gg
          have g3 : k1 ≠ 2 := eq_ff hA gg
          clear gg
          all_goals try cbv
          all_goals repeat' (first | with_reducible exact True.intro | with_reducible refine And.intro ?_ ?_ | intro _)
          all_goals try exact oH
          all_goals try (first | (cbv; done) | (cbv; exact True.intro) | (cbv; exact beq_ff hA (by assumption)) | (cbv; exact beq_tt hA (by assumption)) | (cbv; exact andb_ff hA (by assumption) (by assumption)))
          · rename_i gg
            have g4 : c4 = true := by rw [← f4]; exact gg
            obtain ⟨x1, x2, x3, x4, x5⟩ := h5 g0 g1 g2 g3 g4
            rw [x1, x2, x3, x4, x5]
            clear gg
            iterate 2 (all_goals try cbv; all_goals repeat' (first | with_reducible exact True.intro | with_reducible refine And.intro ?_ ?_ | intro _))
            all_goals try exact oH
            all_goals try simp only [hbs]
            first | (refine callS hA rfl (zero_fs C) ?_; rintro _ rfl) | refine ⟨_, zero_fs C, ?_⟩
            iterate 2 (all_goals try cbv; all_goals repeat' (first | with_reducible exact True.intro | with_reducible refine And.intro ?_ ?_ | intro _))
            all_goals try exact oH
            all_goals try simp only [hbs]
            iterate 2 (all_goals try cbv; all_goals repeat' (first | with_reducible exact True.intro | with_reducible refine And.intro ?_ ?_ | intro _))
            all_goals try exact oH
          · rename_i gg
            have g4 : c4 = false := by rw [← f4]; exact gg
            clear gg
            all_goals try cbv
            all_goals repeat' (first | with_reducible exact True.intro | with_reducible refine And.intro ?_ ?_ | intro _)
            all_goals try exact oH
            · rename_i gg
              have g5 : k2 = 0 := eq_tt hA gg
              obtain ⟨x1, x2, x3, x4, x5⟩ := h6 g0 g1 g2 g3 g4 g5
              rw [x1, x2, x3, x4, x5]
              clear gg
              iterate 2 (all_goals try cbv; all_goals repeat' (first | with_reducible exact True.intro | with_reducible refine And.intro ?_ ?_ | intro _))
              all_goals try exact oH
              all_goals try simp only [hbs]
              first | (refine callS hA rfl (infinity_fs C) ?_; rintro _ rfl) | refine ⟨_, infinity_fs C, ?_⟩
              iterate 2 (all_goals try cbv; all_goals repeat' (first | with_reducible exact True.intro | with_reducible refine And.intro ?_ ?_ | intro _))
              all_goals try exact oH
              all_goals try simp only [hbs]
              iterate 2 (all_goals try cbv; all_goals repeat' (first | with_reducible exact True.intro | with_reducible refine And.intro ?_ ?_ | intro _))
              all_goals try exact oH
            · rename_i gg
              have g5 : k2 ≠ 0 := eq_ff hA gg
              clear gg
              obtain ⟨hd1, hd2, hq⟩ := h7 g0 g1 g2 g3 g4 g5
              iterate 2 (all_goals try cbv; all_goals repeat' (first | with_reducible exact True.intro | with_reducible refine And.intro ?_ ?_ | intro _))
              all_goals try exact oH
              first | (refine callS hA rfl (hd1 P C) ?_; rintro _ rfl) | refine ⟨_, hd1 P C, ?_⟩
              iterate 2 (all_goals try cbv; all_goals repeat' (first | with_reducible exact True.intro | with_reducible refine And.intro ?_ ?_ | intro _))
              all_goals try exact oH
              first | (refine callS hA rfl (hd2 P C) ?_; rintro _ rfl) | refine ⟨_, hd2 P C, ?_⟩
              iterate 2 (all_goals try cbv; all_goals repeat' (first | with_reducible exact True.intro | with_reducible refine And.intro ?_ ?_ | intro _))
              all_goals try exact oH
              first | (refine callS hA rfl (hq P C) ?_; rintro _ rfl) | refine ⟨_, hq P C, ?_⟩
              iterate 2 (all_goals try cbv; all_goals repeat' (first | with_reducible exact True.intro | with_reducible refine And.intro ?_ ?_ | intro _))
              all_goals try exact oH

end Tryd
end Go.Proofs
