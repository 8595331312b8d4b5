/- Contracts: FlSqrt in the program, all its branches. -/
import Derived.Test.YtcbagjglchpagaaDoorFK9
import Derived.Test.YtcbagjglchpagaaDoorFK1
import Derived.Test.YtcbagjglchpagaaDoorFM61
namespace Go.Proofs
open Go Go.Pe Go.Dg
namespace Tryd
set_option linter.unusedSimpArgs false
set_option linter.unusedVariables false
variable {P : Program} {gl : List (Nat × Obj)}

set_option maxHeartbeats 4000000 in
set_option maxRecDepth 100000 in
theorem sqrt1_fs (C : Cx P gl) {a n r t : Nat} {e low m : Int} {s ex : Bool} {p q : List PV} (hp : p = intsL (dg a)) (hl : (dg a).length ≤ 1000) (he : e.natAbs ≤ 10000) (hlow : low.natAbs ≤ 10000) (hn : n = a * 2 ^ (e - 2 * low).toNat) (hr : r = rtN (n / 2 ^ (-(e - 2 * low)).toNat))
    (ht : t = rrt n (-(e - 2 * low)).toNat r m) (hq : q = intsL (dg t)) (hex : ex = decide (r * r * 2 ^ (-(e - 2 * low)).toNat = n)) :
    FS P gl 40 [I low, .ptr [B s, .lst p, I e] 0, .ptr [I m] 0] (· = .tup [.agg [B false, .lst q, I low], B ex]) := by
  have ov := fun (P' : Program) (C' : Cx P' gl) => exactRoot_fs C' (s := s) hp hl he hlow hn hr ht hq hex
  clear hp hl he hlow hn hr ht hq hex
  obtain ⟨rfl, hG⟩ := C
  refine FS_ofT (args := fun A => [I low, .ptr [B s, .lst p, I e] 0, .ptr [I m] 0]) (R := fun A rr => rr = .tup [.agg [B false, .lst q, I low], B ex]) Tryd.hT Tryd.mix Tryd.func40 rfl rfl (Nat.le_of_ble_eq_true rfl) ?_
  generalize hP : Tryd.prog = P
  intro A hA
  have C : Tryd.Cx P gl := ⟨hP.symm, hG⟩
  have hI : intsL = A.ints := by subst hA; rfl
  iterate 2 (all_goals try cbv; all_goals repeat' (first | with_reducible exact True.intro | with_reducible refine And.intro ?_ ?_ | intro _))
  all_goals try exact oH
  first | (refine callS hA rfl (ov P C) ?_; rintro _ rfl) | refine ⟨_, ov P C, ?_⟩
  iterate 2 (all_goals try cbv; all_goals repeat' (first | with_reducible exact True.intro | with_reducible refine And.intro ?_ ?_ | intro _))
  all_goals try exact oH

set_option maxHeartbeats 4000000 in
set_option maxRecDepth 100000 in
theorem implFlSqrt_walk (C : Cx P gl) {k1 m1 e1 mode k m e fl T1 T2 lw ea g : Int} {s1 ok s c1 u1 u : Bool} {p1 p : List PV} (hok : ∀ (P' : Program) (C' : Cx P' gl), FS P' gl 35 [I mode, .lst [.agg [I k1, B s1, I m1, I e1]]] (· = B ok))
    (hc1 : c1 = (decide (k1 = 3) || decide (k1 = 0)))
    (h1 : ok = false → k = 3 ∧ s = false ∧ m = 0 ∧ e = 0 ∧ fl = 16) (h2 : ok = true → c1 = true → k = k1 ∧ s = s1 ∧ m = m1 ∧ e = e1 ∧ fl = 0) (h3 : ok = true → c1 = false → s1 = true → k = 3 ∧ s = false ∧ m = 0 ∧ e = 0 ∧ fl = 16) (h4 : ok = true → c1 = false → s1 = false → k1 = 2 → k = k1 ∧ s = s1 ∧ m = m1 ∧ e = e1 ∧ fl = 0)
    (h7 : ok = true → c1 = false → s1 = false → k1 ≠ 2 → (∀ (P' : Program) (C' : Cx P' gl), FS P' gl 37 [.agg [I k1, B s1, I m1, I e1]] (· = .agg [B u1, .lst p1, I ea])) ∧
      (∀ (P' : Program) (C' : Cx P' gl), FS P' gl 39 [.agg [B u1, .lst p1, I ea]] (· = I T1)) ∧
      (∀ (P' : Program) (C' : Cx P' gl), FS P' gl 38 [B false, I T2, I mode, .fn 40 [.ptr [B u1, .lst p1, I ea] 0, .ptr [I mode] 0]] (· = .tup [.agg [I k, B s, I m, I e], I fl])) ∧ (∀ {A : AR}, A = AR.std → A.shr .i64 (A.add .i64 T1 1) 1 = T2)) :
    FS P gl 9 [.agg [I k1, B s1, I m1, I e1], I mode] (· = .tup [.agg [I k, B s, I m, I e], I fl]) := by
  obtain ⟨rfl, hG⟩ := C
  refine FS_ofT (args := fun A => [.agg [I k1, B s1, I m1, I e1], I mode]) (R := fun A rr => rr = .tup [.agg [I k, B s, I m, I e], I fl]) Tryd.hT Tryd.mix Tryd.func9 rfl rfl (Nat.le_of_ble_eq_true rfl) ?_
  generalize hP : Tryd.prog = P
  intro A hA
  have C : Tryd.Cx P gl := ⟨hP.symm, hG⟩
  have hI : intsL = A.ints := by subst hA; rfl
  have f1 : A.pick (A.eq k1 3) true (A.eq k1 0) = c1 := by
    clear h1 h2 h3 h4 h7 hok; rw [hc1]; subst hA; rw [pick_or, eq_dec, eq_dec]
  clear hc1
  iterate 2 (all_goals try cbv; all_goals repeat' (first | with_reducible exact True.intro | with_reducible refine And.intro ?_ ?_ | intro _))
  all_goals try exact oH
  · subst hA; intro q1 hq1; simp only [List.mem_cons, List.not_mem_nil, or_false] at hq1; rcases hq1 with rfl; exact ⟨rfl, rfl⟩
  first | (refine callS hA rfl (hok P C) ?_; rintro _ rfl) | refine ⟨_, hok P C, ?_⟩
  all_goals try cbv
  all_goals repeat' (first | with_reducible exact True.intro | with_reducible refine And.intro ?_ ?_ | intro _)
  all_goals try exact oH
  · rename_i gg
    have g0 : ok = false := ok_t hA gg
    obtain ⟨x1, x2, x3, x4, x5⟩ := h1 g0
    rw [x1, x2, x3, x4, x5]
    clear gg
    iterate 2 (all_goals try cbv; all_goals repeat' (first | with_reducible exact True.intro | with_reducible refine And.intro ?_ ?_ | intro _))
    all_goals try exact oH
    first | (refine callS hA rfl (nan_fs C) ?_; rintro _ rfl) | refine ⟨_, nan_fs C, ?_⟩
    iterate 2 (all_goals try cbv; all_goals repeat' (first | with_reducible exact True.intro | with_reducible refine And.intro ?_ ?_ | intro _))
    all_goals try exact oH
    iterate 2 (all_goals try cbv; all_goals repeat' (first | with_reducible exact True.intro | with_reducible refine And.intro ?_ ?_ | intro _))
    all_goals try exact oH
  · rename_i gg
    have g0 : ok = true := ok_f hA gg
    clear gg
    all_goals try cbv
    all_goals repeat' (first | with_reducible exact True.intro | with_reducible refine And.intro ?_ ?_ | intro _)
    all_goals try exact oH
    all_goals try (first | (cbv; done) | (cbv; exact True.intro) | (cbv; exact beq_ff hA (by assumption)) | (cbv; exact beq_tt hA (by assumption)) | (cbv; exact andb_ff hA (by assumption) (by assumption)))
    · rename_i gg
      have g1 : c1 = true := by rw [← f1]; exact gg
      obtain ⟨x1, x2, x3, x4, x5⟩ := h2 g0 g1
      rw [x1, x2, x3, x4, x5]
      clear gg
      iterate 2 (all_goals try cbv; all_goals repeat' (first | with_reducible exact True.intro | with_reducible refine And.intro ?_ ?_ | intro _))
      all_goals try exact oH
      iterate 2 (all_goals try cbv; all_goals repeat' (first | with_reducible exact True.intro | with_reducible refine And.intro ?_ ?_ | intro _))
      all_goals try exact oH
    · rename_i gg
      have g1 : c1 = false := by rw [← f1]; exact gg
      clear gg
      all_goals try cbv
      all_goals repeat' (first | with_reducible exact True.intro | with_reducible refine And.intro ?_ ?_ | intro _)
      all_goals try exact oH
      · rename_i gg
        have g2 : s1 = true := gg
        obtain ⟨x1, x2, x3, x4, x5⟩ := h3 g0 g1 g2
        rw [x1, x2, x3, x4, x5]
        clear gg
        iterate 2 (all_goals try cbv; all_goals repeat' (first | with_reducible exact True.intro | with_reducible refine And.intro ?_ ?_ | intro _))
        all_goals try exact oH
        first | (refine callS hA rfl (nan_fs C) ?_; rintro _ rfl) | refine ⟨_, nan_fs C, ?_⟩
        iterate 2 (all_goals try cbv; all_goals repeat' (first | with_reducible exact True.intro | with_reducible refine And.intro ?_ ?_ | intro _))
        all_goals try exact oH
        iterate 2 (all_goals try cbv; all_goals repeat' (first | with_reducible exact True.intro | with_reducible refine And.intro ?_ ?_ | intro _))
        all_goals try exact oH
      · rename_i gg
        have g2 : s1 = false := gg
        clear gg
        all_goals try cbv
        all_goals repeat' (first | with_reducible exact True.intro | with_reducible refine And.intro ?_ ?_ | intro _)
        all_goals try exact oH
        · rename_i gg
          have g3 : k1 = 2 := eq_tt hA gg
          obtain ⟨x1, x2, x3, x4, x5⟩ := h4 g0 g1 g2 g3
          rw [x1, x2, x3, x4, x5]
          clear gg
          iterate 2 (all_goals try cbv; all_goals repeat' (first | with_reducible exact True.intro | with_reducible refine And.intro ?_ ?_ | intro _))
          all_goals try exact oH
          iterate 2 (all_goals try cbv; all_goals repeat' (first | with_reducible exact True.intro | with_reducible refine And.intro ?_ ?_ | intro _))
          all_goals try exact oH
        · rename_i gg
          have g3 : k1 ≠ 2 := eq_ff hA gg
          clear gg
          obtain ⟨hd1, ht1, hq, hlw⟩ := h7 g0 g1 g2 g3
          iterate 2 (all_goals try cbv; all_goals repeat' (first | with_reducible exact True.intro | with_reducible refine And.intro ?_ ?_ | intro _))
          all_goals try exact oH
          first | (refine callS hA rfl (hd1 P C) ?_; rintro _ rfl) | refine ⟨_, hd1 P C, ?_⟩
          iterate 2 (all_goals try cbv; all_goals repeat' (first | with_reducible exact True.intro | with_reducible refine And.intro ?_ ?_ | intro _))
          all_goals try exact oH
          first | (refine callS hA rfl (ht1 P C) ?_; rintro _ rfl) | refine ⟨_, ht1 P C, ?_⟩
          iterate 2 (all_goals try cbv; all_goals repeat' (first | with_reducible exact True.intro | with_reducible refine And.intro ?_ ?_ | intro _))
          all_goals try exact oH
          all_goals try simp only [hlw hA]
          refine ⟨_, hq P C, ⟨_, rfl⟩, ?_⟩
          iterate 2 (all_goals try cbv; all_goals repeat' (first | with_reducible exact True.intro | with_reducible refine And.intro ?_ ?_ | intro _))
          all_goals try exact oH

end Tryd
end Go.Proofs
