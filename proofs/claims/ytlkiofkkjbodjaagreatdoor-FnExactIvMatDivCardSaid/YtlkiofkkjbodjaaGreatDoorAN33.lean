/- Contracts: the quotient in the reference. -/
import Derived.Test.YtlkiofkkjbodjaaGreatDoorAN31
import Derived.Test.YtlkiofkkjbodjaaGreatDoorAN32
set_option maxHeartbeats 2000000
set_option maxRecDepth 100000
namespace Go.Proofs
open Go Go.Pe Go.Dg
namespace Tryz
set_option linter.unusedSimpArgs false
set_option linter.unusedVariables false
variable {P : Program} {gl : List (Nat × Obj)}

theorem l4quot_walk (C : Cx P gl) {s1 s2 sx sz u zb kb rb : Bool} {e1 e2 g low k kn l3 : Int} {p q r pn pd pq pr p2 p1 pz : List PV} (b1 : e1.natAbs ≤ 100000) (b2 : e2.natAbs ≤ 100000) (b3 : low.natAbs ≤ 100000)
  (hk : k = e1 - e2 - low + 2) (hkn : kn = -k) (hl3 : l3 = low - 3) (hsx : sx = (s1 != s2)) (hzb : p.length = 0 ↔ zb = true) (hkb : kb = decide (0 ≤ k)) (hrb : 0 < pr.length ↔ rb = true)
  (hzero : zb = true → u = false ∧ r = [] ∧ g = 0)
  (hshlN : kb = true → ∀ (P' : Program) (C' : Cx P' gl), FS P' gl 208 [.agg [.lst p], I k] (· = .agg [.lst pn]))
  (hshlD : kb = false → ∀ (P' : Program) (C' : Cx P' gl), FS P' gl 208 [.agg [.lst q], I kn] (· = .agg [.lst pd]))
  (hpeq : kb = false → pn = p) (hqeq : kb = true → pd = q)
  (hdiv : ∀ (P' : Program) (C' : Cx P' gl), FS P' gl 213 [.agg [.lst pn], .agg [.lst pd]] (· = .tup [.agg [.lst pq], .agg [.lst pr]]))
  (hshl1 : ∀ (P' : Program) (C' : Cx P' gl), FS P' gl 208 [.agg [.lst pq], I 1] (· = .agg [.lst p2]))
  (hof : ∀ (P' : Program) (C' : Cx P' gl), FS P' gl 203 [I 1] (· = .agg [.lst p1]))
  (hadd : rb = true → ∀ (P' : Program) (C' : Cx P' gl), FS P' gl 202 [.agg [.lst p2], .agg [.lst p1]] (· = .agg [.lst pz]))
  (hp2z : rb = false → p2 = pz)
  (hmk : ∀ (P' : Program) (C' : Cx P' gl), FS P' gl 169 [B sx, .agg [.lst pz]] (· = .agg [B sz, .lst pz]))
  (hl4 : zb = false → ∀ (P' : Program) (C' : Cx P' gl), FS P' gl 129 [.agg [B sz, .lst pz], I l3] (· = .agg [B u, .lst r, I g])) :
  FS P gl 147 [.agg [B s1, .lst p, I e1], .agg [B s2, .lst q, I e2], I low] (· = .agg [B u, .lst r, I g]) := by
 obtain ⟨rfl, hG⟩ := C
 refine FS_ofT (args := fun A => [.agg [B s1, .lst p, I e1], .agg [B s2, .lst q, I e2], I low]) (R := fun A rr => rr = .agg [B u, .lst r, I g]) Tryz.hT Tryz.mix Tryz.func147 rfl rfl (Nat.le_of_ble_eq_true rfl) ?_
 generalize hP : Tryz.prog = P
 intro A hA
 have C : Tryz.Cx P gl := ⟨hP.symm, hG⟩
 have hI : intsL = A.ints := by subst hA; rfl
 have f1 : A.eq (A.cast (A.len p)) 0 = zb := by
  subst hA; show (((p.length : Nat) : Int) == 0) = zb
  rw [Bool.eq_iff_iff, ← hzb, beq_iff_eq]
  omega
 have f2 : A.add .i64 (A.sub .i64 (A.sub .i64 e1 e2) low) 2 = k := by
  have m1 : A.sub .i64 e1 e2 = e1 - e2 := by subst hA; exact wrapi (by omega) (by omega)
  have m2 : A.sub .i64 (e1 - e2) low = e1 - e2 - low := by subst hA; exact wrapi (by omega) (by omega)
  rw [m1, m2, hk]; subst hA; exact wrapi (by omega) (by omega)
 have f3 : A.le 0 k = kb := by rw [hkb]; subst hA; rfl
 have f4 : A.sub .i64 0 k = kn := by subst hA; show IntKind.i64.wrap (0 - k) = _; rw [wrapi (by omega) (by omega)]; omega
 have f5 : A.lt 0 (A.cast (A.len pr)) = rb := by
  subst hA; show decide ((0 : Int) < ((pr.length : Nat) : Int)) = rb
  rw [Bool.eq_iff_iff, ← hrb, decide_eq_true_eq]; omega
 have f6 : A.bnot (A.beq s1 s2) = sx := by rw [hsx]; subst hA; rfl
 have f7 : A.sub .i64 low 3 = l3 := by rw [hl3]; subst hA; exact wrapi (by omega) (by omega)
 clear hzb hkb hrb hk hkn hl3 hsx
 iterate 2 (all_goals try cbv; all_goals with_reducible repeat' first | exact True.intro | refine And.intro ?_ ?_ | intro _)
 all_goals try exact pH
 all_goals try simp only [f1] at *
 ·rename_i gz
  obtain ⟨rfl, rfl, rfl⟩ := hzero gz
  iterate 2 (all_goals try cbv; all_goals with_reducible repeat' first | exact True.intro | refine And.intro ?_ ?_ | intro _)
  all_goals try exact pH
 ·rename_i gk gz
  simp only [f2, f3] at gk
  obtain rfl := hqeq gk
  simp only [f2, f3]
  iterate 2 (all_goals try cbv; all_goals with_reducible repeat' first | exact True.intro | refine And.intro ?_ ?_ | intro _)
  all_goals try exact pH
  refine callS hA rfl (hshlN gk P C) ?_; rintro _ rfl
  iterate 2 (all_goals try cbv; all_goals with_reducible repeat' first | exact True.intro | refine And.intro ?_ ?_ | intro _)
  all_goals try exact pH
  refine callS hA rfl (hdiv P C) ?_; rintro _ rfl
  iterate 2 (all_goals try cbv; all_goals with_reducible repeat' first | exact True.intro | refine And.intro ?_ ?_ | intro _)
  all_goals try exact pH
  refine callS hA rfl (hshl1 P C) ?_; rintro _ rfl
  iterate 2 (all_goals try cbv; all_goals with_reducible repeat' first | exact True.intro | refine And.intro ?_ ?_ | intro _)
  all_goals try exact pH
  all_goals try simp only [f5] at *
  ·rename_i gr
   iterate 2 (all_goals try cbv; all_goals with_reducible repeat' first | exact True.intro | refine And.intro ?_ ?_ | intro _)
   all_goals try exact pH
   refine ⟨_, hof P C, ?_⟩
   iterate 2 (all_goals try cbv; all_goals with_reducible repeat' first | exact True.intro | refine And.intro ?_ ?_ | intro _)
   all_goals try exact pH
   refine callS hA rfl (hadd gr P C) ?_; rintro _ rfl
   iterate 2 (all_goals try cbv; all_goals with_reducible repeat' first | exact True.intro | refine And.intro ?_ ?_ | intro _)
   all_goals try exact pH
   all_goals try simp only [f6]
   refine callS hA rfl (hmk P C) ?_; rintro _ rfl
   iterate 2 (all_goals try cbv; all_goals with_reducible repeat' first | exact True.intro | refine And.intro ?_ ?_ | intro _)
   all_goals try exact pH
   all_goals try simp only [f7]
   refine callS hA rfl (hl4 gz P C) ?_; rintro _ rfl
   iterate 2 (all_goals try cbv; all_goals with_reducible repeat' first | exact True.intro | refine And.intro ?_ ?_ | intro _)
   all_goals try exact pH
  ·rename_i gr
   obtain rfl := hp2z gr
   iterate 2 (all_goals try cbv; all_goals with_reducible repeat' first | exact True.intro | refine And.intro ?_ ?_ | intro _)
   all_goals try exact pH
   all_goals try simp only [f6]
   refine callS hA rfl (hmk P C) ?_; rintro _ rfl
   iterate 2 (all_goals try cbv; all_goals with_reducible repeat' first | exact True.intro | refine And.intro ?_ ?_ | intro _)
   all_goals try exact pH
   all_goals try simp only [f7]
   refine callS hA rfl (hl4 gz P C) ?_; rintro _ rfl
   iterate 2 (all_goals try cbv; all_goals with_reducible repeat' first | exact True.intro | refine And.intro ?_ ?_ | intro _)
   all_goals try exact pH
 ·rename_i gk gz
  simp only [f2, f3] at gk
  obtain rfl := hpeq gk
  simp only [f2, f3]
  iterate 2 (all_goals try cbv; all_goals with_reducible repeat' first | exact True.intro | refine And.intro ?_ ?_ | intro _)
  all_goals try exact pH
  simp only [f4]
  refine callS hA rfl (hshlD gk P C) ?_; rintro _ rfl
  iterate 2 (all_goals try cbv; all_goals with_reducible repeat' first | exact True.intro | refine And.intro ?_ ?_ | intro _)
  all_goals try exact pH
  refine callS hA rfl (hdiv P C) ?_; rintro _ rfl
  iterate 2 (all_goals try cbv; all_goals with_reducible repeat' first | exact True.intro | refine And.intro ?_ ?_ | intro _)
  all_goals try exact pH
  refine callS hA rfl (hshl1 P C) ?_; rintro _ rfl
  iterate 2 (all_goals try cbv; all_goals with_reducible repeat' first | exact True.intro | refine And.intro ?_ ?_ | intro _)
  all_goals try exact pH
  all_goals try simp only [f5] at *
  ·rename_i gr
   iterate 2 (all_goals try cbv; all_goals with_reducible repeat' first | exact True.intro | refine And.intro ?_ ?_ | intro _)
   all_goals try exact pH
   refine ⟨_, hof P C, ?_⟩
   iterate 2 (all_goals try cbv; all_goals with_reducible repeat' first | exact True.intro | refine And.intro ?_ ?_ | intro _)
   all_goals try exact pH
   refine callS hA rfl (hadd gr P C) ?_; rintro _ rfl
   iterate 2 (all_goals try cbv; all_goals with_reducible repeat' first | exact True.intro | refine And.intro ?_ ?_ | intro _)
   all_goals try exact pH
   all_goals try simp only [f6]
   refine callS hA rfl (hmk P C) ?_; rintro _ rfl
   iterate 2 (all_goals try cbv; all_goals with_reducible repeat' first | exact True.intro | refine And.intro ?_ ?_ | intro _)
   all_goals try exact pH
   all_goals try simp only [f7]
   refine callS hA rfl (hl4 gz P C) ?_; rintro _ rfl
   iterate 2 (all_goals try cbv; all_goals with_reducible repeat' first | exact True.intro | refine And.intro ?_ ?_ | intro _)
   all_goals try exact pH
  ·rename_i gr
   obtain rfl := hp2z gr
   iterate 2 (all_goals try cbv; all_goals with_reducible repeat' first | exact True.intro | refine And.intro ?_ ?_ | intro _)
   all_goals try exact pH
   all_goals try simp only [f6]
   refine callS hA rfl (hmk P C) ?_; rintro _ rfl
   iterate 2 (all_goals try cbv; all_goals with_reducible repeat' first | exact True.intro | refine And.intro ?_ ?_ | intro _)
   all_goals try exact pH
   all_goals try simp only [f7]
   refine callS hA rfl (hl4 gz P C) ?_; rintro _ rfl
   iterate 2 (all_goals try cbv; all_goals with_reducible repeat' first | exact True.intro | refine And.intro ?_ ?_ | intro _)
   all_goals try exact pH

end Tryz
end Go.Proofs
