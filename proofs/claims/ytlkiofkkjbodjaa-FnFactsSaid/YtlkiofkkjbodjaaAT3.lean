/- The law FnFacts at every code. -/
import Derived.Test.YtlkiofkkjbodjaaAT2
set_option maxHeartbeats 4000000
set_option maxRecDepth 100000
namespace Go.Proofs
open Go Go.Pe Go.Dg
namespace Try
set_option linter.unusedSimpArgs false
set_option linter.unusedVariables false
variable {P : Program} {gl : List (Nat × Obj)}

theorem bl_fac (t : Nat) (h : t ≤ 101) : (bl (fac t) : Int) ≤ 1300 := by
 have h1 := (bl_le 1300 (fac t)).2 (Nat.lt_of_le_of_lt (fac_mono (m := t) (n := 200) (by omega)) (by decide +kernel))
 omega

theorem law_fs (C : Cx P gl) {bs : List PV} (hc : isCode bs) : FS P gl 3 [.lst bs] (· = B true) := by
 have df := fun (P' : Program) (C' : Cx P' gl) => DrawFact_fs C' hc
 have de := fun (P' : Program) (C' : Cx P' gl) => DrawExpTerms_fs C' hc
 clear hc
 obtain ⟨rfl, hG⟩ := C
 refine FS_ofT (args := fun A => [.lst bs]) (R := fun A rr => rr = B true) Try.hT Try.mix Try.func3 rfl rfl (Nat.le_of_ble_eq_true rfl) ?_
 generalize hP : Try.prog = P
 intro A hA
 have C : Try.Cx P gl := ⟨hP.symm, hG⟩
 have hI : intsL = A.ints := by subst hA; rfl
 have q1 : A.bnot true = false := by subst hA; rfl
 have q2 : A.bnot false = true := by subst hA; rfl
 have q3 : ∀ x, A.pick false true x = x := fun x => by subst hA; cases x <;> rfl
 iterate 2 (all_goals try cbv; all_goals with_reducible repeat' first | exact True.intro | refine And.intro ?_ ?_ | intro _)
 all_goals try exact oH
 refine callS hA rfl (df P C) ?_; rintro _ ⟨n, rfl, hn⟩
 clear df
 by_cases hn2 : 0 ≤ n ∧ n ≤ 200
 ·obtain ⟨m, hm⟩ : ∃ m : Nat, n = m := ⟨n.toNat, by omega⟩
  obtain ⟨rf, hrf⟩ : ∃ r, r = intsL (dg (fac m)) := ⟨_, rfl⟩
  have f1 := fun (P' : Program) (C' : Cx P' gl) => implFact_fs C' hm (by omega) hrf
  by_cases h0 : m = 0
  ·have eg : A.lt 0 n = false := by clear f1 de; subst hA; exact decide_eq_false (by omega)
   clear hn
   iterate 2 (all_goals try cbv; all_goals with_reducible repeat' first | exact True.intro | refine And.intro ?_ ?_ | intro _)
   all_goals try exact oH
   first | (refine callS hA rfl (f1 P C) ?_; rintro _ rfl) | refine ⟨_, f1 P C, ?_⟩
   iterate 2 (all_goals try cbv; all_goals with_reducible repeat' first | exact True.intro | refine And.intro ?_ ?_ | intro _)
   all_goals try exact oH
   all_goals try simp only [q1, eg]
   iterate 2 (all_goals try cbv; all_goals with_reducible repeat' first | exact True.intro | refine And.intro ?_ ?_ | intro _)
   all_goals try exact oH
   all_goals try simp only [q1, eg]
   clear f1 eg hm hrf hn2 h0
   iterate 2 (all_goals try cbv; all_goals with_reducible repeat' first | exact True.intro | refine And.intro ?_ ?_ | intro _)
   all_goals try exact oH
   refine callS hA rfl (de P C) ?_; rintro _ ⟨w, rfl, hw⟩
   clear de
   by_cases hw2 : -400 ≤ w ∧ w ≤ 0
   ·obtain ⟨t, ht⟩ := exists_T (m := (-w).toNat) (by omega)
    obtain ⟨z, hz⟩ : ∃ z : Int, z = t := ⟨_, rfl⟩
    obtain ⟨ra, hra⟩ : ∃ r, r = intsL (dg (fac (t + 1))) := ⟨_, rfl⟩
    obtain ⟨rb, hrb⟩ : ∃ r, r = intsL (dg (fac t)) := ⟨_, rfl⟩
    obtain ⟨ba, hba⟩ : ∃ b : Int, b = bl (fac (t + 1)) := ⟨_, rfl⟩
    obtain ⟨bb, hbb⟩ : ∃ b : Int, b = bl (fac t) := ⟨_, rfl⟩
    obtain ⟨z1, hz1⟩ : ∃ z1, z1 = z + 1 := ⟨_, rfl⟩
    obtain ⟨ht1, ht2, ht3, ht4⟩ := id ht
    have la := fac_len (n := t + 1) (by omega)
    have lb := fac_len (n := t) (by omega)
    have b1 := bl_fac (t + 1) (by omega)
    have b2 := bl_fac t (by omega)
    have en := facts_enough ht3
    have fe : z = 1 ∨ z - 1 + bb - 1 < -w := by
     by_cases h1 : t = 1
     ·exact .inl (by omega)
     ·obtain ⟨s, rfl⟩ : ∃ s, t = s + 1 := ⟨t - 1, by omega⟩
      have := facts_few (ht4 s (by omega) (by omega))
      exact .inr (by omega)
    have en2 : -w ≤ z + ba - 1 := by omega
    have zb : 1 ≤ z ∧ z ≤ 100 ∧ 0 ≤ ba ∧ ba ≤ 10000 ∧ 0 ≤ bb ∧ bb ≤ 10000 := by omega
    obtain ⟨zb1, zb2, zb3, zb4, zb5, zb6⟩ := zb
    have et := fun (P' : Program) (C' : Cx P' gl) => implExpTerms_fs C' hw2.1 hw2.2 ht hz
    have fa := fun (P' : Program) (C' : Cx P' gl) => implFact_fs C' (n := z1) (m := t + 1) (by omega) (by omega) hra
    have fb := fun (P' : Program) (C' : Cx P' gl) => implFact_fs C' (n := z) (m := t) hz (by omega) hrb
    have na := fun (P' : Program) (C' : Cx P' gl) => natBits_fs C' hra hba (by omega)
    have nb := fun (P' : Program) (C' : Cx P' gl) => natBits_fs C' hrb hbb (by omega)
    clear ht ht1 ht2 ht3 ht4 hz hra hrb hba hbb la lb b1 b2 en hw
    obtain ⟨hw3, hw4⟩ := hw2
    have eg : A.pick (A.lt 0 w) true (A.lt w (-400)) = false := by
     clear et fa fb na nb
     subst hA
     show (bif decide (0 < w) then true else decide (w < -400)) = false
     rw [decide_eq_false (by omega), decide_eq_false (by omega)]; rfl
    have ez : A.add .i64 z 1 = z1 := by clear et fa fb na nb; subst hA; show IntKind.i64.wrap (z + 1) = z1; rw [wrapi (by omega) (by omega), hz1]
    iterate 2 (all_goals try cbv; all_goals with_reducible repeat' first | exact True.intro | refine And.intro ?_ ?_ | intro _)
    all_goals try exact oH
    first | (refine callS hA rfl (et P C) ?_; rintro _ rfl) | refine ⟨_, et P C, ?_⟩
    iterate 2 (all_goals try cbv; all_goals with_reducible repeat' first | exact True.intro | refine And.intro ?_ ?_ | intro _)
    all_goals try exact oH
    all_goals try simp only [eg, ez]
    iterate 2 (all_goals try cbv; all_goals with_reducible repeat' first | exact True.intro | refine And.intro ?_ ?_ | intro _)
    all_goals try exact oH
    all_goals try simp only [eg, ez]
    first | (refine callS hA rfl (fa P C) ?_; rintro _ rfl) | refine ⟨_, fa P C, ?_⟩
    iterate 2 (all_goals try cbv; all_goals with_reducible repeat' first | exact True.intro | refine And.intro ?_ ?_ | intro _)
    all_goals try exact oH
    all_goals try simp only [eg, ez]
    first | (refine callS hA rfl (fb P C) ?_; rintro _ rfl) | refine ⟨_, fb P C, ?_⟩
    iterate 2 (all_goals try cbv; all_goals with_reducible repeat' first | exact True.intro | refine And.intro ?_ ?_ | intro _)
    all_goals try exact oH
    all_goals try simp only [eg, ez]
    first | (refine callS hA rfl (na P C) ?_; rintro _ rfl) | refine ⟨_, na P C, ?_⟩
    iterate 2 (all_goals try cbv; all_goals with_reducible repeat' first | exact True.intro | refine And.intro ?_ ?_ | intro _)
    all_goals try exact oH
    all_goals try simp only [eg, ez]
    refine ⟨_, fun _ => nb P C, ?_⟩
    iterate 2 (all_goals try cbv; all_goals with_reducible repeat' first | exact True.intro | refine And.intro ?_ ?_ | intro _)
    all_goals try exact oH
    all_goals try simp only [eg, ez]
    clear et fa fb na nb eg ez
    subst hA
    have w1 : AR.std.sub .i64 0 w = -w := by show IntKind.i64.wrap (0 - w) = -w; rw [wrapi (by omega) (by omega)]; omega
    have w2 : AR.std.sub .i64 (AR.std.add .i64 z ba) 1 = z + ba - 1 := by
     have a1 : AR.std.add .i64 z ba = z + ba := wrapi (by omega) (by omega)
     rw [a1]; exact wrapi (by omega) (by omega)
    have w3 : AR.std.sub .i64 (AR.std.add .i64 (AR.std.sub .i64 z 1) bb) 1 = z - 1 + bb - 1 := by
     have a1 : AR.std.sub .i64 z 1 = z - 1 := wrapi (by omega) (by omega)
     have a2 : AR.std.add .i64 (z - 1) bb = z - 1 + bb := wrapi (by omega) (by omega)
     rw [a1, a2]; exact wrapi (by omega) (by omega)
    all_goals try simp only [w1, w2, w3]
    first
     | rfl
     | (have f1 : decide (-w ≤ z + ba - 1) = true := decide_eq_true en2
        have f2 : (decide (z = 1) || decide (z - 1 + bb - 1 < -w)) = true := by rw [Bool.or_eq_true, decide_eq_true_eq, decide_eq_true_eq]; exact fe
        simp [AR.std]
        omega)
   ·have et := fun (P' : Program) (C' : Cx P' gl) => implExpTermsN_fs C' (w := w) (by omega)
    have eg : A.pick (A.lt 0 w) true (A.lt w (-400)) = true := by
     clear et
     subst hA
     show (bif decide (0 < w) then true else decide (w < -400)) = true
     by_cases h : 0 < w
     ·rw [decide_eq_true h]; rfl
     ·rw [decide_eq_false h, decide_eq_true (by omega)]; rfl
    iterate 2 (all_goals try cbv; all_goals with_reducible repeat' first | exact True.intro | refine And.intro ?_ ?_ | intro _)
    all_goals try exact oH
    first | (refine callS hA rfl (et P C) ?_; rintro _ rfl) | refine ⟨_, et P C, ?_⟩
    iterate 2 (all_goals try cbv; all_goals with_reducible repeat' first | exact True.intro | refine And.intro ?_ ?_ | intro _)
    all_goals try exact oH
    all_goals try simp only [eg]
    iterate 2 (all_goals try cbv; all_goals with_reducible repeat' first | exact True.intro | refine And.intro ?_ ?_ | intro _)
    all_goals try exact oH
    all_goals try simp only [eg]
    clear et eg
    all_goals try (subst hA; rfl)
  ·obtain ⟨n1, hn1⟩ : ∃ n1, n1 = n - 1 := ⟨_, rfl⟩
   obtain ⟨rg, hrg⟩ : ∃ r, r = intsL (dg (fac (m - 1))) := ⟨_, rfl⟩
   obtain ⟨rn, hrn⟩ : ∃ r, r = intsL (dg m) := ⟨_, rfl⟩
   have l1 := fac_len (n := m - 1) (by omega)
   have l2 := fac_len (n := m) (by omega)
   have l3 : (dg m).length ≤ 1 := dg_len_le 1 _ (by omega)
   have f2 := fun (P' : Program) (C' : Cx P' gl) => implFact_fs C' (n := n1) (m := m - 1) (by omega) (by omega) hrg
   have f3 := fun (P' : Program) (C' : Cx P' gl) => natL_fs C' hm (by omega) hrn
   have f4 := fun (P' : Program) (C' : Cx P' gl) => natMul_fs C' (c := fac m) hrg hrn (by
    obtain ⟨k, rfl⟩ : ∃ k, m = k + 1 := ⟨m - 1, by omega⟩
    simp only [fac, Nat.add_sub_cancel]
    rw [Nat.mul_comm]) hrf (by omega) (by omega) (by omega)
   have f5 := fun (P' : Program) (C' : Cx P' gl) => sameNat_fs C' hrf (by omega)
   have eg : A.lt 0 n = true := by clear f1 f2 f3 f4 f5 de; subst hA; exact decide_eq_true (by omega)
   have e1 : A.sub .i64 n 1 = n1 := by clear f1 f2 f3 f4 f5 de eg; subst hA; show IntKind.i64.wrap (n - 1) = n1; rw [wrapi (by omega) (by omega), hn1]
   clear hn hrg hrn l1 l2 l3 hrf
   iterate 2 (all_goals try cbv; all_goals with_reducible repeat' first | exact True.intro | refine And.intro ?_ ?_ | intro _)
   all_goals try exact oH
   first | (refine callS hA rfl (f1 P C) ?_; rintro _ rfl) | refine ⟨_, f1 P C, ?_⟩
   iterate 2 (all_goals try cbv; all_goals with_reducible repeat' first | exact True.intro | refine And.intro ?_ ?_ | intro _)
   all_goals try exact oH
   all_goals try simp only [q1, eg, e1]
   iterate 2 (all_goals try cbv; all_goals with_reducible repeat' first | exact True.intro | refine And.intro ?_ ?_ | intro _)
   all_goals try exact oH
   all_goals try simp only [q1, eg, e1]
   first | (refine callS hA rfl (f2 P C) ?_; rintro _ rfl) | refine ⟨_, f2 P C, ?_⟩
   iterate 2 (all_goals try cbv; all_goals with_reducible repeat' first | exact True.intro | refine And.intro ?_ ?_ | intro _)
   all_goals try exact oH
   all_goals try simp only [q1, eg, e1]
   first | (refine callS hA rfl (f3 P C) ?_; rintro _ rfl) | refine ⟨_, f3 P C, ?_⟩
   iterate 2 (all_goals try cbv; all_goals with_reducible repeat' first | exact True.intro | refine And.intro ?_ ?_ | intro _)
   all_goals try exact oH
   all_goals try simp only [q1, eg, e1]
   first | (refine callS hA rfl (f4 P C) ?_; rintro _ rfl) | refine ⟨_, f4 P C, ?_⟩
   iterate 2 (all_goals try cbv; all_goals with_reducible repeat' first | exact True.intro | refine And.intro ?_ ?_ | intro _)
   all_goals try exact oH
   all_goals try simp only [q1, q3, eg, e1]
   refine ⟨_, fun _ => f5 P C, ?_⟩
   iterate 2 (all_goals try cbv; all_goals with_reducible repeat' first | exact True.intro | refine And.intro ?_ ?_ | intro _)
   all_goals try exact oH
   all_goals try simp only [q1, q3, eg, e1]
   iterate 2 (all_goals try cbv; all_goals with_reducible repeat' first | exact True.intro | refine And.intro ?_ ?_ | intro _)
   all_goals try exact oH
   all_goals try simp only [q1, q3, eg, e1]
   clear f1 f2 f3 f4 f5 eg e1 hm hn1 hn2 h0
   iterate 2 (all_goals try cbv; all_goals with_reducible repeat' first | exact True.intro | refine And.intro ?_ ?_ | intro _)
   all_goals try exact oH
   refine callS hA rfl (de P C) ?_; rintro _ ⟨w, rfl, hw⟩
   clear de
   by_cases hw2 : -400 ≤ w ∧ w ≤ 0
   ·obtain ⟨t, ht⟩ := exists_T (m := (-w).toNat) (by omega)
    obtain ⟨z, hz⟩ : ∃ z : Int, z = t := ⟨_, rfl⟩
    obtain ⟨ra, hra⟩ : ∃ r, r = intsL (dg (fac (t + 1))) := ⟨_, rfl⟩
    obtain ⟨rb, hrb⟩ : ∃ r, r = intsL (dg (fac t)) := ⟨_, rfl⟩
    obtain ⟨ba, hba⟩ : ∃ b : Int, b = bl (fac (t + 1)) := ⟨_, rfl⟩
    obtain ⟨bb, hbb⟩ : ∃ b : Int, b = bl (fac t) := ⟨_, rfl⟩
    obtain ⟨z1, hz1⟩ : ∃ z1, z1 = z + 1 := ⟨_, rfl⟩
    obtain ⟨ht1, ht2, ht3, ht4⟩ := id ht
    have la := fac_len (n := t + 1) (by omega)
    have lb := fac_len (n := t) (by omega)
    have b1 := bl_fac (t + 1) (by omega)
    have b2 := bl_fac t (by omega)
    have en := facts_enough ht3
    have fe : z = 1 ∨ z - 1 + bb - 1 < -w := by
     by_cases h1 : t = 1
     ·exact .inl (by omega)
     ·obtain ⟨s, rfl⟩ : ∃ s, t = s + 1 := ⟨t - 1, by omega⟩
      have := facts_few (ht4 s (by omega) (by omega))
      exact .inr (by omega)
    have en2 : -w ≤ z + ba - 1 := by omega
    have zb : 1 ≤ z ∧ z ≤ 100 ∧ 0 ≤ ba ∧ ba ≤ 10000 ∧ 0 ≤ bb ∧ bb ≤ 10000 := by omega
    obtain ⟨zb1, zb2, zb3, zb4, zb5, zb6⟩ := zb
    have et := fun (P' : Program) (C' : Cx P' gl) => implExpTerms_fs C' hw2.1 hw2.2 ht hz
    have fa := fun (P' : Program) (C' : Cx P' gl) => implFact_fs C' (n := z1) (m := t + 1) (by omega) (by omega) hra
    have fb := fun (P' : Program) (C' : Cx P' gl) => implFact_fs C' (n := z) (m := t) hz (by omega) hrb
    have na := fun (P' : Program) (C' : Cx P' gl) => natBits_fs C' hra hba (by omega)
    have nb := fun (P' : Program) (C' : Cx P' gl) => natBits_fs C' hrb hbb (by omega)
    clear ht ht1 ht2 ht3 ht4 hz hra hrb hba hbb la lb b1 b2 en hw
    obtain ⟨hw3, hw4⟩ := hw2
    have eg : A.pick (A.lt 0 w) true (A.lt w (-400)) = false := by
     clear et fa fb na nb
     subst hA
     show (bif decide (0 < w) then true else decide (w < -400)) = false
     rw [decide_eq_false (by omega), decide_eq_false (by omega)]; rfl
    have ez : A.add .i64 z 1 = z1 := by clear et fa fb na nb; subst hA; show IntKind.i64.wrap (z + 1) = z1; rw [wrapi (by omega) (by omega), hz1]
    iterate 2 (all_goals try cbv; all_goals with_reducible repeat' first | exact True.intro | refine And.intro ?_ ?_ | intro _)
    all_goals try exact oH
    first | (refine callS hA rfl (et P C) ?_; rintro _ rfl) | refine ⟨_, et P C, ?_⟩
    iterate 2 (all_goals try cbv; all_goals with_reducible repeat' first | exact True.intro | refine And.intro ?_ ?_ | intro _)
    all_goals try exact oH
    all_goals try simp only [eg, ez]
    iterate 2 (all_goals try cbv; all_goals with_reducible repeat' first | exact True.intro | refine And.intro ?_ ?_ | intro _)
    all_goals try exact oH
    all_goals try simp only [eg, ez]
    first | (refine callS hA rfl (fa P C) ?_; rintro _ rfl) | refine ⟨_, fa P C, ?_⟩
    iterate 2 (all_goals try cbv; all_goals with_reducible repeat' first | exact True.intro | refine And.intro ?_ ?_ | intro _)
    all_goals try exact oH
    all_goals try simp only [eg, ez]
    first | (refine callS hA rfl (fb P C) ?_; rintro _ rfl) | refine ⟨_, fb P C, ?_⟩
    iterate 2 (all_goals try cbv; all_goals with_reducible repeat' first | exact True.intro | refine And.intro ?_ ?_ | intro _)
    all_goals try exact oH
    all_goals try simp only [eg, ez]
    first | (refine callS hA rfl (na P C) ?_; rintro _ rfl) | refine ⟨_, na P C, ?_⟩
    iterate 2 (all_goals try cbv; all_goals with_reducible repeat' first | exact True.intro | refine And.intro ?_ ?_ | intro _)
    all_goals try exact oH
    all_goals try simp only [eg, ez]
    refine ⟨_, fun _ => nb P C, ?_⟩
    iterate 2 (all_goals try cbv; all_goals with_reducible repeat' first | exact True.intro | refine And.intro ?_ ?_ | intro _)
    all_goals try exact oH
    all_goals try simp only [eg, ez]
    clear et fa fb na nb eg ez
    subst hA
    have w1 : AR.std.sub .i64 0 w = -w := by show IntKind.i64.wrap (0 - w) = -w; rw [wrapi (by omega) (by omega)]; omega
    have w2 : AR.std.sub .i64 (AR.std.add .i64 z ba) 1 = z + ba - 1 := by
     have a1 : AR.std.add .i64 z ba = z + ba := wrapi (by omega) (by omega)
     rw [a1]; exact wrapi (by omega) (by omega)
    have w3 : AR.std.sub .i64 (AR.std.add .i64 (AR.std.sub .i64 z 1) bb) 1 = z - 1 + bb - 1 := by
     have a1 : AR.std.sub .i64 z 1 = z - 1 := wrapi (by omega) (by omega)
     have a2 : AR.std.add .i64 (z - 1) bb = z - 1 + bb := wrapi (by omega) (by omega)
     rw [a1, a2]; exact wrapi (by omega) (by omega)
    all_goals try simp only [w1, w2, w3]
    first
     | rfl
     | (have f1 : decide (-w ≤ z + ba - 1) = true := decide_eq_true en2
        have f2 : (decide (z = 1) || decide (z - 1 + bb - 1 < -w)) = true := by rw [Bool.or_eq_true, decide_eq_true_eq, decide_eq_true_eq]; exact fe
        simp [AR.std]
        omega)
   ·have et := fun (P' : Program) (C' : Cx P' gl) => implExpTermsN_fs C' (w := w) (by omega)
    have eg : A.pick (A.lt 0 w) true (A.lt w (-400)) = true := by
     clear et
     subst hA
     show (bif decide (0 < w) then true else decide (w < -400)) = true
     by_cases h : 0 < w
     ·rw [decide_eq_true h]; rfl
     ·rw [decide_eq_false h, decide_eq_true (by omega)]; rfl
    iterate 2 (all_goals try cbv; all_goals with_reducible repeat' first | exact True.intro | refine And.intro ?_ ?_ | intro _)
    all_goals try exact oH
    first | (refine callS hA rfl (et P C) ?_; rintro _ rfl) | refine ⟨_, et P C, ?_⟩
    iterate 2 (all_goals try cbv; all_goals with_reducible repeat' first | exact True.intro | refine And.intro ?_ ?_ | intro _)
    all_goals try exact oH
    all_goals try simp only [eg]
    iterate 2 (all_goals try cbv; all_goals with_reducible repeat' first | exact True.intro | refine And.intro ?_ ?_ | intro _)
    all_goals try exact oH
    all_goals try simp only [eg]
    clear et eg
    all_goals try (subst hA; rfl)
 ·obtain ⟨r5, hr5⟩ : ∃ r, r = intsL (dg (fac 5)) := ⟨_, rfl⟩
  have l5 := fac_len (n := 5) (by omega)
  have f1 := fun (P' : Program) (C' : Cx P' gl) => implFactN_fs C' (n := n) (by omega)
  have f2 := fun (P' : Program) (C' : Cx P' gl) => implFact_fs C' (n := 5) (m := 5) rfl (by omega) hr5
  have f3 := fun (P' : Program) (C' : Cx P' gl) => natL_fs C' (n := 120) (m := fac 5) rfl (by decide) hr5
  have f4 := fun (P' : Program) (C' : Cx P' gl) => sameNat_fs C' hr5 (by omega)
  have eg : A.pick (A.lt n 0) true (A.lt 100 n) = true := by
   clear f1 f2 f3 f4 de
   subst hA
   show (bif decide (n < 0) then true else decide (100 < n)) = true
   by_cases h : n < 0
   ·rw [decide_eq_true h]; rfl
   ·rw [decide_eq_false h, decide_eq_true (by omega)]; rfl
  clear hn hr5 l5
  iterate 2 (all_goals try cbv; all_goals with_reducible repeat' first | exact True.intro | refine And.intro ?_ ?_ | intro _)
  all_goals try exact oH
  first | (refine callS hA rfl (f1 P C) ?_; rintro _ rfl) | refine ⟨_, f1 P C, ?_⟩
  iterate 2 (all_goals try cbv; all_goals with_reducible repeat' first | exact True.intro | refine And.intro ?_ ?_ | intro _)
  all_goals try exact oH
  all_goals try simp only [q2, eg]
  iterate 2 (all_goals try cbv; all_goals with_reducible repeat' first | exact True.intro | refine And.intro ?_ ?_ | intro _)
  all_goals try exact oH
  all_goals try simp only [q2, eg]
  first | (refine callS hA rfl (f2 P C) ?_; rintro _ rfl) | refine ⟨_, f2 P C, ?_⟩
  iterate 2 (all_goals try cbv; all_goals with_reducible repeat' first | exact True.intro | refine And.intro ?_ ?_ | intro _)
  all_goals try exact oH
  all_goals try simp only [q2, eg]
  refine ⟨_, fun _ => f3 P C, ?_⟩
  iterate 2 (all_goals try cbv; all_goals with_reducible repeat' first | exact True.intro | refine And.intro ?_ ?_ | intro _)
  all_goals try exact oH
  all_goals try simp only [q2, eg]
  refine ⟨_, fun _ => f4 P C, ?_⟩
  iterate 2 (all_goals try cbv; all_goals with_reducible repeat' first | exact True.intro | refine And.intro ?_ ?_ | intro _)
  all_goals try exact oH
  all_goals try simp only [q2, eg]
  clear f1 f2 f3 f4 eg
  all_goals try (subst hA; rfl)

end Try
end Go.Proofs
