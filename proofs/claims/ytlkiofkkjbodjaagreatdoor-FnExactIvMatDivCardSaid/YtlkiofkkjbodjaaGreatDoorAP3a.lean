/- Contracts: the law's own helpers on lists of intervals: marks held. -/
import Derived.Test.YtlkiofkkjbodjaaGreatDoorAL2
import Derived.Test.YtlkiofkkjbodjaaGreatDoorAPeTi
set_option maxHeartbeats 1000000
set_option maxRecDepth 100000
namespace Go.Proofs
open Go Go.Pe Go.Dg
namespace Tryz
set_option linter.unusedSimpArgs false
set_option linter.unusedVariables false
variable {P : Program} {gl : List (Nat × Obj)}

def mkI (l : List Int) (k : Int) (i q : Int) (o : List Int) : Prop := 0 ≤ i ∧ i ≤ l.length ∧ q = k + i ∧ o.length = l.length ∧ ∀ j : Nat, j < i.toNat → o.getD j 0 = k + j

theorem mkI_zero (l : List Int) (k : Int) : mkI l k 0 k l := ⟨Int.le_refl _, by omega, by omega, rfl, fun j hj => by simp at hj⟩

theorem mkI_next {l : List Int} {k i q : Int} {o : List Int} (h : mkI l k i q o) (hi : i < l.length) : mkI l k (i + 1) (q + 1) (o.set i.toNat q) := by
 obtain ⟨a, b, c, d, e⟩ := h
 refine ⟨by omega, by omega, by omega, by rw [List.length_set]; exact d, fun j hj => ?_⟩
 by_cases he : j = i.toNat
 ·subst he; rw [Go.Dg.getD_set_eq (by omega)]; omega
 ·rw [Go.Dg.getD_set_ne (by omega)]; exact e j (by omega)

theorem mkI_exit {l : List Int} {k i q : Int} {o : List Int} (h : mkI l k i q o) (hi : l.length ≤ i) : o = up1 k l.length ∧ q = k + l.length := by
 obtain ⟨a, b, c, d, e⟩ := h
 refine ⟨?_, by omega⟩
 apply ext_getD (by rw [up1_len]; exact d)
 intro j hj
 rw [up1_get k _ j (by omega)]
 exact e j (by omega)

theorem markIntS_fx (C : Cx P gl) {l : List Int} {p r : List PV} {k z : Int} (hp : p = intsL l) (hr : r = intsL (up1 k l.length)) (hz : z = k + l.length) (hl : l.length ≤ 2000000) (hk0 : 0 ≤ k) (hk : k ≤ 1000000000) :
  FX P gl 88 [.row 3 1 p] [.own 0, .pv (I k)] (fun own rr => own = [.row 3 1 r] ∧ rr = .pv (I z)) := by
 obtain ⟨rfl, hG⟩ := C
 refine FX_ofT (own := fun A => [.row 3 1 p]) (args := fun A => [.own 0, .pv (I k)]) (R := fun A ow rr => ow = [.row 3 1 r] ∧ rr = .pv (I z)) Tryz.hT Tryz.mix Tryz.func88 rfl rfl (Nat.le_of_ble_eq_true rfl) ?_
 generalize hP : Tryz.prog = P
 intro A hA
 have C : Tryz.Cx P gl := ⟨hP.symm, hG⟩
 have hI : intsL = A.ints := by subst hA; rfl
 iterate 2 (all_goals try cbv; all_goals with_reducible repeat' first | exact True.intro | refine And.intro ?_ ?_ | intro _)
 all_goals try exact oH
 refine loopI hA [] (ι := Int × Int × List Int) (fun x => [(0, .own 0), (1, .pv (I x.2.1)), (5, .pv (I x.1))]) (fun x => [(0, .row 3 1 (A.ints x.2.2))]) (fun x => (l.length - x.1).toNat) (fun x => mkI l k x.1 x.2.1 x.2.2) (0, k, l) (by rfl) ?_ ?_ ?_
 all_goals try exact tH
 ·exact mkI_zero l k
 rintro ⟨i, q, o⟩ hinv
 simp only at hinv
 have hnext := fun hi => mkI_next hinv hi
 have hexit := fun hi => mkI_exit hinv hi
 obtain ⟨hi0, hi1, hq, hol, _⟩ := id hinv
 clear hinv
 iterate 2 (all_goals try cbv; all_goals with_reducible repeat' first | exact True.intro | refine And.intro ?_ ?_ | intro _)
 all_goals try exact oH
 iterate 2 (all_goals try cbv; all_goals with_reducible repeat' first | exact True.intro | refine And.intro ?_ ?_ | intro _)
 all_goals try exact oH
 ·obtain ⟨y1, hy1⟩ : ∃ y, y = i + 1 := ⟨_, rfl⟩
  obtain ⟨y2, hy2⟩ : ∃ y, y = q + 1 := ⟨_, rfl⟩
  obtain ⟨y3, hy3⟩ : ∃ y, y = o.set i.toNat q := ⟨_, rfl⟩
  refine ⟨⟨(y1, y2, y3), ?_⟩, ?_, ?_⟩
  rotate_left
  ·cbv
   exact nH
  ·(subst hA; subst_vars; simp only [AR.std, natCast_eq, sH, reduceCtorEq] at *; try simp (disch := omega) only [AR.std, natCast_eq, sH, reduceCtorEq] at *); omega
  ·rw [hy1, hy2, hy3]; exact hnext (by clear hnext hexit; (subst hA; subst_vars; simp only [AR.std, natCast_eq, sH, reduceCtorEq] at *; try simp (disch := omega) only [AR.std, natCast_eq, sH, reduceCtorEq] at *); omega)
 ·have e := hexit (by clear hnext hexit; (subst hA; subst_vars; simp only [AR.std, natCast_eq, sH, reduceCtorEq] at *; try simp (disch := omega) only [AR.std, natCast_eq, sH, reduceCtorEq] at *); omega)
  have e1 : A.ints o = r := by rw [hr, ← e.1]; subst hA; rfl
  have e2 : q = z := by rw [hz]; exact e.2
  simp only [e1, e2]
  subst hA
  exact ⟨[0], _, _, by decide, Nat.le_refl _, rfl, rfl, rfl, rfl, rfl, rfl⟩

theorem heldIntS_fs (C : Cx P gl) {n : Nat} {p : List PV} {k z : Int} (hp : p = intsL (up1 k n)) (hz : z = k + n) (hn : n ≤ 2000000) (hk0 : 0 ≤ k) (hk : k ≤ 1000000000) : FS P gl 89 [.lst p, I k] (· = I z) := by
 obtain ⟨u, hu⟩ : ∃ u, u = up1 k n := ⟨_, rfl⟩
 have hg : ∀ j : Nat, j < n → u.getD j 0 = k + j := by rw [hu]; exact up1_get k n
 have hul : u.length = n := by rw [hu]; exact up1_len k n
 rw [← hu] at hp
 clear hu
 obtain ⟨rfl, hG⟩ := C
 refine FS_ofT (args := fun A => [.lst p, I k]) (R := fun A rr => rr = I z) Tryz.hT Tryz.mix Tryz.func89 rfl rfl (Nat.le_of_ble_eq_true rfl) ?_
 generalize hP : Tryz.prog = P
 intro A hA
 have C : Tryz.Cx P gl := ⟨hP.symm, hG⟩
 have hI : intsL = A.ints := by subst hA; rfl
 iterate 2 (all_goals try cbv; all_goals with_reducible repeat' first | exact True.intro | refine And.intro ?_ ?_ | intro _)
 all_goals try exact oH
 refine loopI hA [] (ι := Int × Int) (fun x => [(1, .pv (I x.2)), (5, .pv (I x.1))]) (fun x => []) (fun x => (n - x.1).toNat) (fun x => 0 ≤ x.1 ∧ x.1 ≤ n ∧ x.2 = k + x.1) (0, k) (by rfl) ?_ ?_ ?_
 all_goals try exact tH
 ·simp only; omega
 rintro ⟨i, q⟩ ⟨hi0, hi1, hq⟩
 simp only at hi0 hi1 hq
 have hgi : i < n → u.getD i.toNat 0 = q := fun h => by have h2 := hg i.toNat (by omega); simp only [natCast_eq] at h2 hi1; omega
 clear hg
 have hlt : A.lt i (A.cast (A.len p)) = true → A.ne (A.gi (A.el p (A.nat i)) 0) q = false := by
  intro h
  have h1 : A.gi (A.el p (A.nat i)) 0 = q := by
   have e : A.gi (A.el p (A.nat i)) 0 = u.getD i.toNat 0 := by clear hgi; (subst hA; subst_vars; simp only [AR.std, natCast_eq, sH, reduceCtorEq] at *; try simp (disch := omega) only [AR.std, natCast_eq, sH, reduceCtorEq] at *)
   rw [e, hgi (by clear hgi e; (subst hA; subst_vars; simp only [AR.std, natCast_eq, sH, reduceCtorEq] at *; try simp (disch := omega) only [AR.std, natCast_eq, sH, reduceCtorEq] at *); omega)]
  rw [h1]; subst hA; simp [AR.std]
 clear hgi
 iterate 2 (all_goals try cbv; all_goals with_reducible repeat' first | exact True.intro | refine And.intro ?_ ?_ | intro _)
 all_goals try exact oH
 iterate 2 (all_goals try cbv; all_goals with_reducible repeat' first | exact True.intro | refine And.intro ?_ ?_ | intro _)
 all_goals try exact oH
 ·clear hlt
  obtain ⟨y1, hy1⟩ : ∃ y, y = i + 1 := ⟨_, rfl⟩
  obtain ⟨y2, hy2⟩ : ∃ y, y = q + 1 := ⟨_, rfl⟩
  refine ⟨⟨(y1, y2), ?_⟩, ?_, ?_⟩
  rotate_left
  ·cbv
   exact nH
  ·(subst hA; subst_vars; simp only [AR.std, natCast_eq, sH, reduceCtorEq] at *; try simp (disch := omega) only [AR.std, natCast_eq, sH, reduceCtorEq] at *); omega
  ·rw [hy1, hy2]; simp only; (subst hA; subst_vars; simp only [AR.std, natCast_eq, sH, reduceCtorEq] at *; try simp (disch := omega) only [AR.std, natCast_eq, sH, reduceCtorEq] at *); omega
 ·have e : q = z := by clear hlt; (subst hA; subst_vars; simp only [AR.std, natCast_eq, sH, reduceCtorEq] at *; try simp (disch := omega) only [AR.std, natCast_eq, sH, reduceCtorEq] at *); omega
  simp only [e]

end Tryz
end Go.Proofs

set_option maxHeartbeats 1000000
set_option maxRecDepth 100000
namespace Go.Proofs
open Go Go.Pe Go.Dg
namespace Tryz
set_option linter.unusedSimpArgs false
set_option linter.unusedVariables false
variable {P : Program} {gl : List (Nat × Obj)}

theorem markIntS0_fs (C : Cx P gl) {k : Int} : FS P gl 88 [.lst [], I k] (· = I k) := by
 obtain ⟨rfl, hG⟩ := C
 refine FS_ofT (args := fun A => [.lst [], I k]) (R := fun A rr => rr = I k) Tryz.hT Tryz.mix Tryz.func88 rfl rfl (Nat.le_of_ble_eq_true rfl) ?_
 generalize hP : Tryz.prog = P
 intro A hA
 have C : Tryz.Cx P gl := ⟨hP.symm, hG⟩
 have hI : intsL = A.ints := by subst hA; rfl
 iterate 2 (all_goals try cbv; all_goals with_reducible repeat' first | exact True.intro | refine And.intro ?_ ?_ | intro _)
 all_goals try exact oH
 refine loopI hA [] (ι := Int) (fun x => [(1, .pv (I k)), (5, .pv (I x))]) (fun x => []) (fun x => 0) (fun x => x = 0) 0 (by rfl) ?_ ?_ ?_
 all_goals try exact tH
 rintro i rfl
 iterate 2 (all_goals try cbv; all_goals with_reducible repeat' first | exact True.intro | refine And.intro ?_ ?_ | intro _)
 all_goals try exact oH
 iterate 2 (all_goals try cbv; all_goals with_reducible repeat' first | exact True.intro | refine And.intro ?_ ?_ | intro _)
 all_goals try exact oH

end Tryz
end Go.Proofs

set_option maxHeartbeats 2000000
set_option maxRecDepth 100000
namespace Go.Proofs
open Go Go.Pe Go.Dg
namespace Tryz
set_option linter.unusedSimpArgs false
set_option linter.unusedVariables false
variable {P : Program} {gl : List (Nat × Obj)}

theorem heldIvS_fs (C : Cx P gl) {vs : List Cell6} {p : List PV} {k z : Int} (hp : p = cells6 (mkL6 vs k)) (hz : z = k + 4 * vs.length + tot6 vs) (hl : vs.length ≤ 2000000) (ht : tot6 vs ≤ 2000000) (hk0 : 0 ≤ k) (hk : k ≤ 50000000) :
  FS P gl 32 [.lst p, I k] (· = I z) := by
 obtain ⟨zs, hzs⟩ : ∃ zs, zs = mkL6 vs k := ⟨_, rfl⟩
 have hzl : zs.length = vs.length := by rw [hzs, mkL6_len]
 have hzg : ∀ j : Nat, j < vs.length → zs.getD j noV = mark6 (koff6 vs k j) (vs.getD j noV).1.2.1.length (vs.getD j noV).2.2.1.length := fun j hj => by rw [hzs]; exact mkL6_get hj
 rw [← hzs] at hp
 clear hzs
 obtain ⟨rfl, hG⟩ := C
 refine FS_ofT (args := fun A => [.lst p, I k]) (R := fun A rr => rr = I z) Tryz.hT Tryz.mix Tryz.func32 rfl rfl (Nat.le_of_ble_eq_true rfl) ?_
 generalize hP : Tryz.prog = P
 intro A hA
 have C : Tryz.Cx P gl := ⟨hP.symm, hG⟩
 have hI : intsL = A.ints := by subst hA; rfl
 iterate 2 (all_goals try cbv; all_goals with_reducible repeat' first | exact True.intro | refine And.intro ?_ ?_ | intro _)
 all_goals try exact oI
 refine loopI hA [] (ι := Int × Int) (fun x => [(1, .pv (I x.2)), (5, .pv (I x.1))]) (fun x => []) (fun x => (vs.length - x.1).toNat) (fun x => 0 ≤ x.1 ∧ x.1 ≤ vs.length ∧ x.2 = koff6 vs k x.1.toNat) (0, k) (by rfl) ?_ ?_ ?_
 all_goals try exact tI
 ·exact ⟨Int.le_refl _, by omega, (koff6_zero vs k).symm⟩
 rintro ⟨i, q⟩ ⟨hi0, hi1, hq⟩
 simp only at hi0 hi1 hq
 obtain ⟨hq1, hq2⟩ := koff6_le (vs := vs) (k := k) (show i.toNat ≤ vs.length by omega)
 rw [← hq] at hq1 hq2
 obtain ⟨n, hn⟩ : ∃ n, n = (vs.getD i.toNat noV).1.2.1.length := ⟨_, rfl⟩
 obtain ⟨m, hm⟩ : ∃ n, n = (vs.getD i.toNat noV).2.2.1.length := ⟨_, rfl⟩
 have hnb : n ≤ 2000000 ∧ m ≤ 2000000 := by
  by_cases hi : i < vs.length
  ·have := tot6_get (show i.toNat < vs.length by omega)
   unfold dig6 at this
   omega
  ·rw [hn, hm, List.getD, List.getElem?_eq_none (by omega)]; simp [noV, noY]
 obtain ⟨hnb, hmb⟩ := hnb
 obtain ⟨r1, hq1'⟩ : ∃ r1, r1 = q + 1 := ⟨_, rfl⟩
 obtain ⟨r2, hq2'⟩ : ∃ r2, r2 = r1 + (n : Int) := ⟨_, rfl⟩
 obtain ⟨r3, hq3'⟩ : ∃ r3, r3 = r2 + 1 := ⟨_, rfl⟩
 obtain ⟨r4, hq4'⟩ : ∃ r4, r4 = r3 + 1 := ⟨_, rfl⟩
 obtain ⟨r5, hq5'⟩ : ∃ r5, r5 = r4 + (m : Int) := ⟨_, rfl⟩
 obtain ⟨u, hu⟩ : ∃ u, u = intsL (up1 r1 n) := ⟨_, rfl⟩
 obtain ⟨u2, hu2⟩ : ∃ u, u = intsL (up1 r4 m) := ⟨_, rfl⟩
 have b1 : 0 ≤ r1 := by omega
 have b2 : r1 ≤ 1000000000 := by omega
 have b3 : 0 ≤ r2 ∧ 0 ≤ r3 ∧ r3 ≤ 1000000000 := by omega
 have b4 : 0 ≤ r4 ∧ r4 ≤ 1000000000 ∧ 0 ≤ r5 ∧ r5 ≤ 1000000000 := by omega
 have b5 : 0 ≤ q := by omega
 have hin : ∀ _ : Unit, i < vs.length → zs.getD i.toNat noV = ((decide (q % 3 = 0), up1 r1 n, r2), (decide (r3 % 3 = 0), up1 r4 m, r5)) ∧ koff6 vs k (i + 1).toNat = r5 + 1 := by
  intro _ hi
  refine ⟨?_, by rw [show (i + 1).toNat = i.toNat + 1 by omega, koff6_succ (by omega), ← hq, dig6, ← hn, ← hm]; omega⟩
  rw [hzg _ (by omega), ← hq, ← hn, ← hm, mark6, mark1, mark1, show q + 2 + (n : Int) = r3 by omega, ← hq1', ← hq2', ← hq4', ← hq5']
 have hex : vs.length ≤ i → q = z := by
  intro hi
  rw [hq, hz, show i.toNat = vs.length by omega, koff6_end]
 have hlt : ∀ _ : Unit, A.lt i (A.cast (A.len p)) = true → i < vs.length := by intro _ h; clear hin hex hzg; (subst hA; subst_vars; simp only [AR.std, natCast_eq, sI, reduceCtorEq] at *; try simp (disch := omega) only [AR.std, natCast_eq, sI, reduceCtorEq] at *); omega
 have hge : ∀ _ : Unit, A.lt i (A.cast (A.len p)) = false → vs.length ≤ i := by intro _ h; clear hin hex hzg hlt; (subst hA; subst_vars; simp only [AR.std, natCast_eq, sI, reduceCtorEq] at *; try simp (disch := omega) only [AR.std, natCast_eq, sI, reduceCtorEq] at *); omega
 have hel : ∀ _ : Unit, i < vs.length → A.gb (A.el p (A.nat i)) 0 = decide (q % 3 = 0) ∧ A.gl (A.el p (A.nat i)) 1 = u ∧ A.gi (A.el p (A.nat i)) 2 = r2 ∧ A.gb (A.el p (A.nat i)) 3 = decide (r3 % 3 = 0) ∧ A.gl (A.el p (A.nat i)) 4 = u2 ∧ A.gi (A.el p (A.nat i)) 5 = r5 := by
  intro _ hi
  have e : A.el p (A.nat i) = cell6 ((decide (q % 3 = 0), up1 r1 n, r2), (decide (r3 % 3 = 0), up1 r4 m, r5)) := by
   rw [← (hin () hi).1, hp]; subst hA; exact c6el (show i.toNat < zs.length by omega)
  rw [e, hu, hu2]
  subst hA
  exact ⟨rfl, rfl, rfl, rfl, rfl, rfl⟩
 have heq : ∀ _ : Unit, ∀ x : Int, 0 ≤ x → A.eq (A.rem .i64 x 3) 0 = decide (x % 3 = 0) := by
  intro _ x hx
  subst hA
  simp only [AR.std]
  rw [Int.tmod_eq_emod_of_nonneg hx]
  by_cases h3 : x % 3 = 0 <;> simp [h3]
 obtain ⟨r6, hq6'⟩ : ∃ r6, r6 = r5 + 1 := ⟨_, rfl⟩
 have hend : i < vs.length → r6 = koff6 vs k (i + 1).toNat ∧ i + 1 ≤ vs.length := fun h => ⟨by rw [(hin () h).2, hq6'], by omega⟩
 have e1 : A.add .i64 q 1 = r1 := by rw [hq1']; subst hA; exact wrapi (by omega) (by omega)
 have e3 : A.add .i64 r2 1 = r3 := by rw [hq3']; subst hA; exact wrapi (by omega) (by omega)
 have e4 : A.add .i64 r3 1 = r4 := by rw [hq4']; subst hA; exact wrapi (by omega) (by omega)
 have e6 : A.add .i64 r5 1 = r6 := by rw [hq6']; subst hA; exact wrapi (by omega) (by omega)
 have hnb2 : ∀ b : Bool, A.bnot (A.beq b b) = false := by intro b; subst hA; cases b <;> rfl
 have hm1 : ∀ _ : Unit, A.eq (A.rem .i64 q 3) 0 = decide (q % 3 = 0) := fun _ => heq () q b5
 have hm3 : ∀ _ : Unit, A.eq (A.rem .i64 r3 3) 0 = decide (r3 % 3 = 0) := fun _ => heq () r3 b3.2.1
 have hnn : ∀ x : Int, A.ne x x = false := by intro x; subst hA; simp [AR.std]
 have c1 := fun (P' : Program) (C' : Cx P' gl) => heldIntS_fs C' hu hq2' hnb b1 b2
 have c2 := fun (P' : Program) (C' : Cx P' gl) => heldIntS_fs C' hu2 hq5' hmb b4.1 b4.2.1
 clear hzg hz hq hn hm hq1 hq2 heq hin hu hu2 hq1' hq2' hq3' hq4' hq5' hq6'
 iterate 2 (all_goals try cbv; all_goals with_reducible repeat' first | exact True.intro | refine And.intro ?_ ?_ | intro _)
 all_goals try exact oI
 ·rename_i g g2
  exfalso
  obtain ⟨w1, w2, w3, w4, w5, w6⟩ := hel () (hlt () g)
  simp only [w1, hm1 (), hnb2] at g2 <;> exact absurd g2 (by decide)
 ·rename_i g g2
  have gi := hlt () g
  obtain ⟨w1, w2, w3, w4, w5, w6⟩ := hel () gi
  have hne := hend gi
  have hn2 : A.ne (A.gi (A.el p (A.nat i)) 2) r2 = false := by rw [w3]; exact hnn r2
  have hn5 : A.ne (A.gi (A.el p (A.nat i)) 5) r5 = false := by rw [w6]; exact hnn r5
  have hn3 : A.bnot (A.beq (A.gb (A.el p (A.nat i)) 3) (A.eq (A.rem .i64 (A.add .i64 r2 1) 3) 0)) = false := by rw [e3, w4, hm3 (), hnb2]
  clear g2 hel hend hlt hge hnn hm1 hm3 hnb2 hex
  iterate 2 (all_goals try cbv; all_goals with_reducible repeat' first | exact True.intro | refine And.intro ?_ ?_ | intro _)
  all_goals try exact oI
  simp only [w2, e1]
  refine callS hA rfl (c1 P C) ?_; rintro _ rfl
  iterate 2 (all_goals try cbv; all_goals with_reducible repeat' first | exact True.intro | refine And.intro ?_ ?_ | intro _)
  all_goals try exact oI
  iterate 2 (all_goals try cbv; all_goals with_reducible repeat' first | exact True.intro | refine And.intro ?_ ?_ | intro _)
  all_goals try exact oI
  iterate 2 (all_goals try cbv; all_goals with_reducible repeat' first | exact True.intro | refine And.intro ?_ ?_ | intro _)
  all_goals try exact oI
  ·rename_i g3
   exfalso
   simp only [hn3] at g3 <;> exact absurd g3 (by decide)
  ·all_goals try cbv
   all_goals with_reducible repeat' first | exact True.intro | refine And.intro ?_ ?_ | intro _
   all_goals try cbv
   all_goals with_reducible repeat' first | exact True.intro | refine And.intro ?_ ?_ | intro _
   all_goals try exact oI
   simp only [w5, e3, e4]
   refine callS hA rfl (c2 P C) ?_; rintro _ rfl
   clear c1 c2 w1 w2 w3 w4 w5 w6 hn3
   iterate 2 (all_goals try cbv; all_goals with_reducible repeat' first | exact True.intro | refine And.intro ?_ ?_ | intro _)
   all_goals try exact oI
   iterate 2 (all_goals try cbv; all_goals with_reducible repeat' first | exact True.intro | refine And.intro ?_ ?_ | intro _)
   all_goals try exact oI
   iterate 2 (all_goals try cbv; all_goals with_reducible repeat' first | exact True.intro | refine And.intro ?_ ?_ | intro _)
   all_goals try exact oI
   all_goals try simp only [e6]
   clear hn2 hn5 e1 e3 e4 e6
   obtain ⟨y1, hy1⟩ : ∃ y, y = i + 1 := ⟨_, rfl⟩
   obtain ⟨y2, hy2⟩ : ∃ y, y = r6 := ⟨_, rfl⟩
   refine ⟨⟨(y1, y2), ?_⟩, ?_, ?_⟩
   rotate_left
   ·cbv
    exact nI
   ·(subst hA; subst_vars; simp only [AR.std, natCast_eq, sI, reduceCtorEq] at *; try simp (disch := omega) only [AR.std, natCast_eq, sI, reduceCtorEq] at *); omega
   ·rw [hy1, hy2]; exact ⟨by simp only; omega, hne.2, hne.1⟩
 ·rename_i g
  rw [hex (hge () g)]

theorem heldIvMat_fs (C : Cx P gl) {vs : List Cell6} {p : List PV} {k z n : Int} (hp : p = cells6 (mkL6 vs k)) (hz : z = k + 4 * vs.length + tot6 vs) (hl : vs.length ≤ 2000000) (ht : tot6 vs ≤ 2000000) (hk0 : 0 ≤ k) (hk : k ≤ 50000000) :
  FS P gl 15 [.agg [I n, .lst p], I k] (· = I z) := by
 have hz0 : 0 ≤ z := by omega
 obtain ⟨rfl, hG⟩ := C
 refine FS_ofT (args := fun A => [.agg [I n, .lst p], I k]) (R := fun A rr => rr = I z) Tryz.hT Tryz.mix Tryz.func15 rfl rfl (Nat.le_of_ble_eq_true rfl) ?_
 generalize hP : Tryz.prog = P
 intro A hA
 have C : Tryz.Cx P gl := ⟨hP.symm, hG⟩
 have hI : intsL = A.ints := by subst hA; rfl
 iterate 2 (all_goals try cbv; all_goals with_reducible repeat' first | exact True.intro | refine And.intro ?_ ?_ | intro _)
 all_goals try exact oI
 refine callS hA rfl (heldIvS_fs C hp hz hl ht hk0 hk) ?_; rintro _ rfl
 iterate 2 (all_goals try cbv; all_goals with_reducible repeat' first | exact True.intro | refine And.intro ?_ ?_ | intro _)
 all_goals try exact oI

end Tryz
end Go.Proofs

