/- Contracts: the steps of the long division. -/
import Derived.Test.YtlkiofkkjbodjaaGreatDoorDN2
import Derived.Test.YtlkiofkkjbodjaaGreatDoorDEvD
set_option maxHeartbeats 1000000
set_option maxRecDepth 100000
namespace Go.Proofs
open Go Go.Pe Go.Dg
namespace Tryz
set_option linter.unusedSimpArgs false
set_option linter.unusedVariables false
variable {P : Program} {gl : List (Nat × Obj)}

theorem trailOf_fs (C : Cx P gl) {n k m : Nat} {c : Int} {p : List PV} (hp : p = intsL (dg n)) (hn : n = 2 ^ k * (2 * m + 1)) (hc : c = k) (hl : (dg n).length ≤ 100000000) : FS P gl 237 [.lst p] (· = I c) := by
 have hn0 : n ≠ 0 := by
  rw [hn]
  exact Nat.ne_of_gt (Nat.mul_pos (Nat.two_pow_pos k) (by omega))
 have hv := val_dg n
 have ha := valid_dg n
 generalize dg n = a at *
 refine gS C func237 rfl rfl rfl fun A hA hI => ?_
 iterate 2 all_goals try cbv; with_reducible repeat' first | exact ⟨⟩ | apply And.intro | intro _
 all_goals try exact oH
 refine loopI hA [] (ι := Int) (fun x => [(7, .pv (I x))]) (fun x => []) (fun x => (a.length - x).toNat) (fun x => trI a x) 0 (by rfl) ?_ ?_ ?_
 all_goals try exact tH
 ·exact trI_zero a
 rintro i hinv
 try simp only at hinv
 have hnext := trI_next hinv
 have hexit := trI_exit hinv
 have hfound := trI_found ha hinv hv hn
 have hx := ha.get i.toNat
 obtain ⟨hi0, hi1, _⟩ := id hinv
 iterate 2 all_goals try cbv; with_reducible repeat' first | exact ⟨⟩ | apply And.intro | intro _
 all_goals try exact oH
 iterate 2 all_goals try cbv; with_reducible repeat' first | exact ⟨⟩ | apply And.intro | intro _
 all_goals try exact oH
 ·obtain ⟨t, s, h1, h2, h3⟩ := hfound (by (subst hA; subst_vars; simp only [AR.std, natCast_eq, sH, reduceCtorEq] at *; try simp (disch := omega) only [AR.std, natCast_eq, sH, reduceCtorEq] at *); assumption)
  have hgi : A.conv .u64 (A.gi (A.el p (A.nat i)) 0) = ((a.getD i.toNat 0).toNat : Int) := by
   subst hA
   subst_vars
   simp only [AR.std, natCast_eq, sH, reduceCtorEq] at *
   try simp (disch := omega) only [AR.std, natCast_eq, sH, reduceCtorEq] at *
   rw [IntKind.wrap_u64]
   omega
  obtain ⟨t', ht'⟩ : ∃ t' : Int, t' = t := ⟨_, rfl⟩
  have h4 : c = 16 * i + t' := by rw [hc, h2, ht']
  have h5 : 0 ≤ t' := by omega
  have h6 : t' < 16 := by omega
  have h7 : (a.getD i.toNat 0).toNat < 18446744073709551616 := by omega
  refine callS hA rfl (tz_fs C hgi h1 h7 ht') ?_; rintro _ rfl
  clear ht' hc h1 h2 h3
  iterate 2 all_goals try cbv; with_reducible repeat' first | exact ⟨⟩ | apply And.intro | intro _
  all_goals try exact oH
  subst hA
  subst_vars
  simp only [AR.std, natCast_eq, sH, reduceCtorEq] at *
  try simp (disch := omega) only [AR.std, natCast_eq, sH, reduceCtorEq] at *
 ·obtain ⟨y1, hy1⟩ : ∃ y, y = i + 1 := ⟨_, rfl⟩
  refine ⟨⟨y1, ?_⟩, ?_, ?_⟩
  rotate_left
  ·cbv
   exact nH
  ·exact eH
  ·(subst hA; subst_vars; simp only [AR.std, natCast_eq, sH, reduceCtorEq] at *; try simp (disch := omega) only [AR.std, natCast_eq, sH, reduceCtorEq] at *); exact hnext (by omega) (by omega)

end Tryz
end Go.Proofs

set_option maxHeartbeats 2000000
set_option maxRecDepth 100000
namespace Go.Proofs
open Go Go.Pe Go.Dg
namespace Tryz
set_option linter.unusedSimpArgs false
set_option linter.unusedVariables false
variable {P : Program} {gl : List (Nat × Obj)}

theorem digitOf_fs (C : Cx P gl) {u v : List Int} {p pv : List PV} {j R V : Int} (hp : p = intsL u) (hpv : pv = intsL v) (hu : Valid u) (hv : Valid v) (hn : 2 ≤ v.length) (hv1 : 32768 ≤ v.getD (v.length - 1) 0) (hj0 : 0 ≤ j) (hj : j + v.length < u.length)
  (hul : u.length ≤ 100000000) (hR : R = val (u.drop j.toNat)) (hV : V = val v) (hlt : R < 65536 * V) :
  FS P gl 261 [.lst p, .lst pv, I j] (fun r => ∃ q, r = I q ∧ (q - 1) * V ≤ R ∧ R < (q + 1) * V ∧ 0 ≤ q ∧ q < 65536) := by
 have E := estD_of hu hv hn hv1 (by rw [← hR, ← hV]; exact hlt)
 rw [← hR, ← hV] at E
 clear hR hV
 obtain ⟨x0, hx0⟩ : ∃ x, x = u.getD (j + v.length : Int).toNat 0 := ⟨_, rfl⟩
 obtain ⟨x1, hx1⟩ : ∃ x, x = u.getD (j + v.length - 1 : Int).toNat 0 := ⟨_, rfl⟩
 obtain ⟨x2, hx2⟩ : ∃ x, x = u.getD (j + v.length - 2 : Int).toNat 0 := ⟨_, rfl⟩
 obtain ⟨v1, hw1⟩ : ∃ x, x = v.getD (v.length - 1 : Int).toNat 0 := ⟨_, rfl⟩
 obtain ⟨v2, hw2⟩ : ∃ x, x = v.getD (v.length - 2 : Int).toNat 0 := ⟨_, rfl⟩
 have k0 : u.getD (j.toNat + v.length) 0 = x0 := by rw [hx0]; congr 1; omega
 have k1 : u.getD (j.toNat + v.length - 1) 0 = x1 := by rw [hx1]; congr 1; omega
 have k2 : u.getD (j.toNat + v.length - 2) 0 = x2 := by rw [hx2]; congr 1; omega
 have k3 : v.getD (v.length - 1) 0 = v1 := by rw [hw1]; congr 1; omega
 have k4 : v.getD (v.length - 2) 0 = v2 := by rw [hw2]; congr 1; omega
 rw [k0, k1, k2, k3, k4] at E
 have g0 : 0 ≤ x0 ∧ x0 < 65536 := by rw [hx0]; exact hu.get _
 have g1 : 0 ≤ x1 ∧ x1 < 65536 := by rw [hx1]; exact hu.get _
 have g2 : 0 ≤ x2 ∧ x2 < 65536 := by rw [hx2]; exact hu.get _
 have g3 : 32768 ≤ v1 ∧ v1 < 65536 := by rw [hw1]; exact ⟨by rw [← hw1, ← k3]; exact hv1, (hv.get _).2⟩
 have g4 : 0 ≤ v2 ∧ v2 < 65536 := by rw [hw2]; exact hv.get _
 obtain ⟨t, ht⟩ : ∃ t, t = x0 * 65536 + x1 := ⟨_, rfl⟩
 have gt : 0 ≤ t ∧ t ≤ 4294967295 := by omega
 rw [← ht] at E
 have hstart := estI_zero E g3.2
 have hq0 : 0 ≤ t / v1 := Int.ediv_nonneg gt.1 (by omega)
 have hq1 : t / v1 ≤ t := Int.ediv_le_self _ gt.1
 have hr0 := Int.emod_nonneg t (b := v1) (by omega)
 have hr1 := Int.emod_lt_of_pos t (b := v1) (by omega)
 clear k0 k1 k2 k3 k4 hv1 hlt hu hv
 refine gS C func261 rfl rfl rfl fun A hA hI => ?_
 have e0 : A.gi (A.el p (A.nat (A.add .i64 j (A.cast (A.len pv))))) 0 = x0 := by clear E hstart; (subst hA; subst_vars; simp only [AR.std, natCast_eq, sH, reduceCtorEq] at *; try simp (disch := omega) only [AR.std, natCast_eq, sH, reduceCtorEq] at *)
 have e1 : A.gi (A.el p (A.nat (A.sub .i64 (A.add .i64 j (A.cast (A.len pv))) 1))) 0 = x1 := by clear E hstart; (subst hA; subst_vars; simp only [AR.std, natCast_eq, sH, reduceCtorEq] at *; try simp (disch := omega) only [AR.std, natCast_eq, sH, reduceCtorEq] at *)
 have e2 : A.gi (A.el p (A.nat (A.sub .i64 (A.add .i64 j (A.cast (A.len pv))) 2))) 0 = x2 := by clear E hstart; (subst hA; subst_vars; simp only [AR.std, natCast_eq, sH, reduceCtorEq] at *; try simp (disch := omega) only [AR.std, natCast_eq, sH, reduceCtorEq] at *)
 have e3 : A.gi (A.el pv (A.nat (A.sub .i64 (A.cast (A.len pv)) 1))) 0 = v1 := by clear E hstart; (subst hA; subst_vars; simp only [AR.std, natCast_eq, sH, reduceCtorEq] at *; try simp (disch := omega) only [AR.std, natCast_eq, sH, reduceCtorEq] at *)
 have e4 : A.gi (A.el pv (A.nat (A.sub .i64 (A.cast (A.len pv)) 2))) 0 = v2 := by clear E hstart; (subst hA; subst_vars; simp only [AR.std, natCast_eq, sH, reduceCtorEq] at *; try simp (disch := omega) only [AR.std, natCast_eq, sH, reduceCtorEq] at *)
 have e5 : A.add .i64 (A.mul .i64 x0 65536) x1 = t := by rw [ht]; clear E hstart; (subst hA; subst_vars; simp only [AR.std, natCast_eq, sH, reduceCtorEq] at *; try simp (disch := omega) only [AR.std, natCast_eq, sH, reduceCtorEq] at *)
 iterate 2 all_goals try cbv; with_reducible repeat' first | exact ⟨⟩ | apply And.intro | intro _
 all_goals try exact oH
 all_goals try simp only [e0, e1, e5, e3]
 iterate 2 all_goals try cbv; with_reducible repeat' first | exact ⟨⟩ | apply And.intro | intro _
 all_goals try exact oH
 refine loopI hA [] (ι := Int × Int) (fun x => [(9, .pv (I x.1)), (10, .pv (I x.2))]) (fun x => []) (fun x => x.1.toNat) (fun x => estI t v1 R V x.1 x.2 ∧ x.1 ≤ 4294967295) (t / v1, t % v1) (by rfl) ?_ ?_ ?_
 ·have e6 : A.quo .i64 t v1 = t / v1 := by
   subst hA; show IntKind.i64.wrap (t.tdiv v1) = _
   rw [Int.tdiv_eq_ediv_of_nonneg gt.1, wrapi (by omega) (by omega)]
  have e7 : A.rem .i64 t v1 = t % v1 := by subst hA; exact Int.tmod_eq_emod_of_nonneg gt.1
  simp only [e6, e7]
  rfl
 ·exact ⟨hstart, by simp only; omega⟩
 rintro ⟨q, r⟩ hinv
 simp only at hinv
 obtain ⟨hinv, hqu⟩ := hinv
 obtain ⟨_, hr00, hr10, hq00, _⟩ := id hinv
 have hnext := fun hc => estI_next E hinv hc
 have hexit := fun h1 h2 => estI_exit E hinv h1 h2
 have hbreak := fun {q' r' : Int} h1 h2 h3 h4 => estI_break (q := q') (r := r') E h1 h2 h3 h4
 have gmul : q < 65536 → 0 ≤ q * v2 ∧ q * v2 ≤ 4294836225 := fun h => mul_bound ⟨hq00, h⟩ g4
 have hc : A.pick (A.le 65536 q) true (A.lt (A.add .i64 (A.mul .i64 r 65536) x2) (A.mul .i64 q v2)) = decide (65536 ≤ q ∨ r * 65536 + x2 < q * v2) := by
  by_cases h : 65536 ≤ q
  ·rw [decide_eq_true (.inl h)]; subst hA; simp [AR.std, h]
  ·have hm := gmul (by omega)
   have a1 : A.mul .i64 q v2 = q * v2 := by subst hA; exact wrapi (by omega) (by omega)
   have a2 : A.mul .i64 r 65536 = r * 65536 := by subst hA; exact wrapi (by omega) (by omega)
   have a3 : A.add .i64 (r * 65536) x2 = r * 65536 + x2 := by subst hA; exact wrapi (by omega) (by omega)
   rw [a1, a2, a3]; subst hA
   show (bif decide (65536 ≤ q) then true else decide (r * 65536 + x2 < q * v2)) = _
   simp [h]
 have hs1 : A.sub .i64 q 1 = q - 1 := by subst hA; exact wrapi (by omega) (by omega)
 have hs2 : A.add .i64 r v1 = r + v1 := by subst hA; exact wrapi (by omega) (by omega)
 have hle : ∀ {b : Bool}, A.le 65536 (A.add .i64 r v1) = b → b = decide (65536 ≤ r + v1) := by intro b h; rw [← h, hs2]; subst hA; rfl
 clear hinv E hstart
 iterate 2 all_goals try cbv; with_reducible repeat' first | exact ⟨⟩ | apply And.intro | intro _
 all_goals try exact oH
 all_goals try simp only [e0, e1, e2, e3, e4]
 iterate 2 all_goals try cbv; with_reducible repeat' first | exact ⟨⟩ | apply And.intro | intro _
 all_goals try exact oH
 ·rename_i g1 g2
  simp only [e2, e3, e4] at g1 g2
  obtain ⟨n1, n2, n3⟩ := hnext (of_decide_eq_true (by rw [← hc]; exact g1))
  exact ⟨q - 1, by rw [hs1], hbreak n1 n2 n3 (of_decide_eq_true (hle g2).symm)⟩
 ·rename_i g1 g2
  simp only [e2, e3, e4] at g1 g2
  obtain ⟨n1, n2, n3⟩ := hnext (of_decide_eq_true (by rw [← hc]; exact g1))
  have n4 : r + v1 < 65536 := by have := of_decide_eq_false (hle g2).symm; omega
  simp only [hs1, hs2]
  obtain ⟨y1, hy1⟩ : ∃ y, y = q - 1 := ⟨_, rfl⟩
  obtain ⟨y2, hy2⟩ : ∃ y, y = r + v1 := ⟨_, rfl⟩
  refine ⟨⟨(y1, y2), ?_⟩, ?_, ?_⟩
  rotate_left
  ·cbv
   exact nH
  ·simp only; omega
  ·rw [hy1, hy2]; exact ⟨⟨n1, by simp only; omega, n4, n2, n3⟩, by simp only; omega⟩
 ·rename_i g1
  simp only [e2, e3, e4] at g1
  have n1 := of_decide_eq_false (p := 65536 ≤ q ∨ r * 65536 + x2 < q * v2) (by rw [← hc]; exact g1)
  exact ⟨q, rfl, hexit (by omega) (by omega)⟩

end Tryz
end Go.Proofs

