/- Contracts: a multiple taken away in place, a number added in place. -/
import Derived.Test.YtlkiofkkjbodjaaGreatDoorAN3
import Derived.Test.YtlkiofkkjbodjaaGreatDoorAEvD
set_option maxHeartbeats 2000000
set_option maxRecDepth 100000
namespace Go.Proofs
open Go Go.Pe Go.Dg
namespace Tryz
set_option linter.unusedSimpArgs false
set_option linter.unusedVariables false
variable {P : Program} {gl : List (Nat × Obj)}

theorem digitOf_fs (C : Cx P gl) {u v : List Int} {p pv : List PV} {j R V : Int} (hp : p = intsL u) (hpv : pv = intsL v) (hu : Valid u) (hv : Valid v) (hn : 2 ≤ v.length) (hv1 : 32768 ≤ v.getD (v.length - 1) 0) (hj0 : 0 ≤ j) (hj : j + v.length < u.length)
  (hul : u.length ≤ 100000000) (hR : R = val (u.drop j.toNat)) (hV : V = val v) (hlt : R < 65536 * V) :
  FS P gl 261 [.lst p, .lst pv, I j] (fun r => ∃ q, r = I q ∧ (q - 1) * V ≤ R ∧ R < (q + 1) * V ∧ 0 ≤ q ∧ q < 65536) := by
 have E := estD_of hu hv hn hv1 (by rw [← hR, ← hV]; exact hlt)
 rw [← hR, ← hV] at E
 clear hR hV
 obtain ⟨x0, hx0⟩ : ∃ x, x = u.getD (j + v.length : Int).toNat 0 := ⟨_, rfl⟩
 obtain ⟨x1, hx1⟩ : ∃ x, x = u.getD (j + v.length - 1 : Int).toNat 0 := ⟨_, rfl⟩
 obtain ⟨x2, hx2⟩ : ∃ x, x = u.getD (j + v.length - 2 : Int).toNat 0 := ⟨_, rfl⟩
 obtain ⟨v1, hw1⟩ : ∃ x, x = v.getD (v.length - 1 : Int).toNat 0 := ⟨_, rfl⟩
 obtain ⟨v2, hw2⟩ : ∃ x, x = v.getD (v.length - 2 : Int).toNat 0 := ⟨_, rfl⟩
 have k0 : u.getD (j.toNat + v.length) 0 = x0 := by rw [hx0]; congr 1; omega
 have k1 : u.getD (j.toNat + v.length - 1) 0 = x1 := by rw [hx1]; congr 1; omega
 have k2 : u.getD (j.toNat + v.length - 2) 0 = x2 := by rw [hx2]; congr 1; omega
 have k3 : v.getD (v.length - 1) 0 = v1 := by rw [hw1]; congr 1; omega
 have k4 : v.getD (v.length - 2) 0 = v2 := by rw [hw2]; congr 1; omega
 rw [k0, k1, k2, k3, k4] at E
 have g0 : 0 ≤ x0 ∧ x0 < 65536 := by rw [hx0]; exact hu.get _
 have g1 : 0 ≤ x1 ∧ x1 < 65536 := by rw [hx1]; exact hu.get _
 have g2 : 0 ≤ x2 ∧ x2 < 65536 := by rw [hx2]; exact hu.get _
 have g3 : 32768 ≤ v1 ∧ v1 < 65536 := by rw [hw1]; exact ⟨by rw [← hw1, ← k3]; exact hv1, (hv.get _).2⟩
 have g4 : 0 ≤ v2 ∧ v2 < 65536 := by rw [hw2]; exact hv.get _
 obtain ⟨t, ht⟩ : ∃ t, t = x0 * 65536 + x1 := ⟨_, rfl⟩
 have gt : 0 ≤ t ∧ t ≤ 4294967295 := by omega
 rw [← ht] at E
 have hstart := estI_zero E g3.2
 have hq0 : 0 ≤ t / v1 := Int.ediv_nonneg gt.1 (by omega)
 have hq1 : t / v1 ≤ t := Int.ediv_le_self _ gt.1
 have hr0 := Int.emod_nonneg t (b := v1) (by omega)
 have hr1 := Int.emod_lt_of_pos t (b := v1) (by omega)
 clear k0 k1 k2 k3 k4 hv1 hlt hu hv
 obtain ⟨rfl, hG⟩ := C
 refine FS_ofT (args := fun A => [.lst p, .lst pv, I j]) (R := fun A rr => ∃ q, rr = I q ∧ (q - 1) * V ≤ R ∧ R < (q + 1) * V ∧ 0 ≤ q ∧ q < 65536) Tryz.hT Tryz.mix Tryz.func261 rfl rfl (Nat.le_of_ble_eq_true rfl) ?_
 generalize hP : Tryz.prog = P
 intro A hA
 have C : Tryz.Cx P gl := ⟨hP.symm, hG⟩
 have hI : intsL = A.ints := by subst hA; rfl
 have e0 : A.gi (A.el p (A.nat (A.add .i64 j (A.cast (A.len pv))))) 0 = x0 := by clear E hstart; (subst hA; subst_vars; simp only [AR.std, natCast_eq, sH, reduceCtorEq] at *; try simp (disch := omega) only [AR.std, natCast_eq, sH, reduceCtorEq] at *)
 have e1 : A.gi (A.el p (A.nat (A.sub .i64 (A.add .i64 j (A.cast (A.len pv))) 1))) 0 = x1 := by clear E hstart; (subst hA; subst_vars; simp only [AR.std, natCast_eq, sH, reduceCtorEq] at *; try simp (disch := omega) only [AR.std, natCast_eq, sH, reduceCtorEq] at *)
 have e2 : A.gi (A.el p (A.nat (A.sub .i64 (A.add .i64 j (A.cast (A.len pv))) 2))) 0 = x2 := by clear E hstart; (subst hA; subst_vars; simp only [AR.std, natCast_eq, sH, reduceCtorEq] at *; try simp (disch := omega) only [AR.std, natCast_eq, sH, reduceCtorEq] at *)
 have e3 : A.gi (A.el pv (A.nat (A.sub .i64 (A.cast (A.len pv)) 1))) 0 = v1 := by clear E hstart; (subst hA; subst_vars; simp only [AR.std, natCast_eq, sH, reduceCtorEq] at *; try simp (disch := omega) only [AR.std, natCast_eq, sH, reduceCtorEq] at *)
 have e4 : A.gi (A.el pv (A.nat (A.sub .i64 (A.cast (A.len pv)) 2))) 0 = v2 := by clear E hstart; (subst hA; subst_vars; simp only [AR.std, natCast_eq, sH, reduceCtorEq] at *; try simp (disch := omega) only [AR.std, natCast_eq, sH, reduceCtorEq] at *)
 have e5 : A.add .i64 (A.mul .i64 x0 65536) x1 = t := by rw [ht]; clear E hstart; (subst hA; subst_vars; simp only [AR.std, natCast_eq, sH, reduceCtorEq] at *; try simp (disch := omega) only [AR.std, natCast_eq, sH, reduceCtorEq] at *)
 iterate 2 (all_goals try cbv; all_goals with_reducible repeat' first | exact True.intro | refine And.intro ?_ ?_ | intro _)
 all_goals try exact oH
 all_goals try simp only [e0, e1, e5, e3]
 iterate 2 (all_goals try cbv; all_goals with_reducible repeat' first | exact True.intro | refine And.intro ?_ ?_ | intro _)
 all_goals try exact oH
 refine loopI hA [] (ι := Int × Int) (fun x => [(9, .pv (I x.1)), (10, .pv (I x.2))]) (fun x => []) (fun x => x.1.toNat) (fun x => estI t v1 R V x.1 x.2 ∧ x.1 ≤ 4294967295) (t / v1, t % v1) (by rfl) ?_ ?_ ?_
 ·have e6 : A.quo .i64 t v1 = t / v1 := by
   subst hA; show IntKind.i64.wrap (t.tdiv v1) = _
   rw [Int.tdiv_eq_ediv_of_nonneg gt.1, wrapi (by omega) (by omega)]
  have e7 : A.rem .i64 t v1 = t % v1 := by subst hA; exact Int.tmod_eq_emod_of_nonneg gt.1
  simp only [e6, e7]
  rfl
 ·exact ⟨hstart, by simp only; omega⟩
 rintro ⟨q, r⟩ hinv
 simp only at hinv
 obtain ⟨hinv, hqu⟩ := hinv
 obtain ⟨_, hr00, hr10, hq00, _⟩ := id hinv
 have hnext := fun hc => estI_next E hinv hc
 have hexit := fun h1 h2 => estI_exit E hinv h1 h2
 have hbreak := fun {q' r' : Int} h1 h2 h3 h4 => estI_break (q := q') (r := r') E h1 h2 h3 h4
 have gmul : q < 65536 → 0 ≤ q * v2 ∧ q * v2 ≤ 4294836225 := fun h => mul_bound ⟨hq00, h⟩ g4
 have hc : A.pick (A.le 65536 q) true (A.lt (A.add .i64 (A.mul .i64 r 65536) x2) (A.mul .i64 q v2)) = decide (65536 ≤ q ∨ r * 65536 + x2 < q * v2) := by
  by_cases h : 65536 ≤ q
  ·rw [decide_eq_true (.inl h)]; subst hA; simp [AR.std, h]
  ·have hm := gmul (by omega)
   have a1 : A.mul .i64 q v2 = q * v2 := by subst hA; exact wrapi (by omega) (by omega)
   have a2 : A.mul .i64 r 65536 = r * 65536 := by subst hA; exact wrapi (by omega) (by omega)
   have a3 : A.add .i64 (r * 65536) x2 = r * 65536 + x2 := by subst hA; exact wrapi (by omega) (by omega)
   rw [a1, a2, a3]; subst hA
   show (bif decide (65536 ≤ q) then true else decide (r * 65536 + x2 < q * v2)) = _
   simp [h]
 have hs1 : A.sub .i64 q 1 = q - 1 := by subst hA; exact wrapi (by omega) (by omega)
 have hs2 : A.add .i64 r v1 = r + v1 := by subst hA; exact wrapi (by omega) (by omega)
 have hle : ∀ {b : Bool}, A.le 65536 (A.add .i64 r v1) = b → b = decide (65536 ≤ r + v1) := by intro b h; rw [← h, hs2]; subst hA; rfl
 clear hinv E hstart
 iterate 2 (all_goals try cbv; all_goals with_reducible repeat' first | exact True.intro | refine And.intro ?_ ?_ | intro _)
 all_goals try exact oH
 all_goals try simp only [e0, e1, e2, e3, e4]
 iterate 2 (all_goals try cbv; all_goals with_reducible repeat' first | exact True.intro | refine And.intro ?_ ?_ | intro _)
 all_goals try exact oH
 ·rename_i g1 g2
  simp only [e2, e3, e4] at g1 g2
  obtain ⟨n1, n2, n3⟩ := hnext (of_decide_eq_true (by rw [← hc]; exact g1))
  exact ⟨q - 1, by rw [hs1], hbreak n1 n2 n3 (of_decide_eq_true (hle g2).symm)⟩
 ·rename_i g1 g2
  simp only [e2, e3, e4] at g1 g2
  obtain ⟨n1, n2, n3⟩ := hnext (of_decide_eq_true (by rw [← hc]; exact g1))
  have n4 : r + v1 < 65536 := by have := of_decide_eq_false (hle g2).symm; omega
  simp only [hs1, hs2]
  obtain ⟨y1, hy1⟩ : ∃ y, y = q - 1 := ⟨_, rfl⟩
  obtain ⟨y2, hy2⟩ : ∃ y, y = r + v1 := ⟨_, rfl⟩
  refine ⟨⟨(y1, y2), ?_⟩, ?_, ?_⟩
  rotate_left
  ·cbv
   exact nH
  ·simp only; omega
  ·rw [hy1, hy2]; exact ⟨⟨n1, by simp only; omega, n4, n2, n3⟩, by simp only; omega⟩
 ·rename_i g1
  simp only [e2, e3, e4] at g1
  have n1 := of_decide_eq_false (p := 65536 ≤ q ∨ r * 65536 + x2 < q * v2) (by rw [← hc]; exact g1)
  exact ⟨q, rfl, hexit (by omega) (by omega)⟩

end Tryz
end Go.Proofs

set_option maxHeartbeats 2000000
set_option maxRecDepth 100000
namespace Go.Proofs
open Go Go.Pe Go.Dg
namespace Tryz
set_option linter.unusedSimpArgs false
set_option linter.unusedVariables false
variable {P : Program} {gl : List (Nat × Obj)}

theorem takeAway_fx (C : Cx P gl) {u v : List Int} {p pv : List PV} {j q : Int} {jn : Nat} (hp : p = intsL u) (hpv : pv = intsL v) (hu : Valid u) (hv : Valid v) (hjn : j = jn) (hj : jn + v.length < u.length) (hq0 : 0 ≤ q) (hq1 : q < 65536)
  (hul : u.length ≤ 100000000) :
  FX P gl 262 [.row 3 1 p] [.own 0, .pv (.lst pv), .pv (I j), .pv (I q)] (fun own rr => ∃ o b, own = [.row 3 1 (intsL o)] ∧ rr = .pv (B b) ∧ tkR u v jn q o b) := by
 have hj0 : 0 ≤ j := by omega
 have hj1 : j + v.length < u.length := by omega
 obtain ⟨rfl, hG⟩ := C
 refine FX_ofT (own := fun A => [.row 3 1 p]) (args := fun A => [.own 0, .pv (.lst pv), .pv (I j), .pv (I q)]) (R := fun A ow rr => ∃ o b, ow = [.row 3 1 (A.ints o)] ∧ rr = .pv (B b) ∧ tkR u v jn q o b) Tryz.hT Tryz.mix Tryz.func262 rfl rfl (Nat.le_of_ble_eq_true rfl) ?_
 generalize hP : Tryz.prog = P
 intro A hA
 have C : Tryz.Cx P gl := ⟨hP.symm, hG⟩
 have hI : intsL = A.ints := by subst hA; rfl
 iterate 2 (all_goals try cbv; all_goals with_reducible repeat' first | exact True.intro | refine And.intro ?_ ?_ | intro _)
 all_goals try exact oH
 refine loopI hA [] (ι := Int × Int × List Int) (fun x => [(0, .own 0), (9, .pv (I x.2.1)), (15, .pv (I x.1))]) (fun x => [(0, .row 3 1 (A.ints x.2.2))]) (fun x => (v.length - x.1).toNat) (fun x => tkI u v jn q x.1 x.2.1 x.2.2) (0, 0, u) (by rfl) ?_ ?_ ?_
 all_goals try exact tH
 ·exact tkI_zero hu
 rintro ⟨i, b, o⟩ hinv
 simp only at hinv
 obtain ⟨hi0, hi1, hol, hb0, hb1, hov, _, _⟩ := id hinv
 obtain ⟨x, hx⟩ : ∃ x, x = o.getD (j + i : Int).toNat 0 := ⟨_, rfl⟩
 obtain ⟨y, hy⟩ : ∃ y, y = v.getD i.toNat 0 := ⟨_, rfl⟩
 have gx : 0 ≤ x ∧ x < 65536 := by rw [hx]; exact hov.get _
 have gy : 0 ≤ y ∧ y < 65536 := by rw [hy]; exact hv.get _
 have gm := mul_bound ⟨hq0, hq1⟩ gy
 simp only [natCast_eq] at hjn
 have hkx : (j + i : Int).toNat = jn + i.toNat := by omega
 have hkn : (j + v.length : Int).toNat = jn + v.length := by omega
 have hnext := fun {d b' d' : Int} hi hd => tkI_next (d := d) (b' := b') (d' := d') hv hinv hi (by omega) hq0 hq1 hd
 have hbor := fun {d : Int} hd hn => borrow_law (d := d) gx ⟨hq0, hq1⟩ gy ⟨hb0, hb1⟩ hd hn
 have hexit := fun {t : Int} hi ht => tkI_exit (t := t) hinv hi hj ht
 rw [← hkx] at hnext
 rw [← hx, ← hy] at hnext
 rw [← hkn] at hexit
 obtain ⟨z, hz⟩ : ∃ z, z = o.getD (j + v.length : Int).toNat 0 := ⟨_, rfl⟩
 have gz : 0 ≤ z ∧ z < 65536 := by rw [hz]; exact hov.get _
 rw [← hz] at hexit
 have e0 : A.gi (A.el (A.ints o) (A.nat (A.add .i64 j i))) 0 = x := by clear hnext hexit hbor hinv; (subst hA; subst_vars; simp only [AR.std, natCast_eq, sH, reduceCtorEq] at *; try simp (disch := omega) only [AR.std, natCast_eq, sH, reduceCtorEq] at *)
 have e1 : A.gi (A.el pv (A.nat i)) 0 = y := by clear hnext hexit hbor hinv; (subst hA; subst_vars; simp only [AR.std, natCast_eq, sH, reduceCtorEq] at *; try simp (disch := omega) only [AR.std, natCast_eq, sH, reduceCtorEq] at *)
 obtain ⟨d, hd⟩ : ∃ d, d = x - q * y - b := ⟨_, rfl⟩
 have gd : -4295032832 ≤ d ∧ d < 65536 := by omega
 have e2 : A.sub .i64 (A.sub .i64 x (A.mul .i64 q y)) b = d := by
  have m1 : A.mul .i64 q y = q * y := by subst hA; exact wrapi (by omega) (by omega)
  have m2 : A.sub .i64 x (q * y) = x - q * y := by subst hA; exact wrapi (by omega) (by omega)
  have m3 : A.sub .i64 (x - q * y) b = x - q * y - b := by subst hA; exact wrapi (by omega) (by omega)
  rw [m1, m2, m3, hd]
 have e3 : A.gi (A.el (A.ints o) (A.nat (A.add .i64 j (A.cast (A.len pv))))) 0 = z := by clear hnext hexit hbor hinv; (subst hA; subst_vars; simp only [AR.std, natCast_eq, sH, reduceCtorEq] at *; try simp (disch := omega) only [AR.std, natCast_eq, sH, reduceCtorEq] at *)
 obtain ⟨t, ht⟩ : ∃ t, t = z - b := ⟨_, rfl⟩
 have e4 : A.sub .i64 z b = t := by rw [ht]; subst hA; exact wrapi (by omega) (by omega)
 obtain ⟨o', ho'⟩ : ∃ o', o' = o.set (j + v.length : Int).toNat t := ⟨_, rfl⟩
 have ho'l : o'.length = u.length := by rw [ho', List.length_set]; exact hol
 have e5 : A.set (A.ints o) (A.nat (A.add .i64 j (A.cast (A.len pv)))) (I t) = A.ints o' := by rw [ho']; clear hnext hexit hbor hinv ht; (subst hA; subst_vars; simp only [AR.std, natCast_eq, sH, reduceCtorEq] at *; try simp (disch := omega) only [AR.std, natCast_eq, sH, reduceCtorEq] at *)
 have e6 : A.gi (A.el (A.ints o') (A.nat (A.add .i64 j (A.cast (A.len pv))))) 0 = t := by
  have : o'.getD (j + v.length : Int).toNat 0 = t := by rw [ho', Go.Dg.getD_set_eq (by omega)]
  clear hnext hexit hbor hinv ht ho'; (subst hA; subst_vars; simp only [AR.std, natCast_eq, sH, reduceCtorEq] at *; try simp (disch := omega) only [AR.std, natCast_eq, sH, reduceCtorEq] at *)
  all_goals exact this
 have e7 : A.lt t 0 = decide (t < 0) := by subst hA; rfl
 have hlt : A.lt i (A.cast (A.len pv)) = true → i < v.length := by intro h; clear hnext hexit hbor; subst hA; subst_vars; simp [AR.std, ints_len] at h; omega
 have hge : A.lt i (A.cast (A.len pv)) = false → v.length ≤ i := by intro h; clear hnext hexit hbor; subst hA; subst_vars; simp [AR.std, ints_len] at h; omega
 clear hinv
 iterate 2 (all_goals try cbv; all_goals with_reducible repeat' first | exact True.intro | refine And.intro ?_ ?_ | intro _)
 all_goals try exact oH
 all_goals try simp only [e0, e1, e2, e3, e4, e5, e6] at *
 iterate 2 (all_goals try cbv; all_goals with_reducible repeat' first | exact True.intro | refine And.intro ?_ ?_ | intro _)
 all_goals try exact oH
 all_goals try simp only [e0, e1, e2, e3, e4, e5, e6] at *
 ·rename_i g1 g2
  have hi := hlt g1
  have hd0 : d < 0 := by subst hA; exact of_decide_eq_true g2
  obtain ⟨q1, q2, q3, q4, q5⟩ := hbor hd hd0
  obtain ⟨c, hc⟩ : ∃ c, c = (-d + 65535) / 65536 := ⟨_, rfl⟩
  rw [← hc] at q1 q2 q3 q4
  have f1 : A.quo .i64 (A.sub .i64 (A.add .i64 (A.sub .i64 0 d) 65536) 1) 65536 = c := by
   have m1 : A.sub .i64 0 d = -d := by subst hA; show IntKind.i64.wrap (0 - d) = _; rw [wrapi (by omega) (by omega)]; omega
   have m2 : A.add .i64 (-d) 65536 = -d + 65536 := by subst hA; exact wrapi (by omega) (by omega)
   have m3 : A.sub .i64 (-d + 65536) 1 = -d + 65535 := by subst hA; show IntKind.i64.wrap (-d + 65536 - 1) = _; rw [wrapi (by omega) (by omega)]; omega
   rw [m1, m2, m3, hc]; subst hA
   show IntKind.i64.wrap ((-d + 65535).tdiv 65536) = _
   rw [Int.tdiv_eq_ediv_of_nonneg (by omega), wrapi (by omega) (by omega)]
  have f2 : A.add .i64 d (A.mul .i64 c 65536) = d + c * 65536 := by
   have m1 : A.mul .i64 c 65536 = c * 65536 := by subst hA; exact wrapi (by omega) (by omega)
   rw [m1]; subst hA; exact wrapi (by omega) (by omega)
  have hn := hnext (b' := c) (d' := d + c * 65536) hi hd ⟨q1, q2⟩ rfl q3 q4
  simp only [f1, f2]
  clear hnext hexit hbor hc
  obtain ⟨y1, hy1⟩ : ∃ y, y = i + 1 := ⟨_, rfl⟩
  obtain ⟨y2, hy2⟩ : ∃ y, y = c := ⟨_, rfl⟩
  obtain ⟨y3, hy3⟩ : ∃ y, y = o.set (j + i : Int).toNat (d + c * 65536) := ⟨_, rfl⟩
  refine ⟨⟨(y1, y2, y3), ?_⟩, ?_, ?_⟩
  rotate_left
  ·cbv
   exact nH
  ·(subst hA; subst_vars; simp only [AR.std, natCast_eq, sH, reduceCtorEq] at *; try simp (disch := omega) only [AR.std, natCast_eq, sH, reduceCtorEq] at *); omega
  ·rw [hy1, hy2, hy3]; exact hn
 ·rename_i g1 g2
  have hi := hlt g1
  have hd0 : 0 ≤ d := by subst hA; have := of_decide_eq_false g2; omega
  have hn := hnext (b' := 0) (d' := d) hi hd ⟨Int.le_refl _, by decide⟩ (by omega) hd0 gd.2
  clear hnext hexit hbor
  obtain ⟨y1, hy1⟩ : ∃ y, y = i + 1 := ⟨_, rfl⟩
  obtain ⟨y2, hy2⟩ : ∃ y, y = 0 := ⟨_, rfl⟩
  obtain ⟨y3, hy3⟩ : ∃ y, y = o.set (j + i : Int).toNat d := ⟨_, rfl⟩
  refine ⟨⟨(y1, y2, y3), ?_⟩, ?_, ?_⟩
  rotate_left
  ·cbv
   exact nH
  ·(subst hA; subst_vars; simp only [AR.std, natCast_eq, sH, reduceCtorEq] at *; try simp (disch := omega) only [AR.std, natCast_eq, sH, reduceCtorEq] at *); omega
  ·rw [hy1, hy2, hy3]; exact hn
 ·refine peq_of hA ?_
  have hx : o'.getD (j + v.length : Int).toNat 0 = t := by rw [ho', Go.Dg.getD_set_eq (by omega)]
  have hlen : (j + v.length : Int).toNat < o'.length := by omega
  have hk : A.nat (A.add .i64 j (A.cast (A.len pv))) = (j + v.length : Int).toNat := by clear hnext hexit hbor ho' hx ht; (subst hA; subst_vars; simp only [AR.std, natCast_eq, sH, reduceCtorEq] at *; try simp (disch := omega) only [AR.std, natCast_eq, sH, reduceCtorEq] at *)
  simp only [hk]; subst hA
  exact ints_part o' _ _ hlen hx
 ·rename_i g1
  have htk : tkR u v jn q o' (decide (t < 0)) := by rw [ho']; exact hexit (hge g1) ht
  simp only [e7]
  clear hnext hexit hbor
  subst hA
  exact ⟨[0], _, _, by decide, Nat.le_refl _, rfl, rfl, rfl, rfl, o', _, rfl, rfl, htk⟩

end Tryz
end Go.Proofs

