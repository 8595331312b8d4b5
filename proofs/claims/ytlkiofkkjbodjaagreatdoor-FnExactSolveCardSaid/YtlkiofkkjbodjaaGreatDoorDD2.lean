/- Contracts: a multiple taken away in place, a number added in place. -/
import Derived.Test.YtlkiofkkjbodjaaGreatDoorDD1
import Derived.Test.YtlkiofkkjbodjaaGreatDoorDEvD
set_option maxHeartbeats 2000000
set_option maxRecDepth 100000
namespace Go.Proofs
open Go Go.Pe Go.Dg
namespace Tryz
set_option linter.unusedSimpArgs false
set_option linter.unusedVariables false
variable {P : Program} {gl : List (Nat × Obj)}

theorem takeAway_fx (C : Cx P gl) {u v : List Int} {p pv : List PV} {j q : Int} {jn : Nat} (hp : p = intsL u) (hpv : pv = intsL v) (hu : Valid u) (hv : Valid v) (hjn : j = jn) (hj : jn + v.length < u.length) (hq0 : 0 ≤ q) (hq1 : q < 65536)
  (hul : u.length ≤ 100000000) :
  FX P gl 262 [.row 3 1 p] [.own 0, .pv (.lst pv), .pv (I j), .pv (I q)] (fun own rr => ∃ o b, own = [.row 3 1 (intsL o)] ∧ rr = .pv (B b) ∧ tkR u v jn q o b) := by
 have hj0 : 0 ≤ j := by omega
 have hj1 : j + v.length < u.length := by omega
 obtain ⟨rfl, hG⟩ := C
 refine FX_ofT (own := fun A => [.row 3 1 p]) (args := fun A => [.own 0, .pv (.lst pv), .pv (I j), .pv (I q)]) (R := fun A ow rr => ∃ o b, ow = [.row 3 1 (A.ints o)] ∧ rr = .pv (B b) ∧ tkR u v jn q o b) Tryz.hT Tryz.mix Tryz.func262 rfl rfl (Nat.le_of_ble_eq_true rfl) ?_
 generalize hP : Tryz.prog = P
 intro A hA
 have C : Tryz.Cx P gl := ⟨hP.symm, hG⟩
 have hI : intsL = A.ints := by subst hA; rfl
 iterate 2 all_goals try cbv; with_reducible repeat' first | exact ⟨⟩ | apply And.intro | intro _
 all_goals try exact oH
 refine loopI hA [] (ι := Int × Int × List Int) (fun x => [(0, .own 0), (9, .pv (I x.2.1)), (15, .pv (I x.1))]) (fun x => [(0, .row 3 1 (A.ints x.2.2))]) (fun x => (v.length - x.1).toNat) (fun x => tkI u v jn q x.1 x.2.1 x.2.2) (0, 0, u) (by rfl) ?_ ?_ ?_
 all_goals try exact tH
 ·exact tkI_zero hu
 rintro ⟨i, b, o⟩ hinv
 simp only at hinv
 obtain ⟨hi0, hi1, hol, hb0, hb1, hov, _, _⟩ := id hinv
 obtain ⟨x, hx⟩ : ∃ x, x = o.getD (j + i : Int).toNat 0 := ⟨_, rfl⟩
 obtain ⟨y, hy⟩ : ∃ y, y = v.getD i.toNat 0 := ⟨_, rfl⟩
 have gx : 0 ≤ x ∧ x < 65536 := by rw [hx]; exact hov.get _
 have gy : 0 ≤ y ∧ y < 65536 := by rw [hy]; exact hv.get _
 have gm := mul_bound ⟨hq0, hq1⟩ gy
 simp only [natCast_eq] at hjn
 have hkx : (j + i : Int).toNat = jn + i.toNat := by omega
 have hkn : (j + v.length : Int).toNat = jn + v.length := by omega
 have hnext := fun {d b' d' : Int} hi hd => tkI_next (d := d) (b' := b') (d' := d') hv hinv hi (by omega) hq0 hq1 hd
 have hbor := fun {d : Int} hd hn => borrow_law (d := d) gx ⟨hq0, hq1⟩ gy ⟨hb0, hb1⟩ hd hn
 have hexit := fun {t : Int} hi ht => tkI_exit (t := t) hinv hi hj ht
 rw [← hkx] at hnext
 rw [← hx, ← hy] at hnext
 rw [← hkn] at hexit
 obtain ⟨z, hz⟩ : ∃ z, z = o.getD (j + v.length : Int).toNat 0 := ⟨_, rfl⟩
 have gz : 0 ≤ z ∧ z < 65536 := by rw [hz]; exact hov.get _
 rw [← hz] at hexit
 have e0 : A.gi (A.el (A.ints o) (A.nat (A.add .i64 j i))) 0 = x := by clear hnext hexit hbor hinv; (subst hA; subst_vars; simp only [AR.std, natCast_eq, sH, reduceCtorEq] at *; try simp (disch := omega) only [AR.std, natCast_eq, sH, reduceCtorEq] at *)
 have e1 : A.gi (A.el pv (A.nat i)) 0 = y := by clear hnext hexit hbor hinv; (subst hA; subst_vars; simp only [AR.std, natCast_eq, sH, reduceCtorEq] at *; try simp (disch := omega) only [AR.std, natCast_eq, sH, reduceCtorEq] at *)
 obtain ⟨d, hd⟩ : ∃ d, d = x - q * y - b := ⟨_, rfl⟩
 have gd : -4295032832 ≤ d ∧ d < 65536 := by omega
 have e2 : A.sub .i64 (A.sub .i64 x (A.mul .i64 q y)) b = d := by
  have m1 : A.mul .i64 q y = q * y := by subst hA; exact wrapi (by omega) (by omega)
  have m2 : A.sub .i64 x (q * y) = x - q * y := by subst hA; exact wrapi (by omega) (by omega)
  have m3 : A.sub .i64 (x - q * y) b = x - q * y - b := by subst hA; exact wrapi (by omega) (by omega)
  rw [m1, m2, m3, hd]
 have e3 : A.gi (A.el (A.ints o) (A.nat (A.add .i64 j (A.cast (A.len pv))))) 0 = z := by clear hnext hexit hbor hinv; (subst hA; subst_vars; simp only [AR.std, natCast_eq, sH, reduceCtorEq] at *; try simp (disch := omega) only [AR.std, natCast_eq, sH, reduceCtorEq] at *)
 obtain ⟨t, ht⟩ : ∃ t, t = z - b := ⟨_, rfl⟩
 have e4 : A.sub .i64 z b = t := by rw [ht]; subst hA; exact wrapi (by omega) (by omega)
 obtain ⟨o', ho'⟩ : ∃ o', o' = o.set (j + v.length : Int).toNat t := ⟨_, rfl⟩
 have ho'l : o'.length = u.length := by rw [ho', List.length_set]; exact hol
 have e5 : A.set (A.ints o) (A.nat (A.add .i64 j (A.cast (A.len pv)))) (I t) = A.ints o' := by rw [ho']; clear hnext hexit hbor hinv ht; (subst hA; subst_vars; simp only [AR.std, natCast_eq, sH, reduceCtorEq] at *; try simp (disch := omega) only [AR.std, natCast_eq, sH, reduceCtorEq] at *)
 have e6 : A.gi (A.el (A.ints o') (A.nat (A.add .i64 j (A.cast (A.len pv))))) 0 = t := by
  have : o'.getD (j + v.length : Int).toNat 0 = t := by rw [ho', Go.Dg.getD_set_eq (by omega)]
  clear hnext hexit hbor hinv ht ho'; (subst hA; subst_vars; simp only [AR.std, natCast_eq, sH, reduceCtorEq] at *; try simp (disch := omega) only [AR.std, natCast_eq, sH, reduceCtorEq] at *)
  all_goals exact this
 have e7 : A.lt t 0 = decide (t < 0) := by subst hA; rfl
 have hlt : A.lt i (A.cast (A.len pv)) = true → i < v.length := by intro h; clear hnext hexit hbor; subst hA; subst_vars; simp [AR.std, ints_len] at h; omega
 have hge : A.lt i (A.cast (A.len pv)) = false → v.length ≤ i := by intro h; clear hnext hexit hbor; subst hA; subst_vars; simp [AR.std, ints_len] at h; omega
 clear hinv
 iterate 2 all_goals try cbv; with_reducible repeat' first | exact ⟨⟩ | apply And.intro | intro _
 all_goals try exact oH
 all_goals try simp only [e0, e1, e2, e3, e4, e5, e6] at *
 iterate 2 all_goals try cbv; with_reducible repeat' first | exact ⟨⟩ | apply And.intro | intro _
 all_goals try exact oH
 all_goals try simp only [e0, e1, e2, e3, e4, e5, e6] at *
 ·rename_i g1 g2
  have hi := hlt g1
  have hd0 : d < 0 := by subst hA; exact of_decide_eq_true g2
  obtain ⟨q1, q2, q3, q4, q5⟩ := hbor hd hd0
  obtain ⟨c, hc⟩ : ∃ c, c = (-d + 65535) / 65536 := ⟨_, rfl⟩
  rw [← hc] at q1 q2 q3 q4
  have f1 : A.quo .i64 (A.sub .i64 (A.add .i64 (A.sub .i64 0 d) 65536) 1) 65536 = c := by
   have m1 : A.sub .i64 0 d = -d := by subst hA; show IntKind.i64.wrap (0 - d) = _; rw [wrapi (by omega) (by omega)]; omega
   have m2 : A.add .i64 (-d) 65536 = -d + 65536 := by subst hA; exact wrapi (by omega) (by omega)
   have m3 : A.sub .i64 (-d + 65536) 1 = -d + 65535 := by subst hA; show IntKind.i64.wrap (-d + 65536 - 1) = _; rw [wrapi (by omega) (by omega)]; omega
   rw [m1, m2, m3, hc]; subst hA
   show IntKind.i64.wrap ((-d + 65535).tdiv 65536) = _
   rw [Int.tdiv_eq_ediv_of_nonneg (by omega), wrapi (by omega) (by omega)]
  have f2 : A.add .i64 d (A.mul .i64 c 65536) = d + c * 65536 := by
   have m1 : A.mul .i64 c 65536 = c * 65536 := by subst hA; exact wrapi (by omega) (by omega)
   rw [m1]; subst hA; exact wrapi (by omega) (by omega)
  have hn := hnext (b' := c) (d' := d + c * 65536) hi hd ⟨q1, q2⟩ rfl q3 q4
  simp only [f1, f2]
  clear hnext hexit hbor hc
  obtain ⟨y1, hy1⟩ : ∃ y, y = i + 1 := ⟨_, rfl⟩
  obtain ⟨y2, hy2⟩ : ∃ y, y = c := ⟨_, rfl⟩
  obtain ⟨y3, hy3⟩ : ∃ y, y = o.set (j + i : Int).toNat (d + c * 65536) := ⟨_, rfl⟩
  refine ⟨⟨(y1, y2, y3), ?_⟩, ?_, ?_⟩
  rotate_left
  ·cbv
   exact nH
  ·exact eH
  ·rw [hy1, hy2, hy3]; exact hn
 ·rename_i g1 g2
  have hi := hlt g1
  have hd0 : 0 ≤ d := by subst hA; have := of_decide_eq_false g2; omega
  have hn := hnext (b' := 0) (d' := d) hi hd ⟨Int.le_refl _, by decide⟩ (by omega) hd0 gd.2
  clear hnext hexit hbor
  obtain ⟨y1, hy1⟩ : ∃ y, y = i + 1 := ⟨_, rfl⟩
  obtain ⟨y2, hy2⟩ : ∃ y, y = 0 := ⟨_, rfl⟩
  obtain ⟨y3, hy3⟩ : ∃ y, y = o.set (j + i : Int).toNat d := ⟨_, rfl⟩
  refine ⟨⟨(y1, y2, y3), ?_⟩, ?_, ?_⟩
  rotate_left
  ·cbv
   exact nH
  ·exact eH
  ·rw [hy1, hy2, hy3]; exact hn
 ·refine peq_of hA ?_
  have hx : o'.getD (j + v.length : Int).toNat 0 = t := by rw [ho', Go.Dg.getD_set_eq (by omega)]
  have hlen : (j + v.length : Int).toNat < o'.length := by omega
  have hk : A.nat (A.add .i64 j (A.cast (A.len pv))) = (j + v.length : Int).toNat := by clear hnext hexit hbor ho' hx ht; (subst hA; subst_vars; simp only [AR.std, natCast_eq, sH, reduceCtorEq] at *; try simp (disch := omega) only [AR.std, natCast_eq, sH, reduceCtorEq] at *)
  simp only [hk]; subst hA
  exact ints_part o' _ _ hlen hx
 ·rename_i g1
  have htk : tkR u v jn q o' (decide (t < 0)) := by rw [ho']; exact hexit (hge g1) ht
  simp only [e7]
  clear hnext hexit hbor
  subst hA
  exact ⟨[0], _, _, by decide, Nat.le_refl _, rfl, rfl, rfl, rfl, o', _, rfl, rfl, htk⟩

end Tryz
end Go.Proofs
