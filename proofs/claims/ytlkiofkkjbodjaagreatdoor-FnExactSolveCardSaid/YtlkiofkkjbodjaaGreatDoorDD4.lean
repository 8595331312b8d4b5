/- Contracts: trim and up, where the result is a row of one's own. -/
import Derived.Test.YtlkiofkkjbodjaaGreatDoorDD1
import Derived.Test.YtlkiofkkjbodjaaGreatDoorDEvD
set_option maxHeartbeats 2000000
set_option maxRecDepth 100000
namespace Go.Proofs
open Go Go.Pe Go.Dg
namespace Tryz
set_option linter.unusedSimpArgs false
set_option linter.unusedVariables false
variable {P : Program} {gl : List (Nat × Obj)}

theorem addBack_fx (C : Cx P gl) {u v : List Int} {p pv : List PV} {j : Int} {jn : Nat} (hp : p = intsL u) (hpv : pv = intsL v) (hu : ∀ k : Nat, k ≠ jn + v.length → 0 ≤ u.getD k 0 ∧ u.getD k 0 < 65536) (hub : -65535 ≤ u.getD (jn + v.length) 0 ∧ u.getD (jn + v.length) 0 < 65536)
  (hv : Valid v) (hjn : j = jn) (hj : jn + v.length < u.length) (hul : u.length ≤ 100000000) :
  FX P gl 263 [.row 3 1 p] [.own 0, .pv (.lst pv), .pv (I j)] (fun own rr => ∃ o, own = [.row 3 1 (intsL o)] ∧ rr = .tup [] ∧ adR u v jn o) := by
 have hj0 : 0 ≤ j := by omega
 have hj1 : j + v.length < u.length := by omega
 obtain ⟨rfl, hG⟩ := C
 refine FX_ofT (own := fun A => [.row 3 1 p]) (args := fun A => [.own 0, .pv (.lst pv), .pv (I j)]) (R := fun A ow rr => ∃ o, ow = [.row 3 1 (A.ints o)] ∧ rr = .tup [] ∧ adR u v jn o) Tryz.hT Tryz.mix Tryz.func263 rfl rfl (Nat.le_of_ble_eq_true rfl) ?_
 generalize hP : Tryz.prog = P
 intro A hA
 have C : Tryz.Cx P gl := ⟨hP.symm, hG⟩
 have hI : intsL = A.ints := by subst hA; rfl
 iterate 2 all_goals try cbv; with_reducible repeat' first | exact ⟨⟩ | apply And.intro | intro _
 all_goals try exact oH
 refine loopI hA [] (ι := Int × Int × List Int) (fun x => [(0, .own 0), (6, .pv (I x.2.1)), (11, .pv (I x.1))]) (fun x => [(0, .row 3 1 (A.ints x.2.2))]) (fun x => (v.length - x.1).toNat) (fun x => adI u v jn x.1 x.2.1 x.2.2) (0, 0, u) (by rfl) ?_ ?_ ?_
 all_goals try exact tH
 ·exact adI_zero hu
 rintro ⟨i, c, o⟩ hinv
 simp only at hinv
 obtain ⟨hi0, hi1, hol, hc0, hc1, hdig, hsame, _⟩ := id hinv
 simp only [natCast_eq] at hjn
 have hkx : (j + i : Int).toNat = jn + i.toNat := by omega
 have hkn : (j + v.length : Int).toNat = jn + v.length := by omega
 obtain ⟨x, hx⟩ : ∃ x, x = o.getD (j + i : Int).toNat 0 := ⟨_, rfl⟩
 obtain ⟨y, hy⟩ : ∃ y, y = v.getD i.toNat 0 := ⟨_, rfl⟩
 obtain ⟨z, hz⟩ : ∃ z, z = o.getD (j + v.length : Int).toNat 0 := ⟨_, rfl⟩
 have gx : -65535 ≤ x ∧ x < 65536 := by
  rw [hx, hkx]
  by_cases h : jn + i.toNat = jn + v.length
  ·rw [hsame _ (Nat.le_refl _), h]; exact hub
  ·have := hdig (jn + i.toNat) h; omega
 have gy : 0 ≤ y ∧ y < 65536 := by rw [hy]; exact hv.get _
 have gz : -65535 ≤ z ∧ z < 65536 := by rw [hz, hkn, hsame _ (by omega)]; exact hub
 obtain ⟨s, hs⟩ : ∃ s, s = c + (x + y) := ⟨_, rfl⟩
 have gs : -65535 ≤ s ∧ s ≤ 131071 := by omega
 have hnext := fun {s' : Int} hi hs' => adI_next (s := s') hv hinv hi (by omega) hs'
 have hexit := fun hi => adI_exit hinv hi hj
 rw [← hkx] at hnext
 rw [← hx, ← hy] at hnext
 rw [← hkn] at hexit
 rw [← hz] at hexit
 have e0 : A.gi (A.el (A.ints o) (A.nat (A.add .i64 j i))) 0 = x := by clear hnext hexit hinv; (subst hA; subst_vars; simp only [AR.std, natCast_eq, sH, reduceCtorEq] at *; try simp (disch := omega) only [AR.std, natCast_eq, sH, reduceCtorEq] at *)
 have e1 : A.gi (A.el pv (A.nat i)) 0 = y := by clear hnext hexit hinv; (subst hA; subst_vars; simp only [AR.std, natCast_eq, sH, reduceCtorEq] at *; try simp (disch := omega) only [AR.std, natCast_eq, sH, reduceCtorEq] at *)
 have e2 : A.add .i64 c (A.add .i64 x y) = s := by
  have m1 : A.add .i64 x y = x + y := by subst hA; exact wrapi (by omega) (by omega)
  rw [m1, hs]; subst hA; exact wrapi (by omega) (by omega)
 have e3 : A.gi (A.el (A.ints o) (A.nat (A.add .i64 j (A.cast (A.len pv))))) 0 = z := by clear hnext hexit hinv; (subst hA; subst_vars; simp only [AR.std, natCast_eq, sH, reduceCtorEq] at *; try simp (disch := omega) only [AR.std, natCast_eq, sH, reduceCtorEq] at *)
 have e4 : A.add .i64 z c = z + c := by subst hA; exact wrapi (by omega) (by omega)
 have e5 : 0 ≤ s → A.rem .i64 s 65536 = s % 65536 := fun h => by subst hA; exact Int.tmod_eq_emod_of_nonneg h
 have e6 : 0 ≤ s → A.quo .i64 s 65536 = s / 65536 := fun h => by
  subst hA
  show IntKind.i64.wrap (s.tdiv 65536) = _
  rw [Int.tdiv_eq_ediv_of_nonneg h, wrapi (by omega) (by omega)]
 obtain ⟨o', ho'⟩ : ∃ o', o' = o.set (j + v.length : Int).toNat (z + c) := ⟨_, rfl⟩
 have e7 : A.set (A.ints o) (A.nat (A.add .i64 j (A.cast (A.len pv)))) (I (z + c)) = A.ints o' := by rw [ho']; clear hnext hexit hinv; (subst hA; subst_vars; simp only [AR.std, natCast_eq, sH, reduceCtorEq] at *; try simp (disch := omega) only [AR.std, natCast_eq, sH, reduceCtorEq] at *)
 have hlt : A.lt i (A.cast (A.len pv)) = true → i < v.length := by intro h; clear hnext hexit; subst hA; subst_vars; simp [AR.std, ints_len] at h; omega
 have hge : A.lt i (A.cast (A.len pv)) = false → v.length ≤ i := by intro h; clear hnext hexit; subst hA; subst_vars; simp [AR.std, ints_len] at h; omega
 clear hinv
 iterate 2 all_goals try cbv; with_reducible repeat' first | exact ⟨⟩ | apply And.intro | intro _
 all_goals try exact oH
 all_goals try simp only [e0, e1, e2, e3, e4, e7] at *
 iterate 2 all_goals try cbv; with_reducible repeat' first | exact ⟨⟩ | apply And.intro | intro _
 all_goals try exact oH
 all_goals try simp only [e0, e1, e2, e3, e4, e7] at *
 ·rename_i g1
  have hi := hlt g1
  obtain ⟨hn, s0, s1⟩ := hnext hi hs
  have q5 := e5 s0
  have q6 := e6 s0
  simp only [q5, q6]
  clear hnext hexit
  obtain ⟨y1, hy1⟩ : ∃ y, y = i + 1 := ⟨_, rfl⟩
  obtain ⟨y2, hy2⟩ : ∃ y, y = s / 65536 := ⟨_, rfl⟩
  obtain ⟨y3, hy3⟩ : ∃ y, y = o.set (j + i : Int).toNat (s % 65536) := ⟨_, rfl⟩
  refine ⟨⟨(y1, y2, y3), ?_⟩, ?_, ?_⟩
  rotate_left
  ·cbv
   exact nH
  ·exact eH
  ·rw [hy1, hy2, hy3]; exact hn
 ·rename_i g1
  have htk : adR u v jn o' := by rw [ho']; exact hexit (hge g1)
  clear hnext hexit
  subst hA
  exact ⟨[0], _, _, by decide, Nat.le_refl _, rfl, rfl, rfl, rfl, o', rfl, rfl, htk⟩

end Tryz
end Go.Proofs

set_option maxHeartbeats 1000000
set_option maxRecDepth 100000
namespace Go.Proofs
open Go Go.Pe Go.Dg
namespace Tryz
set_option linter.unusedSimpArgs false
set_option linter.unusedVariables false
variable {P : Program} {gl : List (Nat × Obj)}

theorem trim_fx (C : Cx P gl) {l : List Int} {p r : List PV} (hp : p = intsL l) (hr : r = intsL (trimL l)) (he : l.length ≤ 2000000000) :
  FX P gl 223 [.row 3 1 p] [.own 0] (fun own rr => own = [.gone, .row 3 1 r] ∧ rr = .own 1) := by
 refine gX C func223 rfl rfl rfl fun A hA hI => ?_
 cbv
 refine loopI hA [.move 0] (ι := List Int) (fun x => [(0, .own 1)]) (fun x => [(1, .row 3 1 (A.ints x))]) (fun x => x.length) (fun x => trimL x = trimL l ∧ x.length ≤ l.length) l (by rfl) ?_ ?_ ?_
 all_goals try exact tH
 ·exact ⟨rfl, Nat.le_refl _⟩
 rintro o ⟨h1, h2⟩
 all_goals try cbv
 all_goals with_reducible repeat' first | exact True.intro | refine And.intro ?_ ?_ | intro _
 all_goals try exact pH
 iterate 2 all_goals try cbv; with_reducible repeat' first | exact ⟨⟩ | apply And.intro | intro _
 all_goals try cbv
 all_goals with_reducible repeat' first | exact True.intro | refine And.intro ?_ ?_ | intro _
 all_goals try exact oH
 ·rename_i g
  have hc : 0 < o.length ∧ o.getD (o.length - 1) 0 = 0 := by
   subst hA; simp (disch := omega) only [AR.std, natCast_eq, sH, reduceCtorEq] at g
   by_cases h0 : 0 < o.length
   ·have e1 : ((o.length : Int) - 1).toNat = o.length - 1 := by omega
    rw [e1] at g
    simp at g
    exact ⟨h0, by simpa [List.getD] using g.2⟩
   ·simp [h0] at g
  have e1 : ((o.length : Int) - 1).toNat = o.length - 1 := by omega
  obtain ⟨y1, hy1⟩ : ∃ y, y = o.take ((o.length : Int) - 1).toNat := ⟨_, rfl⟩
  refine ⟨⟨y1, ?_⟩, ?_, ?_⟩
  rotate_left
  ·cbv
   exact nH
  ·simp only [hy1, e1, List.length_take]; omega
  ·simp only [hy1, e1]; rw [trimL_take hc.1 hc.2]; exact ⟨h1, by simp only [List.length_take]; omega⟩
 ·rename_i g
  have hc : o.length = 0 ∨ o.getD (o.length - 1) 0 ≠ 0 := by
   subst hA; simp (disch := omega) only [AR.std, natCast_eq, sH, reduceCtorEq] at g
   by_cases h0 : 0 < o.length
   ·have e1 : ((o.length : Int) - 1).toNat = o.length - 1 := by omega
    rw [e1] at g
    simp [h0] at g
    exact .inr (by simpa [List.getD] using g)
   ·left; omega
  have ht : trimL l = o := by
   rw [← h1]
   rcases hc with hz | hz
   ·exact trimL_len0 hz
   ·by_cases h0 : o.length = 0
    ·exact trimL_len0 h0
    ·exact trimL_last (by omega) hz
  subst hA
  refine ⟨[0, 1], _, _, by decide, by decide, rfl, rfl, rfl, rfl, ?_, rfl⟩
  rw [hr, ht]
  rfl

theorem up_fx (C : Cx P gl) {a : List Int} {k : Int} {n : Nat} {p r : List PV} (hp : p = intsL a) (ha : Valid a) (h0 : 0 < a.length) (hk0 : 0 ≤ k) (hk1 : k ≤ 100000000) (hla : a.length ≤ 100000000) (hv : val a * 2 ^ k.toNat = n) (hr : r = intsL (dg n)) :
  FX P gl 186 [] [.pv (.lst p), .pv (I k)] (fun own rr => own = [.row 3 1 r] ∧ rr = .own 0) := by
 refine gX C func186 rfl rfl rfl fun A hA hI => ?_
 iterate 2 all_goals try cbv; with_reducible repeat' first | exact ⟨⟩ | apply And.intro | intro _
 all_goals try exact oH
 refine loopI hA [] (ι := Int × Int × List Int) (fun x => [(5, .own 0), (6, .pv (I x.2.1)), (23, .pv (I x.1))]) (fun x => [(0, .row 3 1 (A.ints x.2.2))]) (fun x => (a.length - x.1).toNat) (fun x => upI a k x.1 x.2.1 x.2.2) (0, 0, List.replicate (k / 16).toNat 0) (by rfl) ?_ ?_ ?_
 all_goals try exact tH
 ·exact upI_zero hk0
 rintro ⟨i, c, o⟩ hinv
 simp only at hinv
 obtain ⟨hi0, hi1, hc0, hc1, hol, hov, _⟩ := id hinv
 obtain ⟨x, hx⟩ : ∃ x, x = a.getD i.toNat 0 := ⟨_, rfl⟩
 have gx : 0 ≤ x ∧ x < 65536 := by rw [hx]; exact ha.get _
 have hp2 := pow2_le (b := k.toNat % 16) (by omega)
 have hxp := shift_bound gx hp2
 obtain ⟨s, hs⟩ : ∃ s, s = c + x * 2 ^ (k.toNat % 16) := ⟨_, rfl⟩
 have hnext := fun hi => upI_next (s := s) ha hinv hi hx hs
 have hexit := fun hi => upI_exit hinv hi hv
 have hlt : A.lt i (A.cast (A.len p)) = true → i < a.length := by intro h; clear hnext hexit; subst hA; subst_vars; simp [AR.std, ints_len] at h; omega
 have hge : A.lt i (A.cast (A.len p)) = false → ¬ i < a.length := by intro h; clear hnext hexit; subst hA; subst_vars; simp [AR.std, ints_len] at h; omega
 have e1 : A.add .i64 c (A.shl .i64 (A.gi (A.el p (A.nat i)) 0) (A.rem .i64 k 16)) = s := by
  have m0 : A.gi (A.el p (A.nat i)) 0 = x := by clear hnext hexit hinv hs hlt hge; (subst hA; subst_vars; simp only [AR.std, natCast_eq, sH, reduceCtorEq] at *; try simp (disch := omega) only [AR.std, natCast_eq, sH, reduceCtorEq] at *)
  rw [m0]
  have m1 : A.rem .i64 k 16 = k % 16 := by subst hA; exact Int.tmod_eq_emod_of_nonneg hk0
  have m3 : min (k % 16).toNat 64 = k.toNat % 16 := by omega
  have m2 : A.shl .i64 x (k % 16) = x * 2 ^ (k.toNat % 16) := by
   subst hA; show IntKind.i64.wrap (x * 2 ^ min (k % 16).toNat 64) = _; rw [m3]; exact wrapi (by omega) (by omega)
  rw [m1, m2, hs]; subst hA; exact wrapi (by omega) (by omega)
 have gs : 0 ≤ s := by omega
 have hlo : (o ++ [c]).length ≤ 2000000000 := by
  simp only [List.length_append, List.length_cons, List.length_nil, hol]; omega
 have e2 : A.rem .i64 s 65536 = s % 65536 := by subst hA; exact Int.tmod_eq_emod_of_nonneg gs
 have e3 : A.quo .i64 s 65536 = s / 65536 := by
  subst hA; show IntKind.i64.wrap (s.tdiv 65536) = _
  rw [Int.tdiv_eq_ediv_of_nonneg gs, wrapi (by omega) (by omega)]
 clear hinv
 iterate 2 all_goals try cbv; with_reducible repeat' first | exact ⟨⟩ | apply And.intro | intro _
 all_goals try exact oH
 ·rename_i g
  have hi := hlt g
  have hn := hnext hi
  simp only [e1, e2, e3]
  clear hnext hexit hlt hge
  obtain ⟨y1, hy1⟩ : ∃ y, y = i + 1 := ⟨_, rfl⟩
  obtain ⟨y2, hy2⟩ : ∃ y, y = s / 65536 := ⟨_, rfl⟩
  obtain ⟨y3, hy3⟩ : ∃ y, y = o ++ [s % 65536] := ⟨_, rfl⟩
  refine ⟨⟨(y1, y2, y3), ?_⟩, ?_, ?_⟩
  rotate_left
  ·cbv
   exact nH
  ·exact eH
  ·rw [hy1, hy2, hy3]; exact hn
 ·rename_i g
  have ht := hexit (hge g)
  clear hnext hexit hlt hge
  refine callX hA [0] (by decide) rfl rfl rfl (trim_fx C (l := o ++ [c]) (r := r) (by subst hA; simp only [AR.std, natCast_eq, sH, reduceCtorEq]) (by rw [ht, hr]) hlo) ?_
  rintro _ _ ⟨rfl, rfl⟩
  refine ⟨rfl, ?_⟩
  iterate 2 all_goals try cbv; with_reducible repeat' first | exact ⟨⟩ | apply And.intro | intro _
  all_goals try exact oH
  subst hA
  exact ⟨[2], _, _, by decide, Nat.zero_le _, rfl, rfl, rfl, rfl, rfl, rfl⟩

end Tryz
end Go.Proofs

