/- Contracts: a number added in place. -/
import Derived.Test.YtcbagjglchpagaaDoorFN3
import Derived.Test.YtcbagjglchpagaaDoorFEvD
namespace Go.Proofs
open Go Go.Pe Go.Dg
namespace Tryd
set_option linter.unusedSimpArgs false
set_option linter.unusedVariables false
variable {P : Program} {gl : List (Nat × Obj)}

set_option maxHeartbeats 2000000 in
set_option maxRecDepth 100000 in
theorem addBack_fx (C : Cx P gl) {u v : List Int} {p pv : List PV} {j : Int} {jn : Nat} (hp : p = intsL u) (hpv : pv = intsL v) (hu : ∀ k : Nat, k ≠ jn + v.length → 0 ≤ u.getD k 0 ∧ u.getD k 0 < 65536) (hub : -65535 ≤ u.getD (jn + v.length) 0 ∧ u.getD (jn + v.length) 0 < 65536)
    (hv : Valid v) (hjn : j = jn) (hj : jn + v.length < u.length) (hul : u.length ≤ 100000000) :
    FX P gl 193 [.row 3 1 p] [.own 0, .pv (.lst pv), .pv (I j)] (fun own rr => ∃ o, own = [.row 3 1 (intsL o)] ∧ rr = .tup [] ∧ adR u v jn o) := by
  have hj0 : 0 ≤ j := by omega
  have hj1 : j + v.length < u.length := by omega
  obtain ⟨rfl, hG⟩ := C
  refine FX_ofT (own := fun A => [.row 3 1 p]) (args := fun A => [.own 0, .pv (.lst pv), .pv (I j)]) (R := fun A ow rr => ∃ o, ow = [.row 3 1 (A.ints o)] ∧ rr = .tup [] ∧ adR u v jn o) Tryd.hT Tryd.mix Tryd.func193 rfl rfl (Nat.le_of_ble_eq_true rfl) ?_
  generalize hP : Tryd.prog = P
  intro A hA
  have C : Tryd.Cx P gl := ⟨hP.symm, hG⟩
  have hI : intsL = A.ints := by subst hA; rfl
  iterate 2 (all_goals try cbv; all_goals repeat' (first | with_reducible exact True.intro | with_reducible refine And.intro ?_ ?_ | intro _))
  all_goals try exact oH
  refine loopI hA [] (ι := Int × Int × List Int) (fun x => [(0, .own 0), (6, .pv (I x.2.1)), (11, .pv (I x.1))]) (fun x => [(0, .row 3 1 (A.ints x.2.2))]) (fun x => (v.length - x.1).toNat) (fun x => adI u v jn x.1 x.2.1 x.2.2) (0, 0, u) (by rfl) ?_ ?_ ?_
  all_goals try exact tH
  · exact adI_zero hu
  rintro ⟨i, c, o⟩ hinv
  simp only at hinv
  obtain ⟨hi0, hi1, hol, hc0, hc1, hdig, hsame, _⟩ := id hinv
  simp only [natCast_eq] at hjn
  have hkx : (j + i : Int).toNat = jn + i.toNat := by omega
  have hkn : (j + v.length : Int).toNat = jn + v.length := by omega
  obtain ⟨x, hx⟩ : ∃ x, x = o.getD (j + i : Int).toNat 0 := ⟨_, rfl⟩
  obtain ⟨y, hy⟩ : ∃ y, y = v.getD i.toNat 0 := ⟨_, rfl⟩
  obtain ⟨z, hz⟩ : ∃ z, z = o.getD (j + v.length : Int).toNat 0 := ⟨_, rfl⟩
  have gx : -65535 ≤ x ∧ x < 65536 := by
    rw [hx, hkx]
    by_cases h : jn + i.toNat = jn + v.length
    · rw [hsame _ (Nat.le_refl _), h]; exact hub
    · have := hdig (jn + i.toNat) h; omega
  have gy : 0 ≤ y ∧ y < 65536 := by rw [hy]; exact hv.get _
  have gz : -65535 ≤ z ∧ z < 65536 := by rw [hz, hkn, hsame _ (by omega)]; exact hub
  obtain ⟨s, hs⟩ : ∃ s, s = c + (x + y) := ⟨_, rfl⟩
  have gs : -65535 ≤ s ∧ s ≤ 131071 := by omega
  have hnext := fun {s' : Int} hi hs' => adI_next (s := s') hv hinv hi (by omega) hs'
  have hexit := fun hi => adI_exit hinv hi hj
  rw [← hkx] at hnext
  rw [← hx, ← hy] at hnext
  rw [← hkn] at hexit
  rw [← hz] at hexit
  have e0 : A.gi (A.el (A.ints o) (A.nat (A.add .i64 j i))) 0 = x := by clear hnext hexit hinv; (subst hA; subst_vars; simp only [AR.std, natCast_eq, sH, reduceCtorEq] at *; try simp (disch := omega) only [AR.std, natCast_eq, sH, reduceCtorEq] at *)
  have e1 : A.gi (A.el pv (A.nat i)) 0 = y := by clear hnext hexit hinv; (subst hA; subst_vars; simp only [AR.std, natCast_eq, sH, reduceCtorEq] at *; try simp (disch := omega) only [AR.std, natCast_eq, sH, reduceCtorEq] at *)
  have e2 : A.add .i64 c (A.add .i64 x y) = s := by
    have m1 : A.add .i64 x y = x + y := by subst hA; exact wrapi (by omega) (by omega)
    rw [m1, hs]; subst hA; exact wrapi (by omega) (by omega)
  have e3 : A.gi (A.el (A.ints o) (A.nat (A.add .i64 j (A.cast (A.len pv))))) 0 = z := by clear hnext hexit hinv; (subst hA; subst_vars; simp only [AR.std, natCast_eq, sH, reduceCtorEq] at *; try simp (disch := omega) only [AR.std, natCast_eq, sH, reduceCtorEq] at *)
  have e4 : A.add .i64 z c = z + c := by subst hA; exact wrapi (by omega) (by omega)
  have e5 : 0 ≤ s → A.rem .i64 s 65536 = s % 65536 := fun h => by subst hA; exact Int.tmod_eq_emod_of_nonneg h
  have e6 : 0 ≤ s → A.quo .i64 s 65536 = s / 65536 := fun h => by
    subst hA
    show IntKind.i64.wrap (s.tdiv 65536) = _
    rw [Int.tdiv_eq_ediv_of_nonneg h, wrapi (by omega) (by omega)]
  obtain ⟨o', ho'⟩ : ∃ o', o' = o.set (j + v.length : Int).toNat (z + c) := ⟨_, rfl⟩
  have e7 : A.set (A.ints o) (A.nat (A.add .i64 j (A.cast (A.len pv)))) (I (z + c)) = A.ints o' := by rw [ho']; clear hnext hexit hinv; (subst hA; subst_vars; simp only [AR.std, natCast_eq, sH, reduceCtorEq] at *; try simp (disch := omega) only [AR.std, natCast_eq, sH, reduceCtorEq] at *)
  have hlt : A.lt i (A.cast (A.len pv)) = true → i < v.length := by intro h; clear hnext hexit; subst hA; subst_vars; simp [AR.std, ints_len] at h; omega
  have hge : A.lt i (A.cast (A.len pv)) = false → v.length ≤ i := by intro h; clear hnext hexit; subst hA; subst_vars; simp [AR.std, ints_len] at h; omega
  clear hinv
  iterate 2 (all_goals try cbv; all_goals repeat' (first | with_reducible exact True.intro | with_reducible refine And.intro ?_ ?_ | intro _))
  all_goals try exact oH
  all_goals try simp only [e0, e1, e2, e3, e4, e7] at *
  iterate 2 (all_goals try cbv; all_goals repeat' (first | with_reducible exact True.intro | with_reducible refine And.intro ?_ ?_ | intro _))
  all_goals try exact oH
  all_goals try simp only [e0, e1, e2, e3, e4, e7] at *
  · rename_i g1
    have hi := hlt g1
    obtain ⟨hn, s0, s1⟩ := hnext hi hs
    have q5 := e5 s0
    have q6 := e6 s0
    simp only [q5, q6]
    clear hnext hexit
    obtain ⟨y1, hy1⟩ : ∃ y, y = i + 1 := ⟨_, rfl⟩
    obtain ⟨y2, hy2⟩ : ∃ y, y = s / 65536 := ⟨_, rfl⟩
    obtain ⟨y3, hy3⟩ : ∃ y, y = o.set (j + i : Int).toNat (s % 65536) := ⟨_, rfl⟩
    refine ⟨⟨(y1, y2, y3), ?_⟩, ?_, ?_⟩
    rotate_left
    · cbv
      exact nH
    · (subst hA; subst_vars; simp only [AR.std, natCast_eq, sH, reduceCtorEq] at *; try simp (disch := omega) only [AR.std, natCast_eq, sH, reduceCtorEq] at *); omega
    · rw [hy1, hy2, hy3]; exact hn
  · rename_i g1
    have htk : adR u v jn o' := by rw [ho']; exact hexit (hge g1)
    clear hnext hexit
    subst hA
    exact ⟨[0], _, _, by decide, Nat.le_refl _, rfl, rfl, rfl, rfl, o', rfl, rfl, htk⟩

end Tryd
end Go.Proofs
