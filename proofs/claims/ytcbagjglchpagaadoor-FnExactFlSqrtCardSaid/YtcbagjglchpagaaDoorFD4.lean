/- Contracts: trim and up, where the result is a row of one's own. -/
import Derived.Test.YtcbagjglchpagaaDoorFN3
import Derived.Test.YtcbagjglchpagaaDoorFEvD
namespace Go.Proofs
open Go Go.Pe Go.Dg
namespace Tryd
set_option linter.unusedSimpArgs false
set_option linter.unusedVariables false
variable {P : Program} {gl : List (Nat × Obj)}

set_option maxRecDepth 100000 in
theorem trim_fx (C : Cx P gl) {l : List Int} {p r : List PV} (hp : p = intsL l) (hr : r = intsL (trimL l)) (he : l.length ≤ 2000000000) :
    FX P gl 131 [.row 3 1 p] [.own 0] (fun own rr => own = [.gone, .row 3 1 r] ∧ rr = .own 1) := by
  obtain ⟨rfl, hG⟩ := C
  refine FX_ofT (own := fun A => [.row 3 1 p]) (args := fun A => [.own 0]) (R := fun A ow rr => ow = [.gone, .row 3 1 r] ∧ rr = .own 1) Tryd.hT Tryd.mix Tryd.func131 rfl rfl (Nat.le_of_ble_eq_true rfl) ?_
  generalize hP : Tryd.prog = P
  intro A hA
  have C : Tryd.Cx P gl := ⟨hP.symm, hG⟩
  have hI : intsL = A.ints := by subst hA; rfl
  cbv
  refine loopI hA [.move 0] (ι := List Int) (fun x => [(0, .own 1)]) (fun x => [(1, .row 3 1 (A.ints x))]) (fun x => x.length) (fun x => trimL x = trimL l ∧ x.length ≤ l.length) l (by rfl) ?_ ?_ ?_
  all_goals try exact tH
  · exact ⟨rfl, Nat.le_refl _⟩
  rintro o ⟨h1, h2⟩
  all_goals try cbv
  all_goals repeat' (first | with_reducible exact True.intro | with_reducible refine And.intro ?_ ?_ | intro _)
  all_goals try exact pH
  iterate 2 (all_goals try cbv; all_goals repeat' (first | with_reducible exact True.intro | with_reducible refine And.intro ?_ ?_ | intro _))
  all_goals try cbv
  all_goals repeat' (first | with_reducible exact True.intro | with_reducible refine And.intro ?_ ?_ | intro _)
  all_goals try exact oH
  · rename_i g
    have hc : 0 < o.length ∧ o.getD (o.length - 1) 0 = 0 := by
      subst hA; simp (disch := omega) only [AR.std, natCast_eq, sH, reduceCtorEq] at g
      by_cases h0 : 0 < o.length
      · have e1 : ((o.length : Int) - 1).toNat = o.length - 1 := by omega
        rw [e1] at g
        simp at g
        exact ⟨h0, by simpa [List.getD] using g.2⟩
      · simp [h0] at g
    have e1 : ((o.length : Int) - 1).toNat = o.length - 1 := by omega
    obtain ⟨y1, hy1⟩ : ∃ y, y = o.take ((o.length : Int) - 1).toNat := ⟨_, rfl⟩
    refine ⟨⟨y1, ?_⟩, ?_, ?_⟩
    rotate_left
    · cbv
      exact nH
    · simp only [hy1, e1, List.length_take]; omega
    · simp only [hy1, e1]; rw [trimL_take hc.1 hc.2]; exact ⟨h1, by simp only [List.length_take]; omega⟩
  · rename_i g
    have hc : o.length = 0 ∨ o.getD (o.length - 1) 0 ≠ 0 := by
      subst hA; simp (disch := omega) only [AR.std, natCast_eq, sH, reduceCtorEq] at g
      by_cases h0 : 0 < o.length
      · have e1 : ((o.length : Int) - 1).toNat = o.length - 1 := by omega
        rw [e1] at g
        simp [h0] at g
        exact .inr (by simpa [List.getD] using g)
      · left; omega
    have ht : trimL l = o := by
      rw [← h1]
      rcases hc with hz | hz
      · exact trimL_len0 hz
      · by_cases h0 : o.length = 0
        · exact trimL_len0 h0
        · exact trimL_last (by omega) hz
    subst hA
    refine ⟨[0, 1], _, _, by decide, by decide, rfl, rfl, rfl, rfl, ?_, rfl⟩
    rw [hr, ht]
    rfl

set_option maxHeartbeats 1000000 in
set_option maxRecDepth 100000 in
theorem up_fx (C : Cx P gl) {a : List Int} {k : Int} {n : Nat} {p r : List PV} (hp : p = intsL a) (ha : Valid a) (h0 : 0 < a.length) (hk0 : 0 ≤ k) (hk1 : k ≤ 100000000) (hla : a.length ≤ 100000000) (hv : val a * 2 ^ k.toNat = n) (hr : r = intsL (dg n)) :
    FX P gl 87 [] [.pv (.lst p), .pv (I k)] (fun own rr => own = [.row 3 1 r] ∧ rr = .own 0) := by
  obtain ⟨rfl, hG⟩ := C
  refine FX_ofT (own := fun A => []) (args := fun A => [.pv (.lst p), .pv (I k)]) (R := fun A ow rr => ow = [.row 3 1 r] ∧ rr = .own 0) Tryd.hT Tryd.mix Tryd.func87 rfl rfl (Nat.le_of_ble_eq_true rfl) ?_
  generalize hP : Tryd.prog = P
  intro A hA
  have C : Tryd.Cx P gl := ⟨hP.symm, hG⟩
  have hI : intsL = A.ints := by subst hA; rfl
  iterate 2 (all_goals try cbv; all_goals repeat' (first | with_reducible exact True.intro | with_reducible refine And.intro ?_ ?_ | intro _))
  all_goals try exact oH
  refine loopI hA [] (ι := Int × Int × List Int) (fun x => [(5, .own 0), (6, .pv (I x.2.1)), (23, .pv (I x.1))]) (fun x => [(0, .row 3 1 (A.ints x.2.2))]) (fun x => (a.length - x.1).toNat) (fun x => upI a k x.1 x.2.1 x.2.2) (0, 0, List.replicate (k / 16).toNat 0) (by rfl) ?_ ?_ ?_
  all_goals try exact tH
  · exact upI_zero hk0
  rintro ⟨i, c, o⟩ hinv
  simp only at hinv
  obtain ⟨hi0, hi1, hc0, hc1, hol, hov, _⟩ := id hinv
  obtain ⟨x, hx⟩ : ∃ x, x = a.getD i.toNat 0 := ⟨_, rfl⟩
  have gx : 0 ≤ x ∧ x < 65536 := by rw [hx]; exact ha.get _
  have hp2 := pow2_le (b := k.toNat % 16) (by omega)
  have hxp := shift_bound gx hp2
  obtain ⟨s, hs⟩ : ∃ s, s = c + x * 2 ^ (k.toNat % 16) := ⟨_, rfl⟩
  have hnext := fun hi => upI_next (s := s) ha hinv hi hx hs
  have hexit := fun hi => upI_exit hinv hi hv
  have hlt : A.lt i (A.cast (A.len p)) = true → i < a.length := by intro h; clear hnext hexit; subst hA; subst_vars; simp [AR.std, ints_len] at h; omega
  have hge : A.lt i (A.cast (A.len p)) = false → ¬ i < a.length := by intro h; clear hnext hexit; subst hA; subst_vars; simp [AR.std, ints_len] at h; omega
  have e1 : A.add .i64 c (A.shl .i64 (A.gi (A.el p (A.nat i)) 0) (A.rem .i64 k 16)) = s := by
    have m0 : A.gi (A.el p (A.nat i)) 0 = x := by clear hnext hexit hinv hs hlt hge; (subst hA; subst_vars; simp only [AR.std, natCast_eq, sH, reduceCtorEq] at *; try simp (disch := omega) only [AR.std, natCast_eq, sH, reduceCtorEq] at *)
    rw [m0]
    have m1 : A.rem .i64 k 16 = k % 16 := by subst hA; exact Int.tmod_eq_emod_of_nonneg hk0
    have m3 : min (k % 16).toNat 64 = k.toNat % 16 := by omega
    have m2 : A.shl .i64 x (k % 16) = x * 2 ^ (k.toNat % 16) := by
      subst hA; show IntKind.i64.wrap (x * 2 ^ min (k % 16).toNat 64) = _; rw [m3]; exact wrapi (by omega) (by omega)
    rw [m1, m2, hs]; subst hA; exact wrapi (by omega) (by omega)
  have gs : 0 ≤ s := by omega
  have hlo : (o ++ [c]).length ≤ 2000000000 := by
    simp only [List.length_append, List.length_cons, List.length_nil, hol]; omega
  have e2 : A.rem .i64 s 65536 = s % 65536 := by subst hA; exact Int.tmod_eq_emod_of_nonneg gs
  have e3 : A.quo .i64 s 65536 = s / 65536 := by
    subst hA; show IntKind.i64.wrap (s.tdiv 65536) = _
    rw [Int.tdiv_eq_ediv_of_nonneg gs, wrapi (by omega) (by omega)]
  clear hinv
  iterate 2 (all_goals try cbv; all_goals repeat' (first | with_reducible exact True.intro | with_reducible refine And.intro ?_ ?_ | intro _))
  all_goals try exact oH
  · rename_i g
    have hi := hlt g
    have hn := hnext hi
    simp only [e1, e2, e3]
    clear hnext hexit hlt hge
    obtain ⟨y1, hy1⟩ : ∃ y, y = i + 1 := ⟨_, rfl⟩
    obtain ⟨y2, hy2⟩ : ∃ y, y = s / 65536 := ⟨_, rfl⟩
    obtain ⟨y3, hy3⟩ : ∃ y, y = o ++ [s % 65536] := ⟨_, rfl⟩
    refine ⟨⟨(y1, y2, y3), ?_⟩, ?_, ?_⟩
    rotate_left
    · cbv
      exact nH
    · (subst hA; subst_vars; simp only [AR.std, natCast_eq, sH, reduceCtorEq] at *; try simp (disch := omega) only [AR.std, natCast_eq, sH, reduceCtorEq] at *); omega
    · rw [hy1, hy2, hy3]; exact hn
  · rename_i g
    have ht := hexit (hge g)
    clear hnext hexit hlt hge
    refine callX hA [0] (by decide) rfl rfl rfl (trim_fx C (l := o ++ [c]) (r := r) (by subst hA; simp only [AR.std, natCast_eq, sH, reduceCtorEq]) (by rw [ht, hr]) hlo) ?_
    rintro _ _ ⟨rfl, rfl⟩
    refine ⟨rfl, ?_⟩
    iterate 2 (all_goals try cbv; all_goals repeat' (first | with_reducible exact True.intro | with_reducible refine And.intro ?_ ?_ | intro _))
    all_goals try exact oH
    subst hA
    exact ⟨[2], _, _, by decide, Nat.zero_le _, rfl, rfl, rfl, rfl, rfl, rfl⟩

end Tryd
end Go.Proofs
