/- Contracts: the law's own helpers: marks, where there is nothing to be marked. -/
import Derived.Test.YtcbagjglchpagaaGreatDoorMM2
namespace Go.Proofs
open Go Go.Pe Go.Dg
namespace Tryz
set_option linter.unusedSimpArgs false
set_option linter.unusedVariables false
variable {P : Program} {gl : List (Nat × Obj)}

/-- the state of the marking loop -/
def mkI (l : List Int) (k : Int) (i q : Int) (o : List Int) : Prop := 0 ≤ i ∧ i ≤ l.length ∧ q = k + i ∧ o.length = l.length ∧ ∀ j : Nat, j < i.toNat → o.getD j 0 = k + j

theorem mkI_zero (l : List Int) (k : Int) : mkI l k 0 k l := ⟨Int.le_refl _, by omega, by omega, rfl, fun j hj => by simp at hj⟩

theorem mkI_next {l : List Int} {k i q : Int} {o : List Int} (h : mkI l k i q o) (hi : i < l.length) : mkI l k (i + 1) (q + 1) (o.set i.toNat q) := by
  obtain ⟨a, b, c, d, e⟩ := h
  refine ⟨by omega, by omega, by omega, by rw [List.length_set]; exact d, fun j hj => ?_⟩
  by_cases he : j = i.toNat
  · subst he; rw [Go.Dg.getD_set_eq (by omega)]; omega
  · rw [Go.Dg.getD_set_ne (by omega)]; exact e j (by omega)

theorem mkI_exit {l : List Int} {k i q : Int} {o : List Int} (h : mkI l k i q o) (hi : l.length ≤ i) : o = up1 k l.length ∧ q = k + l.length := by
  obtain ⟨a, b, c, d, e⟩ := h
  refine ⟨?_, by omega⟩
  apply ext_getD (by rw [up1_len]; exact d)
  intro j hj
  rw [up1_get k _ j (by omega)]
  exact e j (by omega)

set_option maxHeartbeats 1000000 in
set_option maxRecDepth 100000 in
theorem markIntS_fx (C : Cx P gl) {l : List Int} {p r : List PV} {k z : Int} (hp : p = intsL l) (hr : r = intsL (up1 k l.length)) (hz : z = k + l.length) (hl : l.length ≤ 2000000) (hk0 : 0 ≤ k) (hk : k ≤ 1000000000) :
    FX P gl 121 [.row 3 1 p] [.own 0, .pv (I k)] (fun own rr => own = [.row 3 1 r] ∧ rr = .pv (I z)) := by
  obtain ⟨rfl, hG⟩ := C
  refine FX_ofT (own := fun A => [.row 3 1 p]) (args := fun A => [.own 0, .pv (I k)]) (R := fun A ow rr => ow = [.row 3 1 r] ∧ rr = .pv (I z)) Tryz.hT Tryz.mix Tryz.func121 rfl rfl (Nat.le_of_ble_eq_true rfl) ?_
  generalize hP : Tryz.prog = P
  intro A hA
  have C : Tryz.Cx P gl := ⟨hP.symm, hG⟩
  have hI : intsL = A.ints := by subst hA; rfl
  iterate 2 (all_goals try cbv; all_goals repeat' (first | with_reducible exact True.intro | with_reducible refine And.intro ?_ ?_ | intro _))
  all_goals try exact oH
  refine loopI hA [] (ι := Int × Int × List Int) (fun x => [(0, .own 0), (1, .pv (I x.2.1)), (5, .pv (I x.1))]) (fun x => [(0, .row 3 1 (A.ints x.2.2))]) (fun x => (l.length - x.1).toNat) (fun x => mkI l k x.1 x.2.1 x.2.2) (0, k, l) (by rfl) ?_ ?_ ?_
  all_goals try exact tH
  · exact mkI_zero l k
  rintro ⟨i, q, o⟩ hinv
  simp only at hinv
  have hnext := fun hi => mkI_next hinv hi
  have hexit := fun hi => mkI_exit hinv hi
  obtain ⟨hi0, hi1, hq, hol, _⟩ := id hinv
  clear hinv
  iterate 2 (all_goals try cbv; all_goals repeat' (first | with_reducible exact True.intro | with_reducible refine And.intro ?_ ?_ | intro _))
  all_goals try exact oH
  iterate 2 (all_goals try cbv; all_goals repeat' (first | with_reducible exact True.intro | with_reducible refine And.intro ?_ ?_ | intro _))
  all_goals try exact oH
  · obtain ⟨y1, hy1⟩ : ∃ y, y = i + 1 := ⟨_, rfl⟩
    obtain ⟨y2, hy2⟩ : ∃ y, y = q + 1 := ⟨_, rfl⟩
    obtain ⟨y3, hy3⟩ : ∃ y, y = o.set i.toNat q := ⟨_, rfl⟩
    refine ⟨⟨(y1, y2, y3), ?_⟩, ?_, ?_⟩
    rotate_left
    · cbv
      exact nH
    · (subst hA; subst_vars; simp only [AR.std, natCast_eq, sH, reduceCtorEq] at *; try simp (disch := omega) only [AR.std, natCast_eq, sH, reduceCtorEq] at *); omega
    · rw [hy1, hy2, hy3]; exact hnext (by clear hnext hexit; (subst hA; subst_vars; simp only [AR.std, natCast_eq, sH, reduceCtorEq] at *; try simp (disch := omega) only [AR.std, natCast_eq, sH, reduceCtorEq] at *); omega)
  · have e := hexit (by clear hnext hexit; (subst hA; subst_vars; simp only [AR.std, natCast_eq, sH, reduceCtorEq] at *; try simp (disch := omega) only [AR.std, natCast_eq, sH, reduceCtorEq] at *); omega)
    have e1 : A.ints o = r := by rw [hr, ← e.1]; subst hA; rfl
    have e2 : q = z := by rw [hz]; exact e.2
    simp only [e1, e2]
    subst hA
    exact ⟨[0], _, _, by decide, Nat.le_refl _, rfl, rfl, rfl, rfl, rfl, rfl⟩

set_option maxHeartbeats 1000000 in
set_option maxRecDepth 100000 in
theorem markNat_fx (C : Cx P gl) {l : List Int} {p r : List PV} {k z : Int} (hp : p = intsL l) (hr : r = intsL (up1 k l.length)) (hz : z = k + l.length) (hl : l.length ≤ 2000000) (hk0 : 0 ≤ k) (hk : k ≤ 1000000000) :
    FX P gl 134 [.row 3 1 p] [.agg [.own 0], .pv (I k)] (fun own rr => own = [.row 3 1 r] ∧ rr = .pv (I z)) := by
  obtain ⟨rfl, hG⟩ := C
  refine FX_ofT (own := fun A => [.row 3 1 p]) (args := fun A => [.agg [.own 0], .pv (I k)]) (R := fun A ow rr => ow = [.row 3 1 r] ∧ rr = .pv (I z)) Tryz.hT Tryz.mix Tryz.func134 rfl rfl (Nat.le_of_ble_eq_true rfl) ?_
  generalize hP : Tryz.prog = P
  intro A hA
  have C : Tryz.Cx P gl := ⟨hP.symm, hG⟩
  have hI : intsL = A.ints := by subst hA; rfl
  iterate 2 (all_goals try cbv; all_goals repeat' (first | with_reducible exact True.intro | with_reducible refine And.intro ?_ ?_ | intro _))
  all_goals try exact oH
  refine callX hA [0] (by decide) rfl rfl rfl (markIntS_fx C hp hr hz hl hk0 hk) ?_
  rintro _ _ ⟨rfl, rfl⟩
  refine ⟨rfl, ?_⟩
  iterate 2 (all_goals try cbv; all_goals repeat' (first | with_reducible exact True.intro | with_reducible refine And.intro ?_ ?_ | intro _))
  all_goals try exact oH
  subst hA
  exact ⟨[0], _, _, by decide, Nat.le_refl _, rfl, rfl, rfl, rfl, rfl, rfl⟩

set_option maxHeartbeats 1000000 in
set_option maxRecDepth 100000 in
theorem markWhole_fx (C : Cx P gl) {l : List Int} {p r : List PV} {k z : Int} {s : Bool} (hp : p = intsL l) (hr : r = intsL (up1 k l.length)) (hz : z = k + l.length) (hl : l.length ≤ 2000000) (hk0 : 0 ≤ k) (hk : k ≤ 1000000000) :
    FX P gl 82 [.row 3 1 p] [.agg [.pv (B s), .own 0], .pv (I k)] (fun own rr => own = [.row 3 1 r] ∧ rr = .pv (I z)) := by
  obtain ⟨rfl, hG⟩ := C
  refine FX_ofT (own := fun A => [.row 3 1 p]) (args := fun A => [.agg [.pv (B s), .own 0], .pv (I k)]) (R := fun A ow rr => ow = [.row 3 1 r] ∧ rr = .pv (I z)) Tryz.hT Tryz.mix Tryz.func82 rfl rfl (Nat.le_of_ble_eq_true rfl) ?_
  generalize hP : Tryz.prog = P
  intro A hA
  have C : Tryz.Cx P gl := ⟨hP.symm, hG⟩
  have hI : intsL = A.ints := by subst hA; rfl
  iterate 2 (all_goals try cbv; all_goals repeat' (first | with_reducible exact True.intro | with_reducible refine And.intro ?_ ?_ | intro _))
  all_goals try exact oH
  refine callX hA [0] (by decide) rfl rfl rfl (markNat_fx C hp hr hz hl hk0 hk) ?_
  rintro _ _ ⟨rfl, rfl⟩
  refine ⟨rfl, ?_⟩
  iterate 2 (all_goals try cbv; all_goals repeat' (first | with_reducible exact True.intro | with_reducible refine And.intro ?_ ?_ | intro _))
  all_goals try exact oH
  subst hA
  exact ⟨[0], _, _, by decide, Nat.le_refl _, rfl, rfl, rfl, rfl, rfl, rfl⟩

set_option maxHeartbeats 1000000 in
set_option maxRecDepth 100000 in
theorem markDy_fx (C : Cx P gl) {l : List Int} {p r : List PV} {k z : Int} {s : Bool} {e : Int} (hp : p = intsL l) (hr : r = intsL (up1 k l.length)) (hz : z = k + l.length) (hl : l.length ≤ 2000000) (hk0 : 0 ≤ k) (hk : k ≤ 1000000000) :
    FX P gl 32 [.row 3 1 p] [.agg [.pv (B s), .own 0, .pv (I e)], .pv (I k)] (fun own rr => own = [.row 3 1 r] ∧ rr = .pv (I z)) := by
  obtain ⟨rfl, hG⟩ := C
  refine FX_ofT (own := fun A => [.row 3 1 p]) (args := fun A => [.agg [.pv (B s), .own 0, .pv (I e)], .pv (I k)]) (R := fun A ow rr => ow = [.row 3 1 r] ∧ rr = .pv (I z)) Tryz.hT Tryz.mix Tryz.func32 rfl rfl (Nat.le_of_ble_eq_true rfl) ?_
  generalize hP : Tryz.prog = P
  intro A hA
  have C : Tryz.Cx P gl := ⟨hP.symm, hG⟩
  have hI : intsL = A.ints := by subst hA; rfl
  iterate 2 (all_goals try cbv; all_goals repeat' (first | with_reducible exact True.intro | with_reducible refine And.intro ?_ ?_ | intro _))
  all_goals try exact oH
  refine callX hA [0] (by decide) rfl rfl rfl (markWhole_fx C hp hr hz hl hk0 hk) ?_
  rintro _ _ ⟨rfl, rfl⟩
  refine ⟨rfl, ?_⟩
  iterate 2 (all_goals try cbv; all_goals repeat' (first | with_reducible exact True.intro | with_reducible refine And.intro ?_ ?_ | intro _))
  all_goals try exact oH
  subst hA
  exact ⟨[0], _, _, by decide, Nat.le_refl _, rfl, rfl, rfl, rfl, rfl, rfl⟩

set_option maxHeartbeats 1000000 in
set_option maxRecDepth 100000 in
theorem heldIntS_fs (C : Cx P gl) {n : Nat} {p : List PV} {k z : Int} (hp : p = intsL (up1 k n)) (hz : z = k + n) (hn : n ≤ 2000000) (hk0 : 0 ≤ k) (hk : k ≤ 1000000000) : FS P gl 122 [.lst p, I k] (· = I z) := by
  obtain ⟨u, hu⟩ : ∃ u, u = up1 k n := ⟨_, rfl⟩
  have hg : ∀ j : Nat, j < n → u.getD j 0 = k + j := by rw [hu]; exact up1_get k n
  have hul : u.length = n := by rw [hu]; exact up1_len k n
  rw [← hu] at hp
  clear hu
  obtain ⟨rfl, hG⟩ := C
  refine FS_ofT (args := fun A => [.lst p, I k]) (R := fun A rr => rr = I z) Tryz.hT Tryz.mix Tryz.func122 rfl rfl (Nat.le_of_ble_eq_true rfl) ?_
  generalize hP : Tryz.prog = P
  intro A hA
  have C : Tryz.Cx P gl := ⟨hP.symm, hG⟩
  have hI : intsL = A.ints := by subst hA; rfl
  iterate 2 (all_goals try cbv; all_goals repeat' (first | with_reducible exact True.intro | with_reducible refine And.intro ?_ ?_ | intro _))
  all_goals try exact oH
  refine loopI hA [] (ι := Int × Int) (fun x => [(1, .pv (I x.2)), (5, .pv (I x.1))]) (fun x => []) (fun x => (n - x.1).toNat) (fun x => 0 ≤ x.1 ∧ x.1 ≤ n ∧ x.2 = k + x.1) (0, k) (by rfl) ?_ ?_ ?_
  all_goals try exact tH
  · simp only; omega
  rintro ⟨i, q⟩ ⟨hi0, hi1, hq⟩
  simp only at hi0 hi1 hq
  have hgi : i < n → u.getD i.toNat 0 = q := fun h => by have h2 := hg i.toNat (by omega); simp only [natCast_eq] at h2 hi1; omega
  clear hg
  have hlt : A.lt i (A.cast (A.len p)) = true → A.ne (A.gi (A.el p (A.nat i)) 0) q = false := by
    intro h
    have h1 : A.gi (A.el p (A.nat i)) 0 = q := by
      have e : A.gi (A.el p (A.nat i)) 0 = u.getD i.toNat 0 := by clear hgi; (subst hA; subst_vars; simp only [AR.std, natCast_eq, sH, reduceCtorEq] at *; try simp (disch := omega) only [AR.std, natCast_eq, sH, reduceCtorEq] at *)
      rw [e, hgi (by clear hgi e; (subst hA; subst_vars; simp only [AR.std, natCast_eq, sH, reduceCtorEq] at *; try simp (disch := omega) only [AR.std, natCast_eq, sH, reduceCtorEq] at *); omega)]
    rw [h1]; subst hA; simp [AR.std]
  clear hgi
  iterate 2 (all_goals try cbv; all_goals repeat' (first | with_reducible exact True.intro | with_reducible refine And.intro ?_ ?_ | intro _))
  all_goals try exact oH
  iterate 2 (all_goals try cbv; all_goals repeat' (first | with_reducible exact True.intro | with_reducible refine And.intro ?_ ?_ | intro _))
  all_goals try exact oH
  · clear hlt
    obtain ⟨y1, hy1⟩ : ∃ y, y = i + 1 := ⟨_, rfl⟩
    obtain ⟨y2, hy2⟩ : ∃ y, y = q + 1 := ⟨_, rfl⟩
    refine ⟨⟨(y1, y2), ?_⟩, ?_, ?_⟩
    rotate_left
    · cbv
      exact nH
    · (subst hA; subst_vars; simp only [AR.std, natCast_eq, sH, reduceCtorEq] at *; try simp (disch := omega) only [AR.std, natCast_eq, sH, reduceCtorEq] at *); omega
    · rw [hy1, hy2]; simp only; (subst hA; subst_vars; simp only [AR.std, natCast_eq, sH, reduceCtorEq] at *; try simp (disch := omega) only [AR.std, natCast_eq, sH, reduceCtorEq] at *); omega
  · have e : q = z := by clear hlt; (subst hA; subst_vars; simp only [AR.std, natCast_eq, sH, reduceCtorEq] at *; try simp (disch := omega) only [AR.std, natCast_eq, sH, reduceCtorEq] at *); omega
    simp only [e]

set_option maxHeartbeats 1000000 in
set_option maxRecDepth 100000 in
theorem heldNat_fs (C : Cx P gl) {n : Nat} {p : List PV} {k z : Int} (hp : p = intsL (up1 k n)) (hz : z = k + n) (hn : n ≤ 2000000) (hk0 : 0 ≤ k) (hk : k ≤ 1000000000) : FS P gl 135 [.agg [.lst p], I k] (· = I z) := by
  have hz0 : 0 ≤ z := by omega
  obtain ⟨rfl, hG⟩ := C
  refine FS_ofT (args := fun A => [.agg [.lst p], I k]) (R := fun A rr => rr = I z) Tryz.hT Tryz.mix Tryz.func135 rfl rfl (Nat.le_of_ble_eq_true rfl) ?_
  generalize hP : Tryz.prog = P
  intro A hA
  have C : Tryz.Cx P gl := ⟨hP.symm, hG⟩
  have hI : intsL = A.ints := by subst hA; rfl
  iterate 2 (all_goals try cbv; all_goals repeat' (first | with_reducible exact True.intro | with_reducible refine And.intro ?_ ?_ | intro _))
  all_goals try exact oH
  refine callS hA rfl (heldIntS_fs C hp hz hn hk0 hk) ?_; rintro _ rfl
  iterate 2 (all_goals try cbv; all_goals repeat' (first | with_reducible exact True.intro | with_reducible refine And.intro ?_ ?_ | intro _))
  all_goals try exact oH

set_option maxHeartbeats 1000000 in
set_option maxRecDepth 100000 in
theorem heldWhole_fs (C : Cx P gl) {n : Nat} {p : List PV} {k z : Int} {s : Bool} (hp : p = intsL (up1 k n)) (hz : z = k + n) (hn : n ≤ 2000000) (hk0 : 0 ≤ k) (hk : k ≤ 1000000000) : FS P gl 83 [.agg [B s, .lst p], I k] (· = I z) := by
  have hz0 : 0 ≤ z := by omega
  obtain ⟨rfl, hG⟩ := C
  refine FS_ofT (args := fun A => [.agg [B s, .lst p], I k]) (R := fun A rr => rr = I z) Tryz.hT Tryz.mix Tryz.func83 rfl rfl (Nat.le_of_ble_eq_true rfl) ?_
  generalize hP : Tryz.prog = P
  intro A hA
  have C : Tryz.Cx P gl := ⟨hP.symm, hG⟩
  have hI : intsL = A.ints := by subst hA; rfl
  iterate 2 (all_goals try cbv; all_goals repeat' (first | with_reducible exact True.intro | with_reducible refine And.intro ?_ ?_ | intro _))
  all_goals try exact oH
  refine callS hA rfl (heldNat_fs C hp hz hn hk0 hk) ?_; rintro _ rfl
  iterate 2 (all_goals try cbv; all_goals repeat' (first | with_reducible exact True.intro | with_reducible refine And.intro ?_ ?_ | intro _))
  all_goals try exact oH

set_option maxHeartbeats 1000000 in
set_option maxRecDepth 100000 in
theorem heldDy_fs (C : Cx P gl) {n : Nat} {p : List PV} {k z : Int} {s : Bool} {e : Int} (hp : p = intsL (up1 k n)) (hz : z = k + n) (hn : n ≤ 2000000) (hk0 : 0 ≤ k) (hk : k ≤ 1000000000) : FS P gl 33 [.agg [B s, .lst p, I e], I k] (· = I z) := by
  have hz0 : 0 ≤ z := by omega
  obtain ⟨rfl, hG⟩ := C
  refine FS_ofT (args := fun A => [.agg [B s, .lst p, I e], I k]) (R := fun A rr => rr = I z) Tryz.hT Tryz.mix Tryz.func33 rfl rfl (Nat.le_of_ble_eq_true rfl) ?_
  generalize hP : Tryz.prog = P
  intro A hA
  have C : Tryz.Cx P gl := ⟨hP.symm, hG⟩
  have hI : intsL = A.ints := by subst hA; rfl
  iterate 2 (all_goals try cbv; all_goals repeat' (first | with_reducible exact True.intro | with_reducible refine And.intro ?_ ?_ | intro _))
  all_goals try exact oH
  refine callS hA rfl (heldWhole_fs C hp hz hn hk0 hk) ?_; rintro _ rfl
  iterate 2 (all_goals try cbv; all_goals repeat' (first | with_reducible exact True.intro | with_reducible refine And.intro ?_ ?_ | intro _))
  all_goals try exact oH

end Tryz
end Go.Proofs

namespace Go.Proofs
open Go Go.Pe Go.Dg
namespace Tryz
set_option linter.unusedSimpArgs false
set_option linter.unusedVariables false
variable {P : Program} {gl : List (Nat × Obj)}

set_option maxHeartbeats 1000000 in
set_option maxRecDepth 100000 in
theorem markIntS0_fs (C : Cx P gl) {k : Int} : FS P gl 121 [.lst [], I k] (· = I k) := by
  obtain ⟨rfl, hG⟩ := C
  refine FS_ofT (args := fun A => [.lst [], I k]) (R := fun A rr => rr = I k) Tryz.hT Tryz.mix Tryz.func121 rfl rfl (Nat.le_of_ble_eq_true rfl) ?_
  generalize hP : Tryz.prog = P
  intro A hA
  have C : Tryz.Cx P gl := ⟨hP.symm, hG⟩
  have hI : intsL = A.ints := by subst hA; rfl
  iterate 2 (all_goals try cbv; all_goals repeat' (first | with_reducible exact True.intro | with_reducible refine And.intro ?_ ?_ | intro _))
  all_goals try exact oH
  refine loopI hA [] (ι := Int) (fun x => [(1, .pv (I k)), (5, .pv (I x))]) (fun x => []) (fun x => 0) (fun x => x = 0) 0 (by rfl) ?_ ?_ ?_
  all_goals try exact tH
  rintro i rfl
  iterate 2 (all_goals try cbv; all_goals repeat' (first | with_reducible exact True.intro | with_reducible refine And.intro ?_ ?_ | intro _))
  all_goals try exact oH
  iterate 2 (all_goals try cbv; all_goals repeat' (first | with_reducible exact True.intro | with_reducible refine And.intro ?_ ?_ | intro _))
  all_goals try exact oH

set_option maxHeartbeats 1000000 in
set_option maxRecDepth 100000 in
theorem markNat0_fs (C : Cx P gl) {k : Int} : FS P gl 134 [.agg [.lst []], I k] (· = I k) := by
  obtain ⟨rfl, hG⟩ := C
  refine FS_ofT (args := fun A => [.agg [.lst []], I k]) (R := fun A rr => rr = I k) Tryz.hT Tryz.mix Tryz.func134 rfl rfl (Nat.le_of_ble_eq_true rfl) ?_
  generalize hP : Tryz.prog = P
  intro A hA
  have C : Tryz.Cx P gl := ⟨hP.symm, hG⟩
  have hI : intsL = A.ints := by subst hA; rfl
  iterate 2 (all_goals try cbv; all_goals repeat' (first | with_reducible exact True.intro | with_reducible refine And.intro ?_ ?_ | intro _))
  all_goals try exact oH
  refine callS hA rfl (markIntS0_fs C) ?_; rintro _ rfl
  iterate 2 (all_goals try cbv; all_goals repeat' (first | with_reducible exact True.intro | with_reducible refine And.intro ?_ ?_ | intro _))
  all_goals try exact oH

set_option maxHeartbeats 1000000 in
set_option maxRecDepth 100000 in
theorem markWhole0_fs (C : Cx P gl) {k : Int} {s : Bool} : FS P gl 82 [.agg [B s, .lst []], I k] (· = I k) := by
  obtain ⟨rfl, hG⟩ := C
  refine FS_ofT (args := fun A => [.agg [B s, .lst []], I k]) (R := fun A rr => rr = I k) Tryz.hT Tryz.mix Tryz.func82 rfl rfl (Nat.le_of_ble_eq_true rfl) ?_
  generalize hP : Tryz.prog = P
  intro A hA
  have C : Tryz.Cx P gl := ⟨hP.symm, hG⟩
  have hI : intsL = A.ints := by subst hA; rfl
  iterate 2 (all_goals try cbv; all_goals repeat' (first | with_reducible exact True.intro | with_reducible refine And.intro ?_ ?_ | intro _))
  all_goals try exact oH
  refine callS hA rfl (markNat0_fs C) ?_; rintro _ rfl
  iterate 2 (all_goals try cbv; all_goals repeat' (first | with_reducible exact True.intro | with_reducible refine And.intro ?_ ?_ | intro _))
  all_goals try exact oH

set_option maxHeartbeats 1000000 in
set_option maxRecDepth 100000 in
theorem markDy0_fs (C : Cx P gl) {k : Int} {s : Bool} {e : Int} : FS P gl 32 [.agg [B s, .lst [], I e], I k] (· = I k) := by
  obtain ⟨rfl, hG⟩ := C
  refine FS_ofT (args := fun A => [.agg [B s, .lst [], I e], I k]) (R := fun A rr => rr = I k) Tryz.hT Tryz.mix Tryz.func32 rfl rfl (Nat.le_of_ble_eq_true rfl) ?_
  generalize hP : Tryz.prog = P
  intro A hA
  have C : Tryz.Cx P gl := ⟨hP.symm, hG⟩
  have hI : intsL = A.ints := by subst hA; rfl
  iterate 2 (all_goals try cbv; all_goals repeat' (first | with_reducible exact True.intro | with_reducible refine And.intro ?_ ?_ | intro _))
  all_goals try exact oH
  refine callS hA rfl (markWhole0_fs C) ?_; rintro _ rfl
  iterate 2 (all_goals try cbv; all_goals repeat' (first | with_reducible exact True.intro | with_reducible refine And.intro ?_ ?_ | intro _))
  all_goals try exact oH

end Tryz
end Go.Proofs

