/- Contracts: sums of matrices in the reference. -/
import Derived.Test.YtcbagjglchpagaaGreatDoorMM5
import Derived.Test.YtcbagjglchpagaaGreatDoorMM7
namespace Go.Proofs
open Go Go.Pe Go.Dg
namespace Tryz
set_option linter.unusedSimpArgs false
set_option linter.unusedVariables false
variable {P : Program} {gl : List (Nat × Obj)}

set_option maxHeartbeats 1000000 in
set_option maxRecDepth 100000 in
theorem l7ownZ_fs (C : Cx P gl) {z e : Int} {p : List PV} {s : Bool} (hp : p = intsL (dg z.natAbs)) (hs : s = decide (z < 0)) (hl : (dg z.natAbs).length ≤ 1000000000) : FS P gl 100 [.agg [B s, .lst p, I e]] (· = .agg [B s, .lst p, I e]) := by
  have hs' : s = (s && decide (z.natAbs ≠ 0)) := by
    rw [hs, Bool.eq_iff_iff, Bool.and_eq_true, decide_eq_true_eq, decide_eq_true_eq]
    omega
  have hm := fun (P' : Program) (C' : Cx P' gl) => l3make_fs C' hp hs' hl
  clear hp hs hs'
  obtain ⟨rfl, hG⟩ := C
  refine FS_ofT (args := fun A => [.agg [B s, .lst p, I e]]) (R := fun A rr => rr = .agg [B s, .lst p, I e]) Tryz.hT Tryz.mix Tryz.func100 rfl rfl (Nat.le_of_ble_eq_true rfl) ?_
  generalize hP : Tryz.prog = P
  intro A hA
  have C : Tryz.Cx P gl := ⟨hP.symm, hG⟩
  have hI : intsL = A.ints := by subst hA; rfl
  iterate 2 (all_goals try cbv; all_goals repeat' (first | with_reducible exact True.intro | with_reducible refine And.intro ?_ ?_ | intro _))
  all_goals try exact oG
  refine ⟨_, hm P C, ?_⟩
  iterate 2 (all_goals try cbv; all_goals repeat' (first | with_reducible exact True.intro | with_reducible refine And.intro ?_ ?_ | intro _))
  all_goals try exact oG

set_option maxHeartbeats 1000000 in
set_option maxRecDepth 100000 in
theorem l8own_fs (C : Cx P gl) {ys : List Cell3} {L : Nat} {p : List PV} {n : Int} (hp : p = cells3 ys) (hx : XW L ys) (hL : L ≤ 1000000) (hl : ys.length ≤ 1000000) :
    FS P gl 145 [.agg [I n, .lst p]] (· = .agg [I n, .lst p]) := by
  obtain ⟨rfl, hG⟩ := C
  refine FS_ofT (args := fun A => [.agg [I n, .lst p]]) (R := fun A rr => rr = .agg [I n, .lst p]) Tryz.hT Tryz.mix Tryz.func145 rfl rfl (Nat.le_of_ble_eq_true rfl) ?_
  generalize hP : Tryz.prog = P
  intro A hA
  have C : Tryz.Cx P gl := ⟨hP.symm, hG⟩
  have hI : intsL = A.ints := by subst hA; rfl
  iterate 2 (all_goals try cbv; all_goals repeat' (first | with_reducible exact True.intro | with_reducible refine And.intro ?_ ?_ | intro _))
  all_goals try exact oG
  refine loopI hA [.cell 2 1 36 3] (ι := Int × List PV) (fun x => [(4, .pv (I x.1))]) (fun x => [(3, .row 36 3 x.2)]) (fun x => (ys.length - x.1).toNat) (fun x => 0 ≤ x.1 ∧ x.1 ≤ ys.length ∧ x.2 = cells3 (ys.take x.1.toNat)) (0, []) (by rfl) ?_ ?_ ?_
  all_goals try exact tG
  · exact ⟨Int.le_refl _, by omega, rfl⟩
  rintro ⟨i, q⟩ ⟨hi0, hi1, hq⟩
  simp only at hi0 hi1 hq
  have hql : q.length ≤ 1000000 := by rw [hq, cells3_len, List.length_take]; omega
  have hxi := hx i.toNat
  have hfin : i.toNat = ys.length → q = p := by intro h; rw [hq, hp, h, List.take_length]
  have hq2 : ∀ _ : Unit, i < ys.length → q ++ [cell3 (ys.getD i.toNat noY)] = cells3 (ys.take (i.toNat + 1)) := fun _ h => by rw [hq, c3take (by omega)]
  clear hx hq
  iterate 2 (all_goals try cbv; all_goals repeat' (first | with_reducible exact True.intro | with_reducible refine And.intro ?_ ?_ | intro _))
  all_goals try exact oG
  · rename_i g
    have gi : i < ys.length := by clear hfin hxi hq2; (subst hA; subst_vars; simp only [AR.std, natCast_eq, sG, reduceCtorEq] at *; try simp (disch := omega) only [AR.std, natCast_eq, sG, reduceCtorEq] at *); omega
    have hlt : i.toNat < ys.length := by omega
    have hge1 : i + 1 ≤ ys.length := by omega
    have hq3 := hq2 () gi
    obtain ⟨z, a1, a2, a4⟩ := hxi hlt
    have hgl : A.gl (A.el p (A.nat i)) 1 = intsL (dg z.natAbs) := by rw [← a2]; clear hfin hxi hq2 hq3 a1 a2 a4; (subst hA; subst_vars; simp only [AR.std, natCast_eq, sG, reduceCtorEq] at *; try simp (disch := omega) only [AR.std, natCast_eq, sG, reduceCtorEq] at *)
    have hgb : A.gb (A.el p (A.nat i)) 0 = decide (z < 0) := by rw [← a1]; clear hfin hxi hq2 hq3 a1 a2 a4 hgl; (subst hA; subst_vars; simp only [AR.std, natCast_eq, sG, reduceCtorEq] at *; try simp (disch := omega) only [AR.std, natCast_eq, sG, reduceCtorEq] at *)
    have hra : A.app q [.agg [B (A.gb (A.el p (A.nat i)) 0), .lst (A.gl (A.el p (A.nat i)) 1), I (A.gi (A.el p (A.nat i)) 2)]] = q ++ [cell3 (ys.getD i.toNat noY)] := by clear hfin hxi hq2 hq3 a1 a2 a4 hgl hgb; (subst hA; subst_vars; simp only [AR.std, natCast_eq, sG, reduceCtorEq] at *; try simp (disch := omega) only [AR.std, natCast_eq, sG, reduceCtorEq] at *)
    obtain ⟨r', hr'⟩ : ∃ r', r' = q ++ [cell3 (ys.getD i.toNat noY)] := ⟨_, rfl⟩
    rw [← hr'] at hra hq3
    refine ⟨_, l7ownZ_fs C hgl hgb (by omega), ?_⟩
    clear hgl hgb hfin hxi hq2 a1 a2 a4 hr'
    iterate 2 (all_goals try cbv; all_goals repeat' (first | with_reducible exact True.intro | with_reducible refine And.intro ?_ ?_ | intro _))
    all_goals try exact oG
    all_goals try exact okA_of hA (by intro x hx; rw [List.mem_singleton.1 hx]; exact ⟨rfl, rfl⟩)
    all_goals try exact cap_of hA (by simp only [List.length_singleton]; omega)
    simp only [hra]
    clear hra
    obtain ⟨y1, hy1⟩ : ∃ y, y = i + 1 := ⟨_, rfl⟩
    obtain ⟨y2, hy2⟩ : ∃ y, y = r' := ⟨_, rfl⟩
    refine ⟨⟨(y1, y2), ?_⟩, ?_, ?_⟩
    rotate_left
    · cbv
      exact nG
    · (subst hA; subst_vars; simp only [AR.std, natCast_eq, sG, reduceCtorEq] at *; try simp (disch := omega) only [AR.std, natCast_eq, sG, reduceCtorEq] at *); omega
    · rw [hy1, hy2]
      refine ⟨by simp only; omega, hge1, ?_⟩
      simp only
      rw [show (i + 1).toNat = i.toNat + 1 by omega]; exact hq3
  · rename_i g
    have e := hfin (by clear hfin hxi hq2; (subst hA; subst_vars; simp only [AR.std, natCast_eq, sG, reduceCtorEq] at *; try simp (disch := omega) only [AR.std, natCast_eq, sG, reduceCtorEq] at *); omega)
    simp only [e]

set_option maxHeartbeats 1000000 in
set_option maxRecDepth 100000 in
theorem l8fits_fs (C : Cx P gl) {ys : List Cell3} {L : Nat} {p q : List PV} {n n' : Int} {b : Bool} (hp : p = cells3 ys) (hx : XW L ys) (hL : L ≤ 1000000) (hl : ys.length ≤ 1000000) (hb : b = true ↔ matOk n ys)
    (h1 : b = true → q = p ∧ n' = n) (h2 : b = false → q = [] ∧ n' = 0) :
    FS P gl 90 [.agg [I n, .lst p]] (· = .tup [.agg [I n', .lst q], B b]) := by
  have hy : ∀ y ∈ ys, y.2.1.length ≤ 2000000 := by
    intro y hy
    obtain ⟨k, hk, rfl⟩ := List.getElem_of_mem hy
    obtain ⟨z, _, a2, a4⟩ := hx k hk
    rw [List.getD, List.getElem?_eq_getElem hk] at a2
    simp only [Option.getD_some] at a2
    rw [a2]; omega
  have c1 := fun (P' : Program) (C' : Cx P' gl) => specMatOk_fs C' (n := n) hp hb (by omega) hy
  have c2 := fun (P' : Program) (C' : Cx P' gl) => l8own_fs C' (n := n) hp hx hL hl
  clear hx hy hb hp
  obtain ⟨rfl, hG⟩ := C
  refine FS_ofT (args := fun A => [.agg [I n, .lst p]]) (R := fun A rr => rr = .tup [.agg [I n', .lst q], B b]) Tryz.hT Tryz.mix Tryz.func90 rfl rfl (Nat.le_of_ble_eq_true rfl) ?_
  generalize hP : Tryz.prog = P
  intro A hA
  have C : Tryz.Cx P gl := ⟨hP.symm, hG⟩
  have hI : intsL = A.ints := by subst hA; rfl
  iterate 2 (all_goals try cbv; all_goals repeat' (first | with_reducible exact True.intro | with_reducible refine And.intro ?_ ?_ | intro _))
  all_goals try exact oG
  refine callS hA rfl (c1 P C) ?_; rintro _ rfl
  iterate 2 (all_goals try cbv; all_goals repeat' (first | with_reducible exact True.intro | with_reducible refine And.intro ?_ ?_ | intro _))
  all_goals try exact oG
  · rename_i g
    have : b = false := by cases b <;> first | rfl | (exfalso; clear c1 c2 h1 h2; subst hA; cases g)
    obtain ⟨e1, e2⟩ := h2 this
    rw [e1, e2, this]
  · rename_i g
    have : b = true := by cases b <;> first | rfl | (exfalso; clear c1 c2 h1 h2; subst hA; cases g)
    obtain ⟨e1, e2⟩ := h1 this
    iterate 2 (all_goals try cbv; all_goals repeat' (first | with_reducible exact True.intro | with_reducible refine And.intro ?_ ?_ | intro _))
    all_goals try exact oG
    refine callS hA rfl (c2 P C) ?_; rintro _ rfl
    iterate 2 (all_goals try cbv; all_goals repeat' (first | with_reducible exact True.intro | with_reducible refine And.intro ?_ ?_ | intro _))
    all_goals try exact oG
    rw [e1, e2, this]

set_option maxHeartbeats 1000000 in
set_option maxRecDepth 100000 in
theorem l8new_fx (C : Cx P gl) {n : Int} {u : List PV} (hn : 0 ≤ n) (hn4 : n ≤ 100) (hu : u = cells3 (List.replicate (n * n).toNat noY)) :
    FX P gl 123 [] [.pv (I n)] (fun own rr => own = [.row 36 3 u] ∧ rr = .agg [.pv (I n), .own 0]) := by
  have hnn : 0 ≤ n * n ∧ n * n ≤ 10000 := by
    have h3 : n * n ≤ 100 * n := Int.mul_le_mul_of_nonneg_right hn4 hn
    have h4 := Int.mul_nonneg hn hn
    omega
  obtain ⟨k, hk⟩ : ∃ k, k = n * n := ⟨_, rfl⟩
  rw [← hk] at hu hnn
  obtain ⟨rfl, hG⟩ := C
  refine FX_ofT (own := fun A => []) (args := fun A => [.pv (I n)]) (R := fun A ow rr => ow = [.row 36 3 u] ∧ rr = .agg [.pv (I n), .own 0]) Tryz.hT Tryz.mix Tryz.func123 rfl rfl (Nat.le_of_ble_eq_true rfl) ?_
  generalize hP : Tryz.prog = P
  intro A hA
  have C : Tryz.Cx P gl := ⟨hP.symm, hG⟩
  have hI : intsL = A.ints := by subst hA; rfl
  have ek : A.mul .i64 n n = k := by
    clear hu
    subst hA
    simp only [AR.std]
    rw [← hk, wrapi (by omega) (by omega)]
  iterate 2 (all_goals try cbv; all_goals repeat' (first | with_reducible exact True.intro | with_reducible refine And.intro ?_ ?_ | intro _))
  all_goals try exact oG
  all_goals simp only [ek]
  · have e0 : A.rep k (.agg [B false, .lst [], I 0]) = u := by
      rw [hu]; subst hA
      show List.replicate k.toNat (cell3 noY) = _
      rw [c3rep]
    simp only [e0]
    subst hA
    exact ⟨[1], _, _, by decide, Nat.zero_le _, rfl, rfl, rfl, rfl, rfl, rfl⟩

theorem l8new_fn (C : Cx P gl) {n : Int} {u : List PV} (hn : 0 ≤ n) (hn4 : n ≤ 100) (hu : u = cells3 (List.replicate (n * n).toNat noY)) :
    FN P gl 123 [I n] (fun own rr => own = [.row 36 3 u] ∧ rr = .agg [.pv (I n), .own 0]) :=
  FN_of (l8new_fx C hn hn4 hu) (by rintro _ _ ⟨rfl, rfl⟩; exact ⟨by simpa using closed_zero hu _ _, rfl⟩)

end Tryz
end Go.Proofs
