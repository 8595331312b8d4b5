/- Contracts: sums of matrices in the reference. -/
import Derived.Test.YthmkdfmapdbenaaGreatDoorEM9
import Derived.Test.YthmkdfmapdbenaaGreatDoorEM7
namespace Go.Proofs
open Go Go.Pe Go.Dg
namespace Tryz
set_option linter.unusedSimpArgs false
set_option linter.unusedVariables false
variable {P : Program} {gl : List (Nat × Obj)}

set_option maxHeartbeats 1000000 in
set_option maxRecDepth 100000 in
theorem l7own_fs (C : Cx P gl) {z e : Int} {p : List PV} {s : Bool} (hp : p = intsL (dg z.natAbs)) (hs : s = decide (z < 0)) (hl : (dg z.natAbs).length ≤ 1000000000) : FS P gl 69 [.agg [B s, .lst p, I e]] (· = .agg [B s, .lst p, I e]) := by
  have hs' : s = (s && decide (z.natAbs ≠ 0)) := by
    rw [hs, Bool.eq_iff_iff, Bool.and_eq_true, decide_eq_true_eq, decide_eq_true_eq]
    omega
  have hm := fun (P' : Program) (C' : Cx P' gl) => l3make_fs C' hp hs' hl
  clear hp hs hs'
  obtain ⟨rfl, hG⟩ := C
  refine FS_ofT (args := fun A => [.agg [B s, .lst p, I e]]) (R := fun A rr => rr = .agg [B s, .lst p, I e]) Tryz.hT Tryz.mix Tryz.func69 rfl rfl (Nat.le_of_ble_eq_true rfl) ?_
  generalize hP : Tryz.prog = P
  intro A hA
  have C : Tryz.Cx P gl := ⟨hP.symm, hG⟩
  have hI : intsL = A.ints := by subst hA; rfl
  iterate 2 (all_goals try cbv; all_goals repeat' (first | with_reducible exact True.intro | with_reducible refine And.intro ?_ ?_ | intro _))
  all_goals try exact oG
  refine ⟨_, hm P C, ?_⟩
  iterate 2 (all_goals try cbv; all_goals repeat' (first | with_reducible exact True.intro | with_reducible refine And.intro ?_ ?_ | intro _))
  all_goals try exact oG

set_option maxHeartbeats 1000000 in
set_option maxRecDepth 100000 in
theorem l8own_fs (C : Cx P gl) {ys : List Cell3} {L : Nat} {p : List PV} {n : Int} (hp : p = cells3 ys) (hx : XW L ys) (hL : L ≤ 1000000) (hl : ys.length ≤ 1000000) :
    FS P gl 77 [.agg [I n, .lst p]] (· = .agg [I n, .lst p]) := by
  obtain ⟨rfl, hG⟩ := C
  refine FS_ofT (args := fun A => [.agg [I n, .lst p]]) (R := fun A rr => rr = .agg [I n, .lst p]) Tryz.hT Tryz.mix Tryz.func77 rfl rfl (Nat.le_of_ble_eq_true rfl) ?_
  generalize hP : Tryz.prog = P
  intro A hA
  have C : Tryz.Cx P gl := ⟨hP.symm, hG⟩
  have hI : intsL = A.ints := by subst hA; rfl
  iterate 2 (all_goals try cbv; all_goals repeat' (first | with_reducible exact True.intro | with_reducible refine And.intro ?_ ?_ | intro _))
  all_goals try exact oG
  refine loopI hA [.cell 2 1 41 3] (ι := Int × List PV) (fun x => [(4, .pv (I x.1))]) (fun x => [(3, .row 41 3 x.2)]) (fun x => (ys.length - x.1).toNat) (fun x => 0 ≤ x.1 ∧ x.1 ≤ ys.length ∧ x.2 = cells3 (ys.take x.1.toNat)) (0, []) (by rfl) ?_ ?_ ?_
  all_goals try exact tG
  · exact ⟨Int.le_refl _, by omega, rfl⟩
  rintro ⟨i, q⟩ ⟨hi0, hi1, hq⟩
  simp only at hi0 hi1 hq
  have hql : q.length ≤ 1000000 := by rw [hq, cells3_len, List.length_take]; omega
  have hxi := hx i.toNat
  have hfin : i.toNat = ys.length → q = p := by intro h; rw [hq, hp, h, List.take_length]
  have hq2 : ∀ _ : Unit, i < ys.length → q ++ [cell3 (ys.getD i.toNat noY)] = cells3 (ys.take (i.toNat + 1)) := fun _ h => by rw [hq, c3take (by omega)]
  clear hx hq
  iterate 2 (all_goals try cbv; all_goals repeat' (first | with_reducible exact True.intro | with_reducible refine And.intro ?_ ?_ | intro _))
  all_goals try exact oG
  · rename_i g
    have gi : i < ys.length := by clear hfin hxi hq2; (subst hA; subst_vars; simp only [AR.std, natCast_eq, sG, reduceCtorEq] at *; try simp (disch := omega) only [AR.std, natCast_eq, sG, reduceCtorEq] at *); omega
    have hlt : i.toNat < ys.length := by omega
    have hge1 : i + 1 ≤ ys.length := by omega
    have hq3 := hq2 () gi
    obtain ⟨z, a1, a2, a4⟩ := hxi hlt
    have hgl : A.gl (A.el p (A.nat i)) 1 = intsL (dg z.natAbs) := by rw [← a2]; clear hfin hxi hq2 hq3 a1 a2 a4; (subst hA; subst_vars; simp only [AR.std, natCast_eq, sG, reduceCtorEq] at *; try simp (disch := omega) only [AR.std, natCast_eq, sG, reduceCtorEq] at *)
    have hgb : A.gb (A.el p (A.nat i)) 0 = decide (z < 0) := by rw [← a1]; clear hfin hxi hq2 hq3 a1 a2 a4 hgl; (subst hA; subst_vars; simp only [AR.std, natCast_eq, sG, reduceCtorEq] at *; try simp (disch := omega) only [AR.std, natCast_eq, sG, reduceCtorEq] at *)
    have hra : A.app q [.agg [B (A.gb (A.el p (A.nat i)) 0), .lst (A.gl (A.el p (A.nat i)) 1), I (A.gi (A.el p (A.nat i)) 2)]] = q ++ [cell3 (ys.getD i.toNat noY)] := by clear hfin hxi hq2 hq3 a1 a2 a4 hgl hgb; (subst hA; subst_vars; simp only [AR.std, natCast_eq, sG, reduceCtorEq] at *; try simp (disch := omega) only [AR.std, natCast_eq, sG, reduceCtorEq] at *)
    obtain ⟨r', hr'⟩ : ∃ r', r' = q ++ [cell3 (ys.getD i.toNat noY)] := ⟨_, rfl⟩
    rw [← hr'] at hra hq3
    refine ⟨_, l7own_fs C hgl hgb (by omega), ?_⟩
    clear hgl hgb hfin hxi hq2 a1 a2 a4 hr'
    iterate 2 (all_goals try cbv; all_goals repeat' (first | with_reducible exact True.intro | with_reducible refine And.intro ?_ ?_ | intro _))
    all_goals try exact oG
    all_goals try exact okA_of hA (by intro x hx; rw [List.mem_singleton.1 hx]; exact ⟨rfl, rfl⟩)
    all_goals try exact cap_of hA (by simp only [List.length_singleton]; omega)
    simp only [hra]
    clear hra
    obtain ⟨y1, hy1⟩ : ∃ y, y = i + 1 := ⟨_, rfl⟩
    obtain ⟨y2, hy2⟩ : ∃ y, y = r' := ⟨_, rfl⟩
    refine ⟨⟨(y1, y2), ?_⟩, ?_, ?_⟩
    rotate_left
    · cbv
      exact nG
    · (subst hA; subst_vars; simp only [AR.std, natCast_eq, sG, reduceCtorEq] at *; try simp (disch := omega) only [AR.std, natCast_eq, sG, reduceCtorEq] at *); omega
    · rw [hy1, hy2]
      refine ⟨by simp only; omega, hge1, ?_⟩
      simp only
      rw [show (i + 1).toNat = i.toNat + 1 by omega]; exact hq3
  · rename_i g
    have e := hfin (by clear hfin hxi hq2; (subst hA; subst_vars; simp only [AR.std, natCast_eq, sG, reduceCtorEq] at *; try simp (disch := omega) only [AR.std, natCast_eq, sG, reduceCtorEq] at *); omega)
    simp only [e]

set_option maxHeartbeats 1000000 in
set_option maxRecDepth 100000 in
theorem l8fits_fs (C : Cx P gl) {ys : List Cell3} {L : Nat} {p q : List PV} {n n' : Int} {b : Bool} (hp : p = cells3 ys) (hx : XW L ys) (hL : L ≤ 1000000) (hl : ys.length ≤ 1000000) (hb : b = true ↔ matOk n ys)
    (h1 : b = true → q = p ∧ n' = n) (h2 : b = false → q = [] ∧ n' = 0) :
    FS P gl 50 [.agg [I n, .lst p]] (· = .tup [.agg [I n', .lst q], B b]) := by
  have hy : ∀ y ∈ ys, y.2.1.length ≤ 2000000 := by
    intro y hy
    obtain ⟨k, hk, rfl⟩ := List.getElem_of_mem hy
    obtain ⟨z, _, a2, a4⟩ := hx k hk
    rw [List.getD, List.getElem?_eq_getElem hk] at a2
    simp only [Option.getD_some] at a2
    rw [a2]; omega
  have c1 := fun (P' : Program) (C' : Cx P' gl) => specMatOk_fs C' (n := n) hp hb (by omega) hy
  have c2 := fun (P' : Program) (C' : Cx P' gl) => l8own_fs C' (n := n) hp hx hL hl
  clear hx hy hb hp
  obtain ⟨rfl, hG⟩ := C
  refine FS_ofT (args := fun A => [.agg [I n, .lst p]]) (R := fun A rr => rr = .tup [.agg [I n', .lst q], B b]) Tryz.hT Tryz.mix Tryz.func50 rfl rfl (Nat.le_of_ble_eq_true rfl) ?_
  generalize hP : Tryz.prog = P
  intro A hA
  have C : Tryz.Cx P gl := ⟨hP.symm, hG⟩
  have hI : intsL = A.ints := by subst hA; rfl
  iterate 2 (all_goals try cbv; all_goals repeat' (first | with_reducible exact True.intro | with_reducible refine And.intro ?_ ?_ | intro _))
  all_goals try exact oG
  refine callS hA rfl (c1 P C) ?_; rintro _ rfl
  iterate 2 (all_goals try cbv; all_goals repeat' (first | with_reducible exact True.intro | with_reducible refine And.intro ?_ ?_ | intro _))
  all_goals try exact oG
  · rename_i g
    have : b = false := by cases b <;> first | rfl | (exfalso; clear c1 c2 h1 h2; subst hA; cases g)
    obtain ⟨e1, e2⟩ := h2 this
    rw [e1, e2, this]
  · rename_i g
    have : b = true := by cases b <;> first | rfl | (exfalso; clear c1 c2 h1 h2; subst hA; cases g)
    obtain ⟨e1, e2⟩ := h1 this
    iterate 2 (all_goals try cbv; all_goals repeat' (first | with_reducible exact True.intro | with_reducible refine And.intro ?_ ?_ | intro _))
    all_goals try exact oG
    refine callS hA rfl (c2 P C) ?_; rintro _ rfl
    iterate 2 (all_goals try cbv; all_goals repeat' (first | with_reducible exact True.intro | with_reducible refine And.intro ?_ ?_ | intro _))
    all_goals try exact oG
    rw [e1, e2, this]

set_option maxHeartbeats 1000000 in
set_option maxRecDepth 100000 in
theorem l8new_fx (C : Cx P gl) {n : Int} {u : List PV} (hn : 0 ≤ n) (hn4 : n ≤ 100) (hu : u = cells3 (List.replicate (n * n).toNat noY)) :
    FX P gl 89 [] [.pv (I n)] (fun own rr => own = [.row 41 3 u] ∧ rr = .agg [.pv (I n), .own 0]) := by
  have hnn : 0 ≤ n * n ∧ n * n ≤ 10000 := by
    have h3 : n * n ≤ 100 * n := Int.mul_le_mul_of_nonneg_right hn4 hn
    have h4 := Int.mul_nonneg hn hn
    omega
  obtain ⟨k, hk⟩ : ∃ k, k = n * n := ⟨_, rfl⟩
  rw [← hk] at hu hnn
  obtain ⟨rfl, hG⟩ := C
  refine FX_ofT (own := fun A => []) (args := fun A => [.pv (I n)]) (R := fun A ow rr => ow = [.row 41 3 u] ∧ rr = .agg [.pv (I n), .own 0]) Tryz.hT Tryz.mix Tryz.func89 rfl rfl (Nat.le_of_ble_eq_true rfl) ?_
  generalize hP : Tryz.prog = P
  intro A hA
  have C : Tryz.Cx P gl := ⟨hP.symm, hG⟩
  have hI : intsL = A.ints := by subst hA; rfl
  have ek : A.mul .i64 n n = k := by
    clear hu
    subst hA
    simp only [AR.std]
    rw [← hk, wrapi (by omega) (by omega)]
  iterate 2 (all_goals try cbv; all_goals repeat' (first | with_reducible exact True.intro | with_reducible refine And.intro ?_ ?_ | intro _))
  all_goals try exact oG
  all_goals simp only [ek]
  · have e0 : A.rep k (.agg [B false, .lst [], I 0]) = u := by
      rw [hu]; subst hA
      show List.replicate k.toNat (cell3 noY) = _
      rw [c3rep]
    simp only [e0]
    subst hA
    exact ⟨[1], _, _, by decide, Nat.zero_le _, rfl, rfl, rfl, rfl, rfl, rfl⟩

theorem l8new_fn (C : Cx P gl) {n : Int} {u : List PV} (hn : 0 ≤ n) (hn4 : n ≤ 100) (hu : u = cells3 (List.replicate (n * n).toNat noY)) :
    FN P gl 89 [I n] (fun own rr => own = [.row 41 3 u] ∧ rr = .agg [.pv (I n), .own 0]) :=
  FN_of (l8new_fx C hn hn4 hu) (by rintro _ _ ⟨rfl, rfl⟩; exact ⟨by simpa using closed_zero hu _ _, rfl⟩)

set_option maxHeartbeats 1000000 in
set_option maxRecDepth 100000 in
theorem l8addAdd_fs (C : Cx P gl) {ys zs : List Cell3} {d1 d2 : Nat → Dyadic} {L E : Nat} {p q r : List PV} {n m : Int} (hp : p = cells3 ys) (hq : q = cells3 zs) (h1 : XL d1 L E ys) (h2 : XL d2 L E zs) (hL : L ≤ 100000) (hE : E ≤ 90000) (hn : 0 ≤ n) (hn4 : n ≤ 100)
    (hyl : (ys.length : Int) = n * n) (hzl : (zs.length : Int) = n * n) (hr : r = cells3 (canL (fun k => d1 k + d2 k) ys.length)) :
    FS P gl 51 [.agg [I n, .lst p], .agg [I m, .lst q], B false] (· = .agg [I n, .lst r]) := by
  have hnn : 0 ≤ n * n ∧ n * n ≤ 10000 := by
    have h3 : n * n ≤ 100 * n := Int.mul_le_mul_of_nonneg_right hn4 hn
    have h4 := Int.mul_nonneg hn hn
    omega
  have hyl2 : ys.length ≤ 10000 := by omega
  obtain ⟨u0, hu0⟩ : ∃ u, u = cells3 (List.replicate ys.length noY) := ⟨_, rfl⟩
  have hnew := fun (P' : Program) (C' : Cx P' gl) => l8new_fn C' hn hn4 (by rw [hu0, show ys.length = (n * n).toNat by omega] : u0 = cells3 (List.replicate (n * n).toNat noY))
  have hzy : zs.length = ys.length := by omega
  clear hyl hzl hnn
  obtain ⟨rfl, hG⟩ := C
  refine FS_ofT (args := fun A => [.agg [I n, .lst p], .agg [I m, .lst q], B false]) (R := fun A rr => rr = .agg [I n, .lst r]) Tryz.hT Tryz.mix Tryz.func51 rfl rfl (Nat.le_of_ble_eq_true rfl) ?_
  generalize hP : Tryz.prog = P
  intro A hA
  have C : Tryz.Cx P gl := ⟨hP.symm, hG⟩
  have hI : intsL = A.ints := by subst hA; rfl
  iterate 2 (all_goals try cbv; all_goals repeat' (first | with_reducible exact True.intro | with_reducible refine And.intro ?_ ?_ | intro _))
  all_goals try exact oG
  refine callN hA rfl (hnew P C) ?_; rintro _ _ ⟨rfl, rfl⟩; refine ⟨rfl, ?_⟩
  clear hnew
  iterate 2 (all_goals try cbv; all_goals repeat' (first | with_reducible exact True.intro | with_reducible refine And.intro ?_ ?_ | intro _))
  all_goals try exact oG
  refine loopI hA [] (ι := Int × List PV) (fun x => [(8, .pv (I x.1))]) (fun x => [(3, .row 41 3 x.2)]) (fun x => (ys.length - x.1).toNat) (fun x => 0 ≤ x.1 ∧ x.1 ≤ ys.length ∧ x.2 = cells3 (canL (fun k => d1 k + d2 k) x.1.toNat ++ List.replicate (ys.length - x.1.toNat) noY)) (0, u0) (by rfl) ?_ ?_ ?_
  all_goals try exact tG
  · exact ⟨Int.le_refl _, by omega, by rw [hu0]; rfl⟩
  rintro ⟨i, t⟩ ⟨hi0, hi1, ht⟩
  simp only at hi0 hi1 ht
  have htl : t.length = ys.length := by
    rw [ht, cells3_len, List.length_append, canL_len, List.length_replicate]; omega
  have hy1' := h1 i.toNat
  have hz1' := h2 i.toNat
  have hex : i.toNat = ys.length → t = r := by
    intro h
    rw [ht, hr, h, Nat.sub_self, List.replicate_zero, List.append_nil]
  have hnx : ∀ _ : Unit, i < ys.length → t.set i.toNat (cell3 (canY (d1 i.toNat + d2 i.toNat))) = cells3 (canL (fun k => d1 k + d2 k) (i.toNat + 1) ++ List.replicate (ys.length - (i.toNat + 1)) noY) := by
    intro _ h
    rw [ht, c3set, canL_succ, List.append_assoc]
    congr 1
    rw [List.set_append_right _ _ (by rw [canL_len]; exact Nat.le_refl _), canL_len, Nat.sub_self, show ys.length - i.toNat = (ys.length - (i.toNat + 1)) + 1 by omega, List.replicate_succ]
    rfl
  clear h1 h2 ht hr hu0
  iterate 2 (all_goals try cbv; all_goals repeat' (first | with_reducible exact True.intro | with_reducible refine And.intro ?_ ?_ | intro _))
  all_goals try exact oG
  · rename_i g
    have gi : i < ys.length := by clear hnx hex hy1' hz1'; (subst hA; subst_vars; simp only [AR.std, natCast_eq, sG, reduceCtorEq] at *; try simp (disch := omega) only [AR.std, natCast_eq, sG, reduceCtorEq] at *); omega
    have hlt : i.toNat < ys.length := by omega
    have hge1 : i + 1 ≤ ys.length := by omega
    have hnx2 := hnx () gi
    obtain ⟨z1, a1, a2, a3, a4, a5⟩ := hy1' hlt
    obtain ⟨z2, b1, b2, b3, b4, b5⟩ := hz1' (by omega)
    have hg1l : A.gl (A.el p (A.nat i)) 1 = intsL (dg z1.natAbs) := by rw [← a2]; clear hnx hex hy1' hz1' hnx2 a1 a2 a3 a4 a5 b1 b2 b3 b4 b5; (subst hA; subst_vars; simp only [AR.std, natCast_eq, sG, reduceCtorEq] at *; try simp (disch := omega) only [AR.std, natCast_eq, sG, reduceCtorEq] at *)
    have hg1b : A.gb (A.el p (A.nat i)) 0 = decide (z1 < 0) := by rw [← a1]; clear hnx hex hy1' hz1' hnx2 a1 a2 a3 a4 a5 b1 b2 b3 b4 b5 hg1l; (subst hA; subst_vars; simp only [AR.std, natCast_eq, sG, reduceCtorEq] at *; try simp (disch := omega) only [AR.std, natCast_eq, sG, reduceCtorEq] at *)
    have hg1e : A.gi (A.el p (A.nat i)) 2 = (ys.getD i.toNat noY).2.2 := by clear hnx hex hy1' hz1' hnx2 a1 a2 a3 a4 a5 b1 b2 b3 b4 b5 hg1l hg1b; (subst hA; subst_vars; simp only [AR.std, natCast_eq, sG, reduceCtorEq] at *; try simp (disch := omega) only [AR.std, natCast_eq, sG, reduceCtorEq] at *)
    have hg2l : A.gl (A.el q (A.nat i)) 1 = intsL (dg z2.natAbs) := by rw [← b2]; clear hnx hex hy1' hz1' hnx2 a1 a2 a3 a4 a5 b1 b2 b3 b4 b5 hg1l hg1b hg1e; (subst hA; subst_vars; simp only [AR.std, natCast_eq, sG, reduceCtorEq] at *; try simp (disch := omega) only [AR.std, natCast_eq, sG, reduceCtorEq] at *)
    have hg2b : A.gb (A.el q (A.nat i)) 0 = decide (z2 < 0) := by rw [← b1]; clear hnx hex hy1' hz1' hnx2 a1 a2 a3 a4 a5 b1 b2 b3 b4 b5 hg1l hg1b hg1e hg2l; (subst hA; subst_vars; simp only [AR.std, natCast_eq, sG, reduceCtorEq] at *; try simp (disch := omega) only [AR.std, natCast_eq, sG, reduceCtorEq] at *)
    have hg2e : A.gi (A.el q (A.nat i)) 2 = (zs.getD i.toNat noY).2.2 := by clear hnx hex hy1' hz1' hnx2 a1 a2 a3 a4 a5 b1 b2 b3 b4 b5 hg1l hg1b hg1e hg2l hg2b; (subst hA; subst_vars; simp only [AR.std, natCast_eq, sG, reduceCtorEq] at *; try simp (disch := omega) only [AR.std, natCast_eq, sG, reduceCtorEq] at *)
    have hg1e' : (A.gi (A.el p (A.nat i)) 2).natAbs ≤ 100000 := by rw [hg1e]; omega
    have hg2e' : (A.gi (A.el q (A.nat i)) 2).natAbs ≤ 100000 := by rw [hg2e]; omega
    obtain ⟨d, hd⟩ : ∃ d, d = d1 i.toNat + d2 i.toNat := ⟨_, rfl⟩
    have hd' : d = mk z1 (A.gi (A.el p (A.nat i)) 2) + mk z2 (A.gi (A.el q (A.nat i)) 2) := by rw [hg1e, hg2e, ← a3, ← b3, hd]
    obtain ⟨rr, hrr⟩ : ∃ rr, rr = intsL (dg (cZ d).natAbs) := ⟨_, rfl⟩
    obtain ⟨u, hu⟩ : ∃ u, u = decide (cZ d < 0) := ⟨_, rfl⟩
    obtain ⟨f, hf⟩ : ∃ f, f = cE d := ⟨_, rfl⟩
    have hnx3 : t.set i.toNat (.agg [B u, .lst rr, I f]) = cells3 (canL (fun k => d1 k + d2 k) (i.toNat + 1) ++ List.replicate (ys.length - (i.toNat + 1)) noY) := by rw [← hnx2, ← hd, hrr, hu, hf]; rfl
    obtain ⟨t9, ht9⟩ : ∃ t9, t9 = t.set i.toNat (.agg [B u, .lst rr, I f]) := ⟨_, rfl⟩
    have hst : A.set t (A.nat i) (.agg [B u, .lst rr, I f]) = t9 := by rw [ht9]; subst hA; rfl
    rw [← ht9] at hnx3

    iterate 2 (all_goals try cbv; all_goals repeat' (first | with_reducible exact True.intro | with_reducible refine And.intro ?_ ?_ | intro _))
    all_goals try exact oG
    refine ⟨_, l4add_fs C hg1l hg1b hg2l hg2b hd' hrr hu hf hg1e' hg2e' (by omega) (by omega), ?_⟩
    clear hnx hex hy1' hz1' hnx2 a1 a2 a3 a4 a5 b1 b2 b3 b4 b5 hg1l hg1b hg1e hg2l hg2b hg2e hg1e' hg2e' hd hd' hrr hu hf ht9
    iterate 2 (all_goals try cbv; all_goals repeat' (first | with_reducible exact True.intro | with_reducible refine And.intro ?_ ?_ | intro _))
    all_goals try exact oG
    simp only [hst]
    clear hst
    obtain ⟨y1, hy1⟩ : ∃ y, y = i + 1 := ⟨_, rfl⟩
    obtain ⟨y2, hy2⟩ : ∃ y, y = t9 := ⟨_, rfl⟩
    refine ⟨⟨(y1, y2), ?_⟩, ?_, ?_⟩
    rotate_left
    · cbv
      exact nG
    · (subst hA; subst_vars; simp only [AR.std, natCast_eq, sG, reduceCtorEq] at *; try simp (disch := omega) only [AR.std, natCast_eq, sG, reduceCtorEq] at *); omega
    · rw [hy1, hy2]
      refine ⟨by simp only; omega, hge1, ?_⟩
      simp only
      rw [show (i + 1).toNat = i.toNat + 1 by omega]; exact hnx3
  · rename_i g
    have e := hex (by clear hnx hex hy1' hz1'; (subst hA; subst_vars; simp only [AR.std, natCast_eq, sG, reduceCtorEq] at *; try simp (disch := omega) only [AR.std, natCast_eq, sG, reduceCtorEq] at *); omega)
    rw [e]

end Tryz
end Go.Proofs
