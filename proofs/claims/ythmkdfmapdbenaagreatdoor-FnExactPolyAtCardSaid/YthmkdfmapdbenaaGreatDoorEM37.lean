/- Contracts: the identity and the adjugate in the reference. -/
import Derived.Test.YthmkdfmapdbenaaGreatDoorEM10
import Derived.Test.YthmkdfmapdbenaaGreatDoorEM35
import Derived.Test.YthmkdfmapdbenaaGreatDoorEPeTe
namespace Go.Proofs
open Go Go.Pe Go.Dg
namespace Tryz
set_option linter.unusedSimpArgs false
set_option linter.unusedVariables false
variable {P : Program} {gl : List (Nat × Obj)}

set_option maxHeartbeats 1000000 in
set_option maxRecDepth 100000 in
theorem l3of1_fs (C : Cx P gl) {p : List PV} (hp : p = intsL (dg 1)) : FS P gl 127 [I 1] (· = .agg [B false, .lst p]) := by
  have h1 := fun (P' : Program) (C' : Cx P' gl) => l2of_fs C' (k := 1) (n := 1) rfl hp (by decide)
  have h2 := fun (P' : Program) (C' : Cx P' gl) => l3make_fs C' (n := 1) (s := false) (s' := false) hp rfl (Nat.le_trans (dg_len 1 (by decide)) (by decide))
  clear hp
  obtain ⟨rfl, hG⟩ := C
  refine FS_ofT (args := fun A => [I 1]) (R := fun A rr => rr = .agg [B false, .lst p]) Tryz.hT Tryz.mix Tryz.func127 rfl rfl (Nat.le_of_ble_eq_true rfl) ?_
  generalize hP : Tryz.prog = P
  intro A hA
  have C : Tryz.Cx P gl := ⟨hP.symm, hG⟩
  have hI : intsL = A.ints := by subst hA; rfl
  iterate 2 (all_goals try cbv; all_goals repeat' (first | with_reducible exact True.intro | with_reducible refine And.intro ?_ ?_ | intro _))
  all_goals try exact oG
  refine callS hA rfl (h1 P C) ?_; rintro _ rfl
  iterate 2 (all_goals try cbv; all_goals repeat' (first | with_reducible exact True.intro | with_reducible refine And.intro ?_ ?_ | intro _))
  all_goals try exact oG
  refine callS hA rfl (h2 P C) ?_; rintro _ rfl
  iterate 2 (all_goals try cbv; all_goals repeat' (first | with_reducible exact True.intro | with_reducible refine And.intro ?_ ?_ | intro _))
  all_goals try exact oG

set_option maxHeartbeats 1000000 in
set_option maxRecDepth 100000 in
theorem l8id_fs (C : Cx P gl) {r : List PV} {n : Int} (hn : 0 ≤ n) (hn4 : n ≤ 4) (hr : r = cells3 (canL (idD n.toNat) (n.toNat * n.toNat))) :
    FS P gl 76 [I n] (· = .agg [I n, .lst r]) := by
  obtain ⟨w, hw⟩ : ∃ w, w = n.toNat := ⟨_, rfl⟩
  rw [← hw] at hr
  have hnn : n * n = ((w * w : Nat) : Int) := by rw [hw, Int.natCast_mul, Int.toNat_of_nonneg hn]
  have hw4 : w ≤ 4 := by omega
  obtain ⟨N, hN⟩ : ∃ N, N = w * w := ⟨_, rfl⟩
  obtain ⟨u0, hu0⟩ : ∃ u, u = cells3 (idP w 0) := ⟨_, rfl⟩
  have hnew := fun (P' : Program) (C' : Cx P' gl) => l8new_fn C' hn (by omega) (by rw [hu0, idP_zero, hnn]; rfl : u0 = cells3 (List.replicate (n * n).toNat noY))
  obtain ⟨po, hpo⟩ : ∃ po, po = intsL (dg 1) := ⟨_, rfl⟩
  obtain ⟨s, hs⟩ : ∃ s, s = (canY 1).1 := ⟨_, rfl⟩
  obtain ⟨q, hq⟩ : ∃ q, q = intsL (canY 1).2.1 := ⟨_, rfl⟩
  obtain ⟨e, he⟩ : ∃ e, e = (canY 1).2.2 := ⟨_, rfl⟩
  have h3 := fun (P' : Program) (C' : Cx P' gl) => l3of1_fs C' hpo
  have h4 := fun (P' : Program) (C' : Cx P' gl) => l4make_fs C' (z := 1) (e := 0) (s := false) (d := 1) (p := po) (r := q) (u := s) (f := e) hpo rfl rfl hq hs he (by decide) (Nat.le_trans (dg_len 1 (by decide)) (by decide))
  have hbnd : ∀ i : Int, 0 ≤ i → i < n → (i * n + i).toNat = i.toNat * w + i.toNat ∧ 0 ≤ i * n ∧ i * n ≤ 16 ∧ i * n + i < N := by
    intro i h1 h3
    have hww : w * w ≤ 4 * 4 := Nat.mul_le_mul hw4 hw4
    have e1 : i * n = ((i.toNat * w : Nat) : Int) := by rw [Int.natCast_mul, hw, Int.toNat_of_nonneg h1, Int.toNat_of_nonneg hn]
    have := place_lt (n := w) (i := i.toNat) (j := i.toNat) (by omega) (by omega)
    omega
  have hstep : ∀ (i : Int) (t : List PV), 0 ≤ i → i < n → t = cells3 (idP w i.toNat) → ∃ (x : Int) (t2 : List PV), x = i * n + i ∧ 0 ≤ x ∧ x < N ∧ t2 = t.set x.toNat (.agg [B s, .lst q, I e]) ∧ t2 = cells3 (idP w (i + 1).toNat) := by
    intro i t h1 h2 ht
    obtain ⟨b1, b2, b3, b4⟩ := hbnd i h1 h2
    refine ⟨i * n + i, _, rfl, by omega, b4, rfl, ?_⟩
    rw [show (i + 1).toNat = i.toNat + 1 by omega, ← idP_succ (by omega), b1, ht, hs, hq, he]
    exact c3set _ _ (canY 1)
  have hlen : ∀ (i : Int) (t : List PV), t = cells3 (idP w i.toNat) → t.length = N := by
    intro i t ht
    rw [ht, cells3_len, idP_len, hN]
  have hend : ∀ t : List PV, t = cells3 (idP w n.toNat) → t = r := by
    intro t h
    rw [h, hr, ← hw, idP_all]
  have hb2 : ∀ i : Int, 0 ≤ i → i < n → 0 ≤ i * n ∧ i * n ≤ 16 ∧ i * n + i < N := fun i h1 h2 => (hbnd i h1 h2).2
  clear hr hs hq he hnn hN hbnd hpo
  obtain ⟨rfl, hG⟩ := C
  refine FS_ofT (args := fun A => [I n]) (R := fun A rr => rr = .agg [I n, .lst r]) Tryz.hT Tryz.mix Tryz.func76 rfl rfl (Nat.le_of_ble_eq_true rfl) ?_
  generalize hP : Tryz.prog = P
  intro A hA
  have C : Tryz.Cx P gl := ⟨hP.symm, hG⟩
  have hI : intsL = A.ints := by subst hA; rfl
  iterate 2 (all_goals try cbv; all_goals repeat' (first | with_reducible exact True.intro | with_reducible refine And.intro ?_ ?_ | intro _))
  all_goals try exact oG
  refine callN hA rfl (hnew P C) ?_; rintro _ _ ⟨rfl, rfl⟩; refine ⟨rfl, ?_⟩
  clear hnew
  iterate 2 (all_goals try cbv; all_goals repeat' (first | with_reducible exact True.intro | with_reducible refine And.intro ?_ ?_ | intro _))
  all_goals try exact oG
  refine loopI hA [] (ι := Int × List PV) (fun x => [(4, .pv (I x.1))]) (fun x => [(1, .row 41 3 x.2)]) (fun x => (n - x.1).toNat) (fun x => 0 ≤ x.1 ∧ x.1 ≤ n ∧ x.2 = cells3 (idP w x.1.toNat)) (0, u0) (by rfl) ?_ ?_ ?_
  all_goals try exact tG
  · exact ⟨Int.le_refl _, hn, hu0⟩
  rintro ⟨i, t⟩ ⟨hi0, hi1, ht⟩
  simp only at hi0 hi1 ht
  have htl := hlen i t ht
  have b4 : i < n → 0 ≤ i * n ∧ i * n ≤ 16 ∧ i * n + i < N := fun h => hb2 i hi0 h
  have hx : ∀ _ : Unit, i = n → t = r := fun _ h => hend t (by rw [ht, h])
  have hs : ∀ _ : Unit, i < n → ∃ (x : Int) (t2 : List PV), x = i * n + i ∧ 0 ≤ x ∧ x < N ∧ t2 = t.set x.toNat (.agg [B s, .lst q, I e]) ∧ t2 = cells3 (idP w (i + 1).toNat) := fun _ h => hstep i t hi0 h ht
  clear ht hstep hlen hend hb2 hu0
  iterate 2 (all_goals try cbv; all_goals repeat' (first | with_reducible exact True.intro | with_reducible refine And.intro ?_ ?_ | intro _))
  all_goals try exact oG
  · rename_i g
    have gi : i < n := by clear hx hs; (subst hA; subst_vars; simp only [AR.std, natCast_eq, sG, reduceCtorEq] at *; try simp (disch := omega) only [AR.std, natCast_eq, sG, reduceCtorEq] at *); omega
    obtain ⟨x, t2, x1, x2, x3, x4, x5⟩ := hs () gi
    have hi2 : i + 1 ≤ n := by omega
    have hx1 : A.add .i64 (A.mul .i64 i n) i = x := by clear hx hs x4 x5 g; (subst hA; subst_vars; simp only [AR.std, natCast_eq, sG, reduceCtorEq] at *; try simp (disch := omega) only [AR.std, natCast_eq, sG, reduceCtorEq] at *)
    have hst : A.set t (A.nat x) (.agg [B s, .lst q, I e]) = t2 := by rw [x4]; subst hA; rfl
    clear hx hs g x4
    iterate 2 (all_goals try cbv; all_goals repeat' (first | with_reducible exact True.intro | with_reducible refine And.intro ?_ ?_ | intro _))
    all_goals try exact oG
    refine ⟨_, h3 P C, ?_⟩
    iterate 2 (all_goals try cbv; all_goals repeat' (first | with_reducible exact True.intro | with_reducible refine And.intro ?_ ?_ | intro _))
    all_goals try exact oG
    refine ⟨_, h4 P C, ?_⟩
    iterate 2 (all_goals try cbv; all_goals repeat' (first | with_reducible exact True.intro | with_reducible refine And.intro ?_ ?_ | intro _))
    all_goals try exact oG
    all_goals simp only [hx1]
    iterate 2 (all_goals try cbv; all_goals repeat' (first | with_reducible exact True.intro | with_reducible refine And.intro ?_ ?_ | intro _))
    all_goals try exact oG
    simp only [hst]
    clear hst hx1
    obtain ⟨y1, hy1⟩ : ∃ y, y = i + 1 := ⟨_, rfl⟩
    obtain ⟨y2, hy2⟩ : ∃ y, y = t2 := ⟨_, rfl⟩
    refine ⟨⟨(y1, y2), ?_⟩, ?_, ?_⟩
    rotate_left
    · cbv
      exact nG
    · (subst hA; subst_vars; simp only [AR.std, natCast_eq, sG, reduceCtorEq] at *; try simp (disch := omega) only [AR.std, natCast_eq, sG, reduceCtorEq] at *); omega
    · rw [hy1, hy2]
      exact ⟨by simp only; omega, hi2, x5⟩
  · rename_i g
    have e := hx () (by clear hx hs; (subst hA; subst_vars; simp only [AR.std, natCast_eq, sG, reduceCtorEq] at *; try simp (disch := omega) only [AR.std, natCast_eq, sG, reduceCtorEq] at *); omega)
    rw [e]

end Tryz
end Go.Proofs
