/- Contracts: IvMatWide in the program and in the reference. -/
import Derived.Test.YtcbagjglchpagaaGreatDoorMP13
import Derived.Test.YtcbagjglchpagaaGreatDoorMM21
import Derived.Test.YtcbagjglchpagaaGreatDoorMM26
import Derived.Test.YtcbagjglchpagaaGreatDoorMM5
namespace Go.Proofs
open Go Go.Pe Go.Dg
namespace Tryz
set_option linter.unusedSimpArgs false
set_option linter.unusedVariables false
variable {P : Program} {gl : List (Nat × Obj)}

set_option maxHeartbeats 2000000 in
set_option maxRecDepth 100000 in
theorem implIvMatWide_o_fx (C : Cx P gl) {vs : List Cell6} {p : List PV} {n : Int} {d : Dyadic} {u : Bool} {r : List PV} {g : Int} (hp : p = cells6 vs) (ok : ivmOk n vs) (hd : d = normD n.toNat (fun k => dvB vs k - dvA vs k)) (fit : fits d) (n0 : d ≠ 0) (hr : r = intsL (dg (cZ d).natAbs)) (hu : u = decide (cZ d < 0)) (hg : g = cE d)
    (hl : vs.length ≤ 2000000) (hy : ∀ v ∈ vs, v.1.2.1.length ≤ 2000000 ∧ v.2.2.1.length ≤ 2000000) :
    FX P gl 30 [] [.pv (.agg [I n, .lst p])] (fun own rr => own = [.row 3 1 r] ∧ rr = .tup [.agg [.pv (B u), .own 0, .pv (I g)], .pv (B true)]) := by
  have am := fun (P' : Program) (C' : Cx P' gl) => implIvMatOk_fs C' (n := n) (b := true) hp ⟨fun _ => ok, fun _ => rfl⟩ hl hy
  obtain ⟨n1, n4, hvl, hva⟩ := ok
  have hvl2 := ivmLen n1 n4 hvl
  obtain ⟨Y, hYY⟩ := pickY3 (n := vs.length) (Q := fun k w => X (dvB vs k - dvA vs k) 3102 3000 w ∧ ∀ (P : Program) (gl : List (Nat × Obj)), Cx P gl → FS P gl 78 [cell6 (vs.getD k noV)] (· = cell3 w))
    (fun k hk => xWide (allV_XV hva k hk).1 (allV_XV hva k hk).2 (by omega) (by omega))
  have hX : XL (fun k => dvB vs k - dvA vs k) 3102 3000 (listY Y vs.length) := listY_XL (fun k hk => (hYY k hk).1)
  obtain ⟨⟨s0, l0, e0⟩, w1, w2⟩ := gridNorm_ex hX (by omega) (by omega) (by omega) n4 (by rw [listY_len]; exact hvl)
  rw [← hd] at w1
  obtain ⟨z, a1, a2, a3, a4, a5⟩ := w1
  simp only at a1 a2 a3 a4 a5 w2
  obtain ⟨pr, hpr⟩ : ∃ pr, pr = intsL l0 := ⟨_, rfl⟩
  obtain ⟨r0, hr0⟩ : ∃ r0, r0 = cells3 (listY Y vs.length) := ⟨_, rfl⟩
  have gr := fun (P' : Program) (C' : Cx P' gl) => w2 P' gl r0 pr C' hr0 hpr
  have hY : ∀ k, k < vs.length → ∀ P', Cx P' gl → FS P' gl 78 [cell6 (vs.getD k noV)] (· = cell3 (Y k)) := fun k hk P' C' => (hYY k hk).2 P' gl C'
  rw [a2] at hpr
  have hz : z = 0 ↔ d = 0 := by
    constructor
    · intro h; rw [a3, h, mk_zero]
    · intro h; rw [h, ← mk_zero e0, mk_inj] at a3; exact a3.symm
  have hdy := fun (P' : Program) (C' : Cx P' gl) => dy_fn C' hpr a1 a3 hr hu hg (by omega) (by omega) (fun h => n0 (hz.1 h)) fit
  clear fit n0 hr hu hg hy
  clear hYY hX w2 hva hvl hpr hz a1 a2 a3 a4 a5 hd
  obtain ⟨rfl, hG⟩ := C
  refine FX_ofC (own := fun A => []) (args := fun A => [.pv (.agg [I n, .lst p])]) (R := fun A ow rr => ow = [.row 3 1 r] ∧ rr = .tup [.agg [.pv (B u), .own 0, .pv (I g)], .pv (B true)]) Tryz.hT Tryz.mix Tryz.func30 rfl rfl (Nat.le_of_ble_eq_true rfl) ?_
  generalize hP : Tryz.prog = P
  intro A hA
  have C : Tryz.Cx P gl := ⟨hP.symm, hG⟩
  have hI : intsL = A.ints := by subst hA; rfl
  iterate 2 (all_goals try cbv; all_goals repeat' (first | with_reducible exact True.intro | with_reducible refine And.intro ?_ ?_ | intro _))
  all_goals try exact oI
  refine callS hA rfl (am P C) ?_; rintro _ rfl
  iterate 2 (all_goals try cbv; all_goals repeat' (first | with_reducible exact True.intro | with_reducible refine And.intro ?_ ?_ | intro _))
  all_goals try exact oI
  iterate 2 (all_goals try cbv; all_goals repeat' (first | with_reducible exact True.intro | with_reducible refine And.intro ?_ ?_ | intro _))
  all_goals try exact oI
  refine loopI hA [.cell 2 1 81 3] (ι := Int × List PV) (fun x => [(17, .pv (I x.1))]) (fun x => [(3, .row 81 3 x.2)]) (fun x => (vs.length - x.1).toNat) (fun x => 0 ≤ x.1 ∧ x.1 ≤ vs.length ∧ x.2 = cells3 (listY Y x.1.toNat)) (0, []) (by rfl) ?_ ?_ ?_
  all_goals try exact tI
  · exact ⟨Int.le_refl _, by omega, rfl⟩
  rintro ⟨i, q0⟩ ⟨hi0, hi1, hq0⟩
  simp only at hi0 hi1 hq0
  have hql : q0.length ≤ 1000000 := by rw [hq0, c3len, listY_len]; omega
  obtain ⟨v, hv⟩ : ∃ v, v = vs.getD i.toNat noV := ⟨_, rfl⟩
  obtain ⟨s1, hs1⟩ : ∃ x, x = v.1.1 := ⟨_, rfl⟩
  obtain ⟨p1, hp1⟩ : ∃ x, x = intsL v.1.2.1 := ⟨_, rfl⟩
  obtain ⟨e1, he1⟩ : ∃ x, x = v.1.2.2 := ⟨_, rfl⟩
  obtain ⟨s2, hs2⟩ : ∃ x, x = v.2.1 := ⟨_, rfl⟩
  obtain ⟨p2, hp2⟩ : ∃ x, x = intsL v.2.2.1 := ⟨_, rfl⟩
  obtain ⟨e2, he2⟩ : ∃ x, x = v.2.2.2 := ⟨_, rfl⟩
  have hel : ∀ _ : Unit, i < vs.length → (A.gb (A.el p (A.nat i)) 0 = s1 ∧ A.gl (A.el p (A.nat i)) 1 = p1 ∧ A.gi (A.el p (A.nat i)) 2 = e1) ∧ A.gb (A.el p (A.nat i)) 3 = s2 ∧ A.gl (A.el p (A.nat i)) 4 = p2 ∧ A.gi (A.el p (A.nat i)) 5 = e2 := by
    intro _ h4
    have w : A.el p (A.nat i) = cell6 v := by rw [hv, hp]; subst hA; exact c6el (show i.toNat < vs.length by omega)
    rw [w, hs1, hp1, he1, hs2, hp2, he2]
    subst hA
    exact ⟨⟨rfl, rfl, rfl⟩, rfl, rfl, rfl⟩
  obtain ⟨y, hy⟩ : ∃ y, y = Y i.toNat := ⟨_, rfl⟩
  obtain ⟨u1, hu1⟩ : ∃ x, x = y.1 := ⟨_, rfl⟩
  obtain ⟨x1, hx1⟩ : ∃ x, x = intsL y.2.1 := ⟨_, rfl⟩
  obtain ⟨g1, hg1⟩ : ∃ x, x = y.2.2 := ⟨_, rfl⟩
  have hlt : ∀ _ : Unit, A.lt i (A.cast (A.len p)) = true → i < vs.length := by
    intro _ h; subst hA; rw [hp] at h; have := of_decide_eq_true (show decide (i < (((cells6 vs).length : Nat) : Int)) = true from h); rw [c6len] at this; exact this
  have hge : ∀ _ : Unit, A.lt i (A.cast (A.len p)) = false → i.toNat = vs.length := by
    intro _ h; subst hA; rw [hp] at h; have := of_decide_eq_false (show decide (i < (((cells6 vs).length : Nat) : Int)) = false from h); rw [c6len] at this; omega
  have hcall : ∀ _ : Unit, i < vs.length → ((∀ P', Cx P' gl → FS P' gl 51 [.agg [B s1, .lst p1, I e1, B s2, .lst p2, I e2]] (· = .agg [B s1, .lst p1, I e1, B s2, .lst p2, I e2])) ∧ (∀ P', Cx P' gl → FS P' gl 78 [.agg [B s1, .lst p1, I e1, B s2, .lst p2, I e2]] (· = .agg [B u1, .lst x1, I g1]))) ∧ q0 ++ [.agg [B u1, .lst x1, I g1]] = cells3 (listY Y (i + 1).toNat) ∧ i.toNat < vs.length ∧ i + 1 ≤ vs.length := by
    intro _ h4
    refine ⟨?_, ?_, by omega, by omega⟩
    · have h := hY i.toNat (by omega)
      rw [← hv, ← hy] at h
      rw [hs1, hp1, he1, hs2, hp2, he2, hu1, hx1, hg1]; exact ⟨fun P' C' => span_fs C', h⟩
    · rw [show (i + 1).toNat = i.toNat + 1 by omega, listY_succ, ← c3app, ← hq0, ← hy, hu1, hx1, hg1]; rfl
  have hdone : i.toNat = vs.length → q0 = r0 := fun h => by rw [hq0, hr0, h]
  clear hY hs1 hp1 he1 hs2 hp2 he2 hu1 hx1 hg1 hv hy hq0 hr0
  iterate 2 (all_goals try cbv; all_goals repeat' (first | with_reducible exact True.intro | with_reducible refine And.intro ?_ ?_ | intro _))
  all_goals try exact oI
  · rename_i g
    have gi := hlt () g
    obtain ⟨⟨w1, w2, w3⟩, w4, w5, w6⟩ := hel () gi
    obtain ⟨⟨o1, o5⟩, o2, o3, o4⟩ := hcall () gi
    obtain ⟨r', hr'⟩ : ∃ r', r' = q0 ++ [.agg [B u1, .lst x1, I g1]] := ⟨_, rfl⟩
    have hra : A.app q0 [.agg [B u1, .lst x1, I g1]] = r' := by rw [hr']; subst hA; rfl
    rw [← hr'] at o2
    clear hlt hge hel hcall hdone hr'
    all_goals try simp only [w1, w2, w3, w4, w5, w6]
    iterate 2 (all_goals try cbv; all_goals repeat' (first | with_reducible exact True.intro | with_reducible refine And.intro ?_ ?_ | intro _))
    all_goals try exact oI
    all_goals try simp only [w1, w2, w3, w4, w5, w6]
    first | (refine callS hA rfl (o1 P C) ?_; rintro _ rfl) | refine ⟨_, o1 P C, ?_⟩
    iterate 2 (all_goals try cbv; all_goals repeat' (first | with_reducible exact True.intro | with_reducible refine And.intro ?_ ?_ | intro _))
    all_goals try exact oI
    all_goals try simp only [w1, w2, w3, w4, w5, w6]
    first | (refine callS hA rfl (o5 P C) ?_; rintro _ rfl) | refine ⟨_, o5 P C, ?_⟩
    iterate 2 (all_goals try cbv; all_goals repeat' (first | with_reducible exact True.intro | with_reducible refine And.intro ?_ ?_ | intro _))
    all_goals try exact oI
    all_goals try simp only [w1, w2, w3, w4, w5, w6]
    all_goals try exact okA_of hA (by intro x hx; rw [List.mem_singleton.1 hx]; exact ⟨rfl, rfl⟩)
    all_goals try exact cap_of hA (by simp only [List.length_singleton]; omega)
    simp only [hra]
    clear hra w1 w2 w3 w4 w5 w6 o1 o5
    obtain ⟨y1, hy1⟩ : ∃ y, y = i + 1 := ⟨_, rfl⟩
    obtain ⟨y2, hy2⟩ : ∃ y, y = r' := ⟨_, rfl⟩
    refine ⟨⟨(y1, y2), ?_⟩, ?_, ?_⟩
    rotate_left
    · cbv
      exact nI
    · (subst hA; subst_vars; simp only [AR.std, natCast_eq, sI, reduceCtorEq] at *; try simp (disch := omega) only [AR.std, natCast_eq, sI, reduceCtorEq] at *); omega
    · rw [hy1, hy2]
      exact ⟨by simp only; omega, o4, o2⟩
  · rename_i g
    have e := hdone (hge () g)
    simp only [e]
    clear e
    iterate 2 (all_goals try cbv; all_goals repeat' (first | with_reducible exact True.intro | with_reducible refine And.intro ?_ ?_ | intro _))
    all_goals try exact oI
    first | (refine callS hA rfl (gr P C) ?_; rintro _ rfl) | refine ⟨_, gr P C, ?_⟩
    iterate 2 (all_goals try cbv; all_goals repeat' (first | with_reducible exact True.intro | with_reducible refine And.intro ?_ ?_ | intro _))
    all_goals try exact oI
    refine callN hA rfl (hdy P C) ?_; rintro _ _ ⟨rfl, rfl⟩; refine ⟨rfl, ?_⟩
    iterate 2 (all_goals try cbv; all_goals repeat' (first | with_reducible exact True.intro | with_reducible refine And.intro ?_ ?_ | intro _))
    all_goals try exact oI
    subst hA
    exact ⟨[4], _, _, by decide, Nat.zero_le _, rfl, rfl, rfl, rfl, rfl, rfl⟩

theorem implIvMatWide_o_fn (C : Cx P gl) {vs : List Cell6} {p : List PV} {n : Int} {d : Dyadic} {u : Bool} {r : List PV} {g : Int} (hp : p = cells6 vs) (ok : ivmOk n vs) (hd : d = normD n.toNat (fun k => dvB vs k - dvA vs k)) (fit : fits d) (n0 : d ≠ 0) (hr : r = intsL (dg (cZ d).natAbs)) (hu : u = decide (cZ d < 0)) (hg : g = cE d)
    (hl : vs.length ≤ 2000000) (hy : ∀ v ∈ vs, v.1.2.1.length ≤ 2000000 ∧ v.2.2.1.length ≤ 2000000) :
    FN P gl 30 [.agg [I n, .lst p]] (fun own rr => own = [.row 3 1 r] ∧ rr = .tup [.agg [.pv (B u), .own 0, .pv (I g)], .pv (B true)]) :=
  FN_of (implIvMatWide_o_fx C hp ok hd fit n0 hr hu hg hl hy) (by rintro _ _ ⟨rfl, rfl⟩; exact ⟨by simpa using closed_ints hr _ _, rfl⟩)

set_option maxHeartbeats 2000000 in
set_option maxRecDepth 100000 in
theorem implIvMatWide_n_fs (C : Cx P gl) {vs : List Cell6} {p : List PV} {n : Int} {d : Dyadic} (hp : p = cells6 vs) (ok : ivmOk n vs) (hd : d = normD n.toNat (fun k => dvB vs k - dvA vs k)) (n0 : d = 0)
    (hl : vs.length ≤ 2000000) (hy : ∀ v ∈ vs, v.1.2.1.length ≤ 2000000 ∧ v.2.2.1.length ≤ 2000000) :
    FS P gl 30 [.agg [I n, .lst p]] (· = .tup [.agg [B false, .lst [], I 0], B true]) := by
  have am := fun (P' : Program) (C' : Cx P' gl) => implIvMatOk_fs C' (n := n) (b := true) hp ⟨fun _ => ok, fun _ => rfl⟩ hl hy
  obtain ⟨n1, n4, hvl, hva⟩ := ok
  have hvl2 := ivmLen n1 n4 hvl
  obtain ⟨Y, hYY⟩ := pickY3 (n := vs.length) (Q := fun k w => X (dvB vs k - dvA vs k) 3102 3000 w ∧ ∀ (P : Program) (gl : List (Nat × Obj)), Cx P gl → FS P gl 78 [cell6 (vs.getD k noV)] (· = cell3 w))
    (fun k hk => xWide (allV_XV hva k hk).1 (allV_XV hva k hk).2 (by omega) (by omega))
  have hX : XL (fun k => dvB vs k - dvA vs k) 3102 3000 (listY Y vs.length) := listY_XL (fun k hk => (hYY k hk).1)
  obtain ⟨⟨s0, l0, e0⟩, w1, w2⟩ := gridNorm_ex hX (by omega) (by omega) (by omega) n4 (by rw [listY_len]; exact hvl)
  rw [← hd] at w1
  obtain ⟨z, a1, a2, a3, a4, a5⟩ := w1
  simp only at a1 a2 a3 a4 a5 w2
  obtain ⟨pr, hpr⟩ : ∃ pr, pr = intsL l0 := ⟨_, rfl⟩
  obtain ⟨r0, hr0⟩ : ∃ r0, r0 = cells3 (listY Y vs.length) := ⟨_, rfl⟩
  have gr := fun (P' : Program) (C' : Cx P' gl) => w2 P' gl r0 pr C' hr0 hpr
  have hY : ∀ k, k < vs.length → ∀ P', Cx P' gl → FS P' gl 78 [cell6 (vs.getD k noV)] (· = cell3 (Y k)) := fun k hk P' C' => (hYY k hk).2 P' gl C'
  rw [a2] at hpr
  have hz : z = 0 ↔ d = 0 := by
    constructor
    · intro h; rw [a3, h, mk_zero]
    · intro h; rw [h, ← mk_zero e0, mk_inj] at a3; exact a3.symm
  have hpr0 : pr = [] := by rw [hpr, hz.2 n0, show Int.natAbs 0 = 0 from rfl, dg_zero]; rfl
  rw [hpr0] at gr
  have hdy := fun (P' : Program) (C' : Cx P' gl) => @dy0_fs P' gl C' e0 s0
  clear n0 hy
  clear hYY hX w2 hva hvl hpr hz a1 a2 a3 a4 a5 hd
  obtain ⟨rfl, hG⟩ := C
  refine FS_ofC (args := fun A => [.agg [I n, .lst p]]) (R := fun A rr => rr = .tup [.agg [B false, .lst [], I 0], B true]) Tryz.hT Tryz.mix Tryz.func30 rfl rfl (Nat.le_of_ble_eq_true rfl) ?_
  generalize hP : Tryz.prog = P
  intro A hA
  have C : Tryz.Cx P gl := ⟨hP.symm, hG⟩
  have hI : intsL = A.ints := by subst hA; rfl
  iterate 2 (all_goals try cbv; all_goals repeat' (first | with_reducible exact True.intro | with_reducible refine And.intro ?_ ?_ | intro _))
  all_goals try exact oI
  refine callS hA rfl (am P C) ?_; rintro _ rfl
  iterate 2 (all_goals try cbv; all_goals repeat' (first | with_reducible exact True.intro | with_reducible refine And.intro ?_ ?_ | intro _))
  all_goals try exact oI
  iterate 2 (all_goals try cbv; all_goals repeat' (first | with_reducible exact True.intro | with_reducible refine And.intro ?_ ?_ | intro _))
  all_goals try exact oI
  refine loopI hA [.cell 2 1 81 3] (ι := Int × List PV) (fun x => [(17, .pv (I x.1))]) (fun x => [(3, .row 81 3 x.2)]) (fun x => (vs.length - x.1).toNat) (fun x => 0 ≤ x.1 ∧ x.1 ≤ vs.length ∧ x.2 = cells3 (listY Y x.1.toNat)) (0, []) (by rfl) ?_ ?_ ?_
  all_goals try exact tI
  · exact ⟨Int.le_refl _, by omega, rfl⟩
  rintro ⟨i, q0⟩ ⟨hi0, hi1, hq0⟩
  simp only at hi0 hi1 hq0
  have hql : q0.length ≤ 1000000 := by rw [hq0, c3len, listY_len]; omega
  obtain ⟨v, hv⟩ : ∃ v, v = vs.getD i.toNat noV := ⟨_, rfl⟩
  obtain ⟨s1, hs1⟩ : ∃ x, x = v.1.1 := ⟨_, rfl⟩
  obtain ⟨p1, hp1⟩ : ∃ x, x = intsL v.1.2.1 := ⟨_, rfl⟩
  obtain ⟨e1, he1⟩ : ∃ x, x = v.1.2.2 := ⟨_, rfl⟩
  obtain ⟨s2, hs2⟩ : ∃ x, x = v.2.1 := ⟨_, rfl⟩
  obtain ⟨p2, hp2⟩ : ∃ x, x = intsL v.2.2.1 := ⟨_, rfl⟩
  obtain ⟨e2, he2⟩ : ∃ x, x = v.2.2.2 := ⟨_, rfl⟩
  have hel : ∀ _ : Unit, i < vs.length → (A.gb (A.el p (A.nat i)) 0 = s1 ∧ A.gl (A.el p (A.nat i)) 1 = p1 ∧ A.gi (A.el p (A.nat i)) 2 = e1) ∧ A.gb (A.el p (A.nat i)) 3 = s2 ∧ A.gl (A.el p (A.nat i)) 4 = p2 ∧ A.gi (A.el p (A.nat i)) 5 = e2 := by
    intro _ h4
    have w : A.el p (A.nat i) = cell6 v := by rw [hv, hp]; subst hA; exact c6el (show i.toNat < vs.length by omega)
    rw [w, hs1, hp1, he1, hs2, hp2, he2]
    subst hA
    exact ⟨⟨rfl, rfl, rfl⟩, rfl, rfl, rfl⟩
  obtain ⟨y, hy⟩ : ∃ y, y = Y i.toNat := ⟨_, rfl⟩
  obtain ⟨u1, hu1⟩ : ∃ x, x = y.1 := ⟨_, rfl⟩
  obtain ⟨x1, hx1⟩ : ∃ x, x = intsL y.2.1 := ⟨_, rfl⟩
  obtain ⟨g1, hg1⟩ : ∃ x, x = y.2.2 := ⟨_, rfl⟩
  have hlt : ∀ _ : Unit, A.lt i (A.cast (A.len p)) = true → i < vs.length := by
    intro _ h; subst hA; rw [hp] at h; have := of_decide_eq_true (show decide (i < (((cells6 vs).length : Nat) : Int)) = true from h); rw [c6len] at this; exact this
  have hge : ∀ _ : Unit, A.lt i (A.cast (A.len p)) = false → i.toNat = vs.length := by
    intro _ h; subst hA; rw [hp] at h; have := of_decide_eq_false (show decide (i < (((cells6 vs).length : Nat) : Int)) = false from h); rw [c6len] at this; omega
  have hcall : ∀ _ : Unit, i < vs.length → ((∀ P', Cx P' gl → FS P' gl 51 [.agg [B s1, .lst p1, I e1, B s2, .lst p2, I e2]] (· = .agg [B s1, .lst p1, I e1, B s2, .lst p2, I e2])) ∧ (∀ P', Cx P' gl → FS P' gl 78 [.agg [B s1, .lst p1, I e1, B s2, .lst p2, I e2]] (· = .agg [B u1, .lst x1, I g1]))) ∧ q0 ++ [.agg [B u1, .lst x1, I g1]] = cells3 (listY Y (i + 1).toNat) ∧ i.toNat < vs.length ∧ i + 1 ≤ vs.length := by
    intro _ h4
    refine ⟨?_, ?_, by omega, by omega⟩
    · have h := hY i.toNat (by omega)
      rw [← hv, ← hy] at h
      rw [hs1, hp1, he1, hs2, hp2, he2, hu1, hx1, hg1]; exact ⟨fun P' C' => span_fs C', h⟩
    · rw [show (i + 1).toNat = i.toNat + 1 by omega, listY_succ, ← c3app, ← hq0, ← hy, hu1, hx1, hg1]; rfl
  have hdone : i.toNat = vs.length → q0 = r0 := fun h => by rw [hq0, hr0, h]
  clear hY hs1 hp1 he1 hs2 hp2 he2 hu1 hx1 hg1 hv hy hq0 hr0
  iterate 2 (all_goals try cbv; all_goals repeat' (first | with_reducible exact True.intro | with_reducible refine And.intro ?_ ?_ | intro _))
  all_goals try exact oI
  · rename_i g
    have gi := hlt () g
    obtain ⟨⟨w1, w2, w3⟩, w4, w5, w6⟩ := hel () gi
    obtain ⟨⟨o1, o5⟩, o2, o3, o4⟩ := hcall () gi
    obtain ⟨r', hr'⟩ : ∃ r', r' = q0 ++ [.agg [B u1, .lst x1, I g1]] := ⟨_, rfl⟩
    have hra : A.app q0 [.agg [B u1, .lst x1, I g1]] = r' := by rw [hr']; subst hA; rfl
    rw [← hr'] at o2
    clear hlt hge hel hcall hdone hr'
    all_goals try simp only [w1, w2, w3, w4, w5, w6]
    iterate 2 (all_goals try cbv; all_goals repeat' (first | with_reducible exact True.intro | with_reducible refine And.intro ?_ ?_ | intro _))
    all_goals try exact oI
    all_goals try simp only [w1, w2, w3, w4, w5, w6]
    first | (refine callS hA rfl (o1 P C) ?_; rintro _ rfl) | refine ⟨_, o1 P C, ?_⟩
    iterate 2 (all_goals try cbv; all_goals repeat' (first | with_reducible exact True.intro | with_reducible refine And.intro ?_ ?_ | intro _))
    all_goals try exact oI
    all_goals try simp only [w1, w2, w3, w4, w5, w6]
    first | (refine callS hA rfl (o5 P C) ?_; rintro _ rfl) | refine ⟨_, o5 P C, ?_⟩
    iterate 2 (all_goals try cbv; all_goals repeat' (first | with_reducible exact True.intro | with_reducible refine And.intro ?_ ?_ | intro _))
    all_goals try exact oI
    all_goals try simp only [w1, w2, w3, w4, w5, w6]
    all_goals try exact okA_of hA (by intro x hx; rw [List.mem_singleton.1 hx]; exact ⟨rfl, rfl⟩)
    all_goals try exact cap_of hA (by simp only [List.length_singleton]; omega)
    simp only [hra]
    clear hra w1 w2 w3 w4 w5 w6 o1 o5
    obtain ⟨y1, hy1⟩ : ∃ y, y = i + 1 := ⟨_, rfl⟩
    obtain ⟨y2, hy2⟩ : ∃ y, y = r' := ⟨_, rfl⟩
    refine ⟨⟨(y1, y2), ?_⟩, ?_, ?_⟩
    rotate_left
    · cbv
      exact nI
    · (subst hA; subst_vars; simp only [AR.std, natCast_eq, sI, reduceCtorEq] at *; try simp (disch := omega) only [AR.std, natCast_eq, sI, reduceCtorEq] at *); omega
    · rw [hy1, hy2]
      exact ⟨by simp only; omega, o4, o2⟩
  · rename_i g
    have e := hdone (hge () g)
    simp only [e]
    clear e
    iterate 2 (all_goals try cbv; all_goals repeat' (first | with_reducible exact True.intro | with_reducible refine And.intro ?_ ?_ | intro _))
    all_goals try exact oI
    first | (refine callS hA rfl (gr P C) ?_; rintro _ rfl) | refine ⟨_, gr P C, ?_⟩
    iterate 2 (all_goals try cbv; all_goals repeat' (first | with_reducible exact True.intro | with_reducible refine And.intro ?_ ?_ | intro _))
    all_goals try exact oI
    first | (refine callS hA rfl (hdy P C) ?_; rintro _ rfl) | refine ⟨_, hdy P C, ?_⟩
    iterate 2 (all_goals try cbv; all_goals repeat' (first | with_reducible exact True.intro | with_reducible refine And.intro ?_ ?_ | intro _))
    all_goals try exact oI

set_option maxHeartbeats 2000000 in
set_option maxRecDepth 100000 in
theorem implIvMatWide_X_fs (C : Cx P gl) {vs : List Cell6} {p : List PV} {n : Int} {d : Dyadic} (hp : p = cells6 vs) (ok : ivmOk n vs) (hd : d = normD n.toNat (fun k => dvB vs k - dvA vs k)) (hX0 : ¬fits d)
    (hl : vs.length ≤ 2000000) (hy : ∀ v ∈ vs, v.1.2.1.length ≤ 2000000 ∧ v.2.2.1.length ≤ 2000000) :
    FS P gl 30 [.agg [I n, .lst p]] (· = .tup [.agg [B false, .lst [], I 0], B false]) := by
  have am := fun (P' : Program) (C' : Cx P' gl) => implIvMatOk_fs C' (n := n) (b := true) hp ⟨fun _ => ok, fun _ => rfl⟩ hl hy
  obtain ⟨n1, n4, hvl, hva⟩ := ok
  have hvl2 := ivmLen n1 n4 hvl
  obtain ⟨Y, hYY⟩ := pickY3 (n := vs.length) (Q := fun k w => X (dvB vs k - dvA vs k) 3102 3000 w ∧ ∀ (P : Program) (gl : List (Nat × Obj)), Cx P gl → FS P gl 78 [cell6 (vs.getD k noV)] (· = cell3 w))
    (fun k hk => xWide (allV_XV hva k hk).1 (allV_XV hva k hk).2 (by omega) (by omega))
  have hX : XL (fun k => dvB vs k - dvA vs k) 3102 3000 (listY Y vs.length) := listY_XL (fun k hk => (hYY k hk).1)
  obtain ⟨⟨s0, l0, e0⟩, w1, w2⟩ := gridNorm_ex hX (by omega) (by omega) (by omega) n4 (by rw [listY_len]; exact hvl)
  rw [← hd] at w1
  obtain ⟨z, a1, a2, a3, a4, a5⟩ := w1
  simp only at a1 a2 a3 a4 a5 w2
  obtain ⟨pr, hpr⟩ : ∃ pr, pr = intsL l0 := ⟨_, rfl⟩
  obtain ⟨r0, hr0⟩ : ∃ r0, r0 = cells3 (listY Y vs.length) := ⟨_, rfl⟩
  have gr := fun (P' : Program) (C' : Cx P' gl) => w2 P' gl r0 pr C' hr0 hpr
  have hY : ∀ k, k < vs.length → ∀ P', Cx P' gl → FS P' gl 78 [cell6 (vs.getD k noV)] (· = cell3 (Y k)) := fun k hk P' C' => (hYY k hk).2 P' gl C'
  rw [a2] at hpr
  have hz : z = 0 ↔ d = 0 := by
    constructor
    · intro h; rw [a3, h, mk_zero]
    · intro h; rw [h, ← mk_zero e0, mk_inj] at a3; exact a3.symm
  have hdy := fun (P' : Program) (C' : Cx P' gl) => dyn_fs C' hpr a1 (e := e0) (by omega) (by omega) (fun h => hX0 (by rw [hz.1 h]; exact fits_zero)) (by rw [← a3]; exact hX0)
  clear hX0 hy
  clear hYY hX w2 hva hvl hpr hz a1 a2 a3 a4 a5 hd
  obtain ⟨rfl, hG⟩ := C
  refine FS_ofC (args := fun A => [.agg [I n, .lst p]]) (R := fun A rr => rr = .tup [.agg [B false, .lst [], I 0], B false]) Tryz.hT Tryz.mix Tryz.func30 rfl rfl (Nat.le_of_ble_eq_true rfl) ?_
  generalize hP : Tryz.prog = P
  intro A hA
  have C : Tryz.Cx P gl := ⟨hP.symm, hG⟩
  have hI : intsL = A.ints := by subst hA; rfl
  iterate 2 (all_goals try cbv; all_goals repeat' (first | with_reducible exact True.intro | with_reducible refine And.intro ?_ ?_ | intro _))
  all_goals try exact oI
  refine callS hA rfl (am P C) ?_; rintro _ rfl
  iterate 2 (all_goals try cbv; all_goals repeat' (first | with_reducible exact True.intro | with_reducible refine And.intro ?_ ?_ | intro _))
  all_goals try exact oI
  iterate 2 (all_goals try cbv; all_goals repeat' (first | with_reducible exact True.intro | with_reducible refine And.intro ?_ ?_ | intro _))
  all_goals try exact oI
  refine loopI hA [.cell 2 1 81 3] (ι := Int × List PV) (fun x => [(17, .pv (I x.1))]) (fun x => [(3, .row 81 3 x.2)]) (fun x => (vs.length - x.1).toNat) (fun x => 0 ≤ x.1 ∧ x.1 ≤ vs.length ∧ x.2 = cells3 (listY Y x.1.toNat)) (0, []) (by rfl) ?_ ?_ ?_
  all_goals try exact tI
  · exact ⟨Int.le_refl _, by omega, rfl⟩
  rintro ⟨i, q0⟩ ⟨hi0, hi1, hq0⟩
  simp only at hi0 hi1 hq0
  have hql : q0.length ≤ 1000000 := by rw [hq0, c3len, listY_len]; omega
  obtain ⟨v, hv⟩ : ∃ v, v = vs.getD i.toNat noV := ⟨_, rfl⟩
  obtain ⟨s1, hs1⟩ : ∃ x, x = v.1.1 := ⟨_, rfl⟩
  obtain ⟨p1, hp1⟩ : ∃ x, x = intsL v.1.2.1 := ⟨_, rfl⟩
  obtain ⟨e1, he1⟩ : ∃ x, x = v.1.2.2 := ⟨_, rfl⟩
  obtain ⟨s2, hs2⟩ : ∃ x, x = v.2.1 := ⟨_, rfl⟩
  obtain ⟨p2, hp2⟩ : ∃ x, x = intsL v.2.2.1 := ⟨_, rfl⟩
  obtain ⟨e2, he2⟩ : ∃ x, x = v.2.2.2 := ⟨_, rfl⟩
  have hel : ∀ _ : Unit, i < vs.length → (A.gb (A.el p (A.nat i)) 0 = s1 ∧ A.gl (A.el p (A.nat i)) 1 = p1 ∧ A.gi (A.el p (A.nat i)) 2 = e1) ∧ A.gb (A.el p (A.nat i)) 3 = s2 ∧ A.gl (A.el p (A.nat i)) 4 = p2 ∧ A.gi (A.el p (A.nat i)) 5 = e2 := by
    intro _ h4
    have w : A.el p (A.nat i) = cell6 v := by rw [hv, hp]; subst hA; exact c6el (show i.toNat < vs.length by omega)
    rw [w, hs1, hp1, he1, hs2, hp2, he2]
    subst hA
    exact ⟨⟨rfl, rfl, rfl⟩, rfl, rfl, rfl⟩
  obtain ⟨y, hy⟩ : ∃ y, y = Y i.toNat := ⟨_, rfl⟩
  obtain ⟨u1, hu1⟩ : ∃ x, x = y.1 := ⟨_, rfl⟩
  obtain ⟨x1, hx1⟩ : ∃ x, x = intsL y.2.1 := ⟨_, rfl⟩
  obtain ⟨g1, hg1⟩ : ∃ x, x = y.2.2 := ⟨_, rfl⟩
  have hlt : ∀ _ : Unit, A.lt i (A.cast (A.len p)) = true → i < vs.length := by
    intro _ h; subst hA; rw [hp] at h; have := of_decide_eq_true (show decide (i < (((cells6 vs).length : Nat) : Int)) = true from h); rw [c6len] at this; exact this
  have hge : ∀ _ : Unit, A.lt i (A.cast (A.len p)) = false → i.toNat = vs.length := by
    intro _ h; subst hA; rw [hp] at h; have := of_decide_eq_false (show decide (i < (((cells6 vs).length : Nat) : Int)) = false from h); rw [c6len] at this; omega
  have hcall : ∀ _ : Unit, i < vs.length → ((∀ P', Cx P' gl → FS P' gl 51 [.agg [B s1, .lst p1, I e1, B s2, .lst p2, I e2]] (· = .agg [B s1, .lst p1, I e1, B s2, .lst p2, I e2])) ∧ (∀ P', Cx P' gl → FS P' gl 78 [.agg [B s1, .lst p1, I e1, B s2, .lst p2, I e2]] (· = .agg [B u1, .lst x1, I g1]))) ∧ q0 ++ [.agg [B u1, .lst x1, I g1]] = cells3 (listY Y (i + 1).toNat) ∧ i.toNat < vs.length ∧ i + 1 ≤ vs.length := by
    intro _ h4
    refine ⟨?_, ?_, by omega, by omega⟩
    · have h := hY i.toNat (by omega)
      rw [← hv, ← hy] at h
      rw [hs1, hp1, he1, hs2, hp2, he2, hu1, hx1, hg1]; exact ⟨fun P' C' => span_fs C', h⟩
    · rw [show (i + 1).toNat = i.toNat + 1 by omega, listY_succ, ← c3app, ← hq0, ← hy, hu1, hx1, hg1]; rfl
  have hdone : i.toNat = vs.length → q0 = r0 := fun h => by rw [hq0, hr0, h]
  clear hY hs1 hp1 he1 hs2 hp2 he2 hu1 hx1 hg1 hv hy hq0 hr0
  iterate 2 (all_goals try cbv; all_goals repeat' (first | with_reducible exact True.intro | with_reducible refine And.intro ?_ ?_ | intro _))
  all_goals try exact oI
  · rename_i g
    have gi := hlt () g
    obtain ⟨⟨w1, w2, w3⟩, w4, w5, w6⟩ := hel () gi
    obtain ⟨⟨o1, o5⟩, o2, o3, o4⟩ := hcall () gi
    obtain ⟨r', hr'⟩ : ∃ r', r' = q0 ++ [.agg [B u1, .lst x1, I g1]] := ⟨_, rfl⟩
    have hra : A.app q0 [.agg [B u1, .lst x1, I g1]] = r' := by rw [hr']; subst hA; rfl
    rw [← hr'] at o2
    clear hlt hge hel hcall hdone hr'
    all_goals try simp only [w1, w2, w3, w4, w5, w6]
    iterate 2 (all_goals try cbv; all_goals repeat' (first | with_reducible exact True.intro | with_reducible refine And.intro ?_ ?_ | intro _))
    all_goals try exact oI
    all_goals try simp only [w1, w2, w3, w4, w5, w6]
    first | (refine callS hA rfl (o1 P C) ?_; rintro _ rfl) | refine ⟨_, o1 P C, ?_⟩
    iterate 2 (all_goals try cbv; all_goals repeat' (first | with_reducible exact True.intro | with_reducible refine And.intro ?_ ?_ | intro _))
    all_goals try exact oI
    all_goals try simp only [w1, w2, w3, w4, w5, w6]
    first | (refine callS hA rfl (o5 P C) ?_; rintro _ rfl) | refine ⟨_, o5 P C, ?_⟩
    iterate 2 (all_goals try cbv; all_goals repeat' (first | with_reducible exact True.intro | with_reducible refine And.intro ?_ ?_ | intro _))
    all_goals try exact oI
    all_goals try simp only [w1, w2, w3, w4, w5, w6]
    all_goals try exact okA_of hA (by intro x hx; rw [List.mem_singleton.1 hx]; exact ⟨rfl, rfl⟩)
    all_goals try exact cap_of hA (by simp only [List.length_singleton]; omega)
    simp only [hra]
    clear hra w1 w2 w3 w4 w5 w6 o1 o5
    obtain ⟨y1, hy1⟩ : ∃ y, y = i + 1 := ⟨_, rfl⟩
    obtain ⟨y2, hy2⟩ : ∃ y, y = r' := ⟨_, rfl⟩
    refine ⟨⟨(y1, y2), ?_⟩, ?_, ?_⟩
    rotate_left
    · cbv
      exact nI
    · (subst hA; subst_vars; simp only [AR.std, natCast_eq, sI, reduceCtorEq] at *; try simp (disch := omega) only [AR.std, natCast_eq, sI, reduceCtorEq] at *); omega
    · rw [hy1, hy2]
      exact ⟨by simp only; omega, o4, o2⟩
  · rename_i g
    have e := hdone (hge () g)
    simp only [e]
    clear e
    iterate 2 (all_goals try cbv; all_goals repeat' (first | with_reducible exact True.intro | with_reducible refine And.intro ?_ ?_ | intro _))
    all_goals try exact oI
    first | (refine callS hA rfl (gr P C) ?_; rintro _ rfl) | refine ⟨_, gr P C, ?_⟩
    iterate 2 (all_goals try cbv; all_goals repeat' (first | with_reducible exact True.intro | with_reducible refine And.intro ?_ ?_ | intro _))
    all_goals try exact oI
    first | (refine callS hA rfl (hdy P C) ?_; rintro _ rfl) | refine ⟨_, hdy P C, ?_⟩
    iterate 2 (all_goals try cbv; all_goals repeat' (first | with_reducible exact True.intro | with_reducible refine And.intro ?_ ?_ | intro _))
    all_goals try exact oI

set_option maxHeartbeats 2000000 in
set_option maxRecDepth 100000 in
theorem implIvMatWide_N_fs (C : Cx P gl) {vs : List Cell6} {p : List PV} {n : Int} (hp : p = cells6 vs) (ok : ¬ivmOk n vs)
    (hl : vs.length ≤ 2000000) (hy : ∀ v ∈ vs, v.1.2.1.length ≤ 2000000 ∧ v.2.2.1.length ≤ 2000000) :
    FS P gl 30 [.agg [I n, .lst p]] (· = .tup [.agg [B false, .lst [], I 0], B false]) := by
  have am := fun (P' : Program) (C' : Cx P' gl) => implIvMatOk_fs C' (n := n) (b := false) hp ⟨fun h => absurd h (by decide), fun h => absurd h ok⟩ hl hy
  clear ok hp hy
  obtain ⟨rfl, hG⟩ := C
  refine FS_ofT (args := fun A => [.agg [I n, .lst p]]) (R := fun A rr => rr = .tup [.agg [B false, .lst [], I 0], B false]) Tryz.hT Tryz.mix Tryz.func30 rfl rfl (Nat.le_of_ble_eq_true rfl) ?_
  generalize hP : Tryz.prog = P
  intro A hA
  have C : Tryz.Cx P gl := ⟨hP.symm, hG⟩
  have hI : intsL = A.ints := by subst hA; rfl
  iterate 2 (all_goals try cbv; all_goals repeat' (first | with_reducible exact True.intro | with_reducible refine And.intro ?_ ?_ | intro _))
  all_goals try exact oI
  refine callS hA rfl (am P C) ?_; rintro _ rfl
  iterate 2 (all_goals try cbv; all_goals repeat' (first | with_reducible exact True.intro | with_reducible refine And.intro ?_ ?_ | intro _))
  all_goals try exact oI
  iterate 2 (all_goals try cbv; all_goals repeat' (first | with_reducible exact True.intro | with_reducible refine And.intro ?_ ?_ | intro _))
  all_goals try exact oI

theorem wideMg {vs : List Cell6} (hva : allV vs) {k : Nat} (hk : k < vs.length) : Mg 3000 4601 (dvB vs k - dvA vs k) := by
  obtain ⟨f1, f2⟩ := allV_fits hva hk
  rw [sub_eqV]
  exact (Mg_fits f2).add (Mg_fits f1).neg

theorem wideV {gl : List (Nat × Obj)} {vs : List Cell6} (hva : allV vs) {k : Nat} (hk : k < vs.length) :
    (∀ P', Cx P' gl → FS P' gl 125 [cell3 (vs.getD k noV).1] (· = cell3 (canY (-dvA vs k)))) ∧ (∀ P', Cx P' gl → FS P' gl 124 [cell3 (vs.getD k noV).2, cell3 (canY (-dvA vs k))] (· = cell3 (canY (dvB vs k - dvA vs k)))) := by
  obtain ⟨⟨a1, a2, a3⟩, b1, b2, b3⟩ := allV_fits hva hk
  obtain ⟨c1, c2⟩ := neg_canon (dvA vs k)
  have hc : cell3 (canY (-dvA vs k)) = .agg [B (decide (0 < cZ (dvA vs k))), .lst (intsL (dg (cZ (dvA vs k)).natAbs)), I (cE (dvA vs k))] := by
    show PV.agg [B (decide (cZ (-dvA vs k) < 0)), .lst (intsL (dg (cZ (-dvA vs k)).natAbs)), I (cE (-dvA vs k))] = _
    rw [c1, c2, Int.natAbs_neg, show decide (-cZ (dvA vs k) < 0) = decide (0 < cZ (dvA vs k)) from decide_eq_decide.2 (by omega)]
  rw [endV hva hk, hc]
  refine ⟨fun P' C' => l4neg_fs C' (z := cZ (dvA vs k)) rfl rfl rfl (by omega), fun P' C' => ?_⟩
  exact l4add_fs C' (z1 := cZ (dvB vs k)) (z2 := -cZ (dvA vs k)) (e1 := cE (dvB vs k)) (e2 := cE (dvA vs k)) rfl rfl (by rw [Int.natAbs_neg]) (decide_eq_decide.2 (by omega)) (by rw [mk_canon, ← mk_neg, mk_canon]; exact sub_eqV _ _) rfl rfl rfl (by omega) (by omega) (by omega) (by rw [Int.natAbs_neg]; omega)

set_option maxHeartbeats 2000000 in
set_option maxRecDepth 100000 in
theorem specIvMatWide_fs (C : Cx P gl) {vs : List Cell6} {o : List Int} {p r : List PV} {n g : Int} {u w : Bool} {d : Dyadic} (hp : p = cells6 vs) (hr : r = intsL o) (hd : d = normD n.toNat (fun k => dvB vs k - dvA vs k)) (hw : w = true ↔ ivmOk n vs ∧ fits d) (ho1 : w = true → cellsD d u o g) (ho2 : w = false → u = false ∧ o = [] ∧ g = 0)
    (hl : vs.length ≤ 2000000) (hy : ∀ v ∈ vs, v.1.2.1.length ≤ 2000000 ∧ v.2.2.1.length ≤ 2000000) :
    FS P gl 29 [.agg [I n, .lst p]] (· = .tup [.agg [B u, .lst r, I g], B w]) := by
  obtain ⟨b, hb⟩ := bool_of (ivmOk n vs)
  have am := fun (P' : Program) (C' : Cx P' gl) => specIvMatOk_fs C' (n := n) (b := b) hp hb hl hy
  cases b with
  | false =>
    have hwf : w = false := by
      cases hwc : w with
      | false => rfl
      | true => exact absurd (hb.2 (hw.1 hwc).1) (by decide)
    obtain ⟨k1, k2, k3⟩ := ho2 hwf
    rw [k2] at hr
    have hr0 : r = [] := hr
    rw [hwf, k1, hr0, k3]
    clear ho1 ho2 hw hb hp hy hr hd hr0
    obtain ⟨rfl, hG⟩ := C
    refine FS_ofT (args := fun A => [.agg [I n, .lst p]]) (R := fun A rr => rr = .tup [.agg [B false, .lst [], I 0], B false]) Tryz.hT Tryz.mix Tryz.func29 rfl rfl (Nat.le_of_ble_eq_true rfl) ?_
    generalize hP : Tryz.prog = P
    intro A hA
    have C : Tryz.Cx P gl := ⟨hP.symm, hG⟩
    have hI : intsL = A.ints := by subst hA; rfl
    iterate 2 (all_goals try cbv; all_goals repeat' (first | with_reducible exact True.intro | with_reducible refine And.intro ?_ ?_ | intro _))
    all_goals try exact oI
    refine callS hA rfl (am P C) ?_; rintro _ rfl
    iterate 2 (all_goals try cbv; all_goals repeat' (first | with_reducible exact True.intro | with_reducible refine And.intro ?_ ?_ | intro _))
    all_goals try exact oI
    iterate 2 (all_goals try cbv; all_goals repeat' (first | with_reducible exact True.intro | with_reducible refine And.intro ?_ ?_ | intro _))
    all_goals try exact oI
  | true =>
    have ok := hb.1 rfl
    obtain ⟨n1, n4, hvl, hva⟩ := ok
    have hvl2 := ivmLen n1 n4 hvl
    obtain ⟨Y, hYY⟩ := pickY3 (n := vs.length) (Q := fun k w => X (dvB vs k - dvA vs k) 3102 3000 w ∧ ∀ (P : Program) (gl : List (Nat × Obj)), Cx P gl → FS P gl 78 [cell6 (vs.getD k noV)] (· = cell3 w))
      (fun k hk => xWide (allV_XV hva k hk).1 (allV_XV hva k hk).2 (by omega) (by omega))
    have hX : XL (fun k => dvB vs k - dvA vs k) 3102 3000 (listY Y vs.length) := listY_XL (fun k hk => (hYY k hk).1)
    obtain ⟨yx, w1, _⟩ := gridNorm_ex hX (by omega) (by omega) (by omega) n4 (by rw [listY_len]; exact hvl)
    rw [← hd] at w1
    have hlen := X_can w1
    obtain ⟨ud, hud⟩ : ∃ b, b = decide (cZ d < 0) := ⟨_, rfl⟩
    obtain ⟨rd, hrd⟩ : ∃ r, r = intsL (dg (cZ d).natAbs) := ⟨_, rfl⟩
    obtain ⟨gd, hgd⟩ : ∃ g, g = cE d := ⟨_, rfl⟩
    obtain ⟨pw, hpw⟩ : ∃ pw, pw = cells3 (canL (fun k => dvB vs k - dvA vs k) vs.length) := ⟨_, rfl⟩
    have hcl : CL 3000 4601 (fun k => dvB vs k - dvA vs k) (canL (fun k => dvB vs k - dvA vs k) vs.length) := canL_CL (fun k hk => wideMg hva hk)
    have nm := fun (P' : Program) (C' : Cx P' gl) => l8normC_fs C' (n := n) hpw hcl (by omega) (by omega) (by omega) n4 (by rw [canL_len]; exact hvl) (u0 := ud) (r := rd) (f := gd) (by rw [← hd]; exact hud) (by rw [← hd]; exact hrd) (by rw [← hd]; exact hgd)
    have wd := fun (P' : Program) (C' : Cx P' gl) => l10wide_fs C' (n := n) (T := fun k => canY (-dvA vs k)) (Y := fun k => canY (dvB vs k - dvA vs k)) hp hpw (by omega) (by omega) hvl (fun k hk => wideV hva hk) nm
    have hcd : cellsD d ud (dg (cZ d).natAbs) gd := ⟨hud, rfl, hgd⟩
    have hwf : w = true ↔ dyOk ud (dg (cZ d).natAbs) gd := by rw [hw, dyOk_cells hcd]; exact ⟨fun h => h.2, fun h => ⟨hb.1 rfl, h⟩⟩
    have ft := fun (P' : Program) (C' : Cx P' gl) => l4fits_fs C' hrd hwf (by omega) (q := r) (t := u) (f := g) (fun h => by
      obtain ⟨k1, k2, k3⟩ := ho1 h
      exact ⟨by rw [hr, k2, hrd], by rw [k1, hud], by rw [k3, hgd]⟩) (fun h => by
      obtain ⟨k1, k2, k3⟩ := ho2 h
      exact ⟨by rw [hr, k2]; rfl, k1, k3⟩)
    clear ho1 ho2 hw hb hp hy hr hd hva hvl w1 hlen hud hrd hgd hcd hwf hYY hX hpw hcl nm
    obtain ⟨rfl, hG⟩ := C
    refine FS_ofT (args := fun A => [.agg [I n, .lst p]]) (R := fun A rr => rr = .tup [.agg [B u, .lst r, I g], B w]) Tryz.hT Tryz.mix Tryz.func29 rfl rfl (Nat.le_of_ble_eq_true rfl) ?_
    generalize hP : Tryz.prog = P
    intro A hA
    have C : Tryz.Cx P gl := ⟨hP.symm, hG⟩
    have hI : intsL = A.ints := by subst hA; rfl
    iterate 2 (all_goals try cbv; all_goals repeat' (first | with_reducible exact True.intro | with_reducible refine And.intro ?_ ?_ | intro _))
    all_goals try exact oI
    refine callS hA rfl (am P C) ?_; rintro _ rfl
    iterate 2 (all_goals try cbv; all_goals repeat' (first | with_reducible exact True.intro | with_reducible refine And.intro ?_ ?_ | intro _))
    all_goals try exact oI
    iterate 2 (all_goals try cbv; all_goals repeat' (first | with_reducible exact True.intro | with_reducible refine And.intro ?_ ?_ | intro _))
    all_goals try exact oI
    first | (refine callS hA rfl (wd P C) ?_; rintro _ rfl) | refine ⟨_, wd P C, ?_⟩
    iterate 2 (all_goals try cbv; all_goals repeat' (first | with_reducible exact True.intro | with_reducible refine And.intro ?_ ?_ | intro _))
    all_goals try exact oI
    first | (refine callS hA rfl (ft P C) ?_; rintro _ rfl) | refine ⟨_, ft P C, ?_⟩
    iterate 2 (all_goals try cbv; all_goals repeat' (first | with_reducible exact True.intro | with_reducible refine And.intro ?_ ?_ | intro _))
    all_goals try exact oI

end Tryz
end Go.Proofs
