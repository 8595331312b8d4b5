/- Contracts: lists of numbers, each in a canonical form in memory of its own. -/
import Derived.Test.YtcbagjglchpagaaGreatDoorMM5
import Derived.Test.YtcbagjglchpagaaGreatDoorMEvD
namespace Go.Proofs
open Go Go.Pe Go.Dg
namespace Tryz
set_option linter.unusedSimpArgs false
set_option linter.unusedVariables false
variable {P : Program} {gl : List (Nat × Obj)}

set_option maxHeartbeats 1000000 in
set_option maxRecDepth 100000 in
theorem dysOf_fx (C : Cx P gl) {xs : List Cell3} {dd : Nat → Dyadic} {L E : Nat} {p r : List PV} {w : Bool} (hp : p = cells3 xs) (hx : ∀ k, k < xs.length → X (dd k) L E (xs.getD k noY)) (hL : L ≤ 1000000) (hE : E ≤ 100000)
    (hw : w = true ↔ ∀ k, k < xs.length → fits (dd k)) (hr : r = cells3 (canL dd xs.length)) (hn : xs.length ≤ 1000000) :
    FX P gl 147 [] [.pv (.lst p)] (fun own rr => (w = true ∧ own = [.tree 36 3 3 r] ∧ rr = .tup [.own 0, .pv (B true)]) ∨ (w = false ∧ own = [] ∧ rr = .tup [.pv (.val (.slice none 0 0)), .pv (B false)])) := by
  obtain ⟨rfl, hG⟩ := C
  refine FX_ofT (own := fun A => []) (args := fun A => [.pv (.lst p)]) (R := fun A ow rr => (w = true ∧ ow = [.tree 36 3 3 r] ∧ rr = .tup [.own 0, .pv (B true)]) ∨ (w = false ∧ ow = [] ∧ rr = .tup [.pv (.val (.slice none 0 0)), .pv (B false)])) Tryz.hT Tryz.mix Tryz.func147 rfl rfl (Nat.le_of_ble_eq_true rfl) ?_
  generalize hP : Tryz.prog = P
  intro A hA
  have C : Tryz.Cx P gl := ⟨hP.symm, hG⟩
  have hI : intsL = A.ints := by subst hA; rfl
  iterate 2 (all_goals try cbv; all_goals repeat' (first | with_reducible exact True.intro | with_reducible refine And.intro ?_ ?_ | intro _))
  all_goals try exact oG
  refine loopT hA [.slot 4 36 3, .tree 0 3] (ι := Int × List PV) (fun x => [(4, .own 0), (11, .pv (I x.1))]) (fun x => [(0, .tree 36 3 3 x.2)]) (fun x => (xs.length - x.1).toNat) (fun x => 0 ≤ x.1 ∧ x.1 ≤ xs.length ∧ x.2 = cells3 (canL dd x.1.toNat) ∧ ∀ k, k < x.1.toNat → fits (dd k)) (0, []) (by rfl) ?_ ?_ ?_ ?_
  all_goals try exact tG
  · exact ⟨trivial, ⟨Nat.zero_le _, fun x hx => by cases hx⟩, trivial⟩
  · exact ⟨Int.le_refl _, by omega, rfl, fun k hk => by simp at hk⟩
  rintro ⟨i, q⟩ ⟨hi0, hi1, hq, hf⟩
  simp only at hi0 hi1 hq hf
  have hql : q.length ≤ 1000000 := by rw [hq, cells3_len, canL_len]; omega
  have hxi := hx i.toNat
  have hnx : fits (dd i.toNat) → ∀ k, k < i.toNat + 1 → fits (dd k) := by
    intro h k hk
    by_cases hki : k = i.toNat
    · rw [hki]; exact h
    · exact hf k (by omega)
  have hfin : i.toNat = xs.length → w = true := fun h => hw.2 (by rw [← h]; exact hf)
  have hfail : i.toNat < xs.length → ¬fits (dd i.toNat) → w = false := by
    intro h1 h2
    cases hwc : w with
    | false => rfl
    | true => exact absurd (hw.1 hwc _ h1) h2
  have hq2 : q ++ [cell3 (canY (dd i.toNat))] = cells3 (canL dd (i.toNat + 1)) := by rw [hq, canL_succ, ← c3app]; rfl
  clear hx hf hw
  iterate 2 (all_goals try cbv; all_goals repeat' (first | with_reducible exact True.intro | with_reducible refine And.intro ?_ ?_ | intro _))
  all_goals try exact oG
  · rename_i g
    have gi : i < xs.length := by clear hq hr hq2 hfail hfin hnx hxi; (subst hA; subst_vars; simp only [AR.std, natCast_eq, sG, reduceCtorEq] at *; try simp (disch := omega) only [AR.std, natCast_eq, sG, reduceCtorEq] at *); omega
    have hlt : i.toNat < xs.length := by omega
    have hge1 : i + 1 ≤ xs.length := by omega
    obtain ⟨z, h1, h2, h3, h4, h5⟩ := hxi hlt
    obtain ⟨d, hd⟩ : ∃ d, d = dd i.toNat := ⟨_, rfl⟩
    rw [← hd] at h3 hnx hfail hq2
    obtain ⟨e, he⟩ : ∃ e, e = (xs.getD i.toNat noY).2.2 := ⟨_, rfl⟩
    rw [← he] at h3 h5
    have hgl : A.gl (A.el p (A.nat i)) 1 = intsL (dg z.natAbs) := by rw [← h2]; clear hq hr hq2 hfail hfin hnx hxi h1 h2 h3 h4 h5 hd he; (subst hA; subst_vars; simp only [AR.std, natCast_eq, sG, reduceCtorEq] at *; try simp (disch := omega) only [AR.std, natCast_eq, sG, reduceCtorEq] at *)
    have hgb : A.gb (A.el p (A.nat i)) 0 = decide (z < 0) := by rw [← h1]; clear hq hr hq2 hfail hfin hnx hxi h1 h2 h3 h4 h5 hd he hgl; (subst hA; subst_vars; simp only [AR.std, natCast_eq, sG, reduceCtorEq] at *; try simp (disch := omega) only [AR.std, natCast_eq, sG, reduceCtorEq] at *)
    have hge : A.gi (A.el p (A.nat i)) 2 = e := by rw [he]; clear hq hr hq2 hfail hfin hnx hxi h1 h2 h3 h4 h5 hd he hgl hgb; (subst hA; subst_vars; simp only [AR.std, natCast_eq, sG, reduceCtorEq] at *; try simp (disch := omega) only [AR.std, natCast_eq, sG, reduceCtorEq] at *)
    by_cases hz : z = 0
    · have hd0 : d = 0 := by rw [h3, hz, mk_zero]
      have hgl0 : A.gl (A.el p (A.nat i)) 1 = [] := by rw [hgl, hz, show Int.natAbs 0 = 0 from rfl, dg_zero]; rfl
      have hfits : fits d := by rw [hd0]; exact ⟨by rw [cZ_zero, show Int.natAbs 0 = 0 from rfl, dg_zero]; exact Nat.zero_le _, by decide, by decide⟩
      have hnx2 := hnx hfits
      have hq3 : q ++ [.agg [B false, .lst [], I 0]] = cells3 (canL dd (i.toNat + 1)) := by rw [← hq2, hd0, canY_zero]; rfl
      obtain ⟨r', hr'⟩ : ∃ r', r' = q ++ [.agg [B false, .lst [], I 0]] := ⟨_, rfl⟩
      have hra : A.app q [.agg [B false, .lst [], I 0]] = r' := by rw [hr']; subst hA; rfl
      rw [← hr'] at hq3
      simp only [hgl0]
      clear hq hr hq2 hfail hfin hnx hxi h1 h2 h3 h4 h5 hd he hgl hgb hge hgl0 hd0 hfits hr'
      refine callS hA rfl (dy0_fs C) ?_; rintro _ rfl
      iterate 2 (all_goals try cbv; all_goals repeat' (first | with_reducible exact True.intro | with_reducible refine And.intro ?_ ?_ | intro _))
      all_goals try exact oG
      all_goals try exact okA_of hA (by intro x hx; rw [List.mem_singleton.1 hx]; exact ⟨rfl, rfl⟩)
      all_goals try exact lfA_of hA (by intro x hx; rw [List.mem_singleton.1 hx]; rfl)
      all_goals try exact cap_of hA (by simp only [List.length_singleton]; omega)
      simp only [hra]
      clear hra
      obtain ⟨y1, hy1⟩ : ∃ y, y = i + 1 := ⟨_, rfl⟩
      obtain ⟨y2, hy2⟩ : ∃ y, y = r' := ⟨_, rfl⟩
      refine ⟨⟨(y1, y2), ?_⟩, ?_, ?_⟩
      rotate_left
      · cbv
        exact nG
      · (subst hA; subst_vars; simp only [AR.std, natCast_eq, sG, reduceCtorEq] at *; try simp (disch := omega) only [AR.std, natCast_eq, sG, reduceCtorEq] at *); omega
      · rw [hy1, hy2]
        refine ⟨by simp only; omega, hge1, ?_, ?_⟩ <;> simp only <;> rw [show (i + 1).toNat = i.toNat + 1 by omega]
        · exact hq3
        · exact hnx2
    · by_cases hfits : fits d
      · obtain ⟨rr, hrr⟩ : ∃ rr, rr = intsL (dg (cZ d).natAbs) := ⟨_, rfl⟩
        obtain ⟨u, hu⟩ : ∃ u, u = decide (cZ d < 0) := ⟨_, rfl⟩
        obtain ⟨f, hf⟩ : ∃ f, f = cE d := ⟨_, rfl⟩
        have hnx2 := hnx hfits
        have hq3 : q ++ [.agg [B u, .lst rr, I f]] = cells3 (canL dd (i.toNat + 1)) := by rw [← hq2, hrr, hu, hf]; rfl
        obtain ⟨r', hr'⟩ : ∃ r', r' = q ++ [.agg [B u, .lst rr, I f]] := ⟨_, rfl⟩
        have hra : A.app q [.agg [B u, .lst rr, I f]] = r' := by rw [hr']; subst hA; rfl
        rw [← hr'] at hq3
        have hva : A.vals rr := vals_of hA (by rw [hrr]; exact vals_ints)
        refine callN hA rfl (dy_fn C hgl hgb (by simp only [hge]; exact h3) hrr hu hf (by simp only [hge]; omega) (by omega) hz hfits) ?_; rintro _ _ ⟨rfl, rfl⟩; refine ⟨rfl, ?_⟩
        clear hq hr hq2 hfail hfin hnx hxi h1 h2 h3 h4 h5 hd he hgl hgb hge hrr hu hf hfits hr'
        iterate 2 (all_goals try cbv; all_goals repeat' (first | with_reducible exact True.intro | with_reducible refine And.intro ?_ ?_ | intro _))
        all_goals try exact oG
        all_goals try exact hva
        all_goals try exact cap_of hA (by simp only [List.length_singleton]; omega)
        simp only [hra]
        clear hra hva
        obtain ⟨y1, hy1⟩ : ∃ y, y = i + 1 := ⟨_, rfl⟩
        obtain ⟨y2, hy2⟩ : ∃ y, y = r' := ⟨_, rfl⟩
        refine ⟨⟨(y1, y2), ?_⟩, ?_, ?_⟩
        rotate_left
        · cbv
          exact nG
        · (subst hA; subst_vars; simp only [AR.std, natCast_eq, sG, reduceCtorEq] at *; try simp (disch := omega) only [AR.std, natCast_eq, sG, reduceCtorEq] at *); omega
        · rw [hy1, hy2]
          refine ⟨by simp only; omega, hge1, ?_, ?_⟩ <;> simp only <;> rw [show (i + 1).toNat = i.toNat + 1 by omega]
          · exact hq3
          · exact hnx2
      · have hwf := hfail hlt hfits
        refine callS hA rfl (dyn_fs C hgl hgb (by simp only [hge]; omega) (by omega) hz (by simp only [hge]; rw [← h3]; exact hfits)) ?_; rintro _ rfl
        clear hq hr hq2 hfail hfin hnx hxi h1 h2 h3 h4 h5 hd he hgl hgb hge hfits
        iterate 2 (all_goals try cbv; all_goals repeat' (first | with_reducible exact True.intro | with_reducible refine And.intro ?_ ?_ | intro _))
        all_goals try exact oG
        all_goals subst hA
        all_goals exact ⟨[], [], _, by decide, Nat.zero_le _, rfl, rfl, rfl, rfl, .inr ⟨hwf, rfl, rfl⟩⟩
  · rename_i g
    have gi : i.toNat = xs.length := by clear hq hr hq2 hfail hfin hnx hxi; (subst hA; subst_vars; simp only [AR.std, natCast_eq, sG, reduceCtorEq] at *; try simp (disch := omega) only [AR.std, natCast_eq, sG, reduceCtorEq] at *); omega
    have hwt := hfin gi
    have e : q = r := by rw [hq, hr, gi]
    simp only [e]
    subst hA
    exact ⟨[0], _, _, by decide, Nat.zero_le _, rfl, rfl, rfl, rfl, .inl ⟨hwt, rfl, rfl⟩⟩

theorem dysOf_fn (C : Cx P gl) {xs : List Cell3} {dd : Nat → Dyadic} {L E : Nat} {p r : List PV} (hp : p = cells3 xs) (hx : ∀ k, k < xs.length → X (dd k) L E (xs.getD k noY)) (hL : L ≤ 1000000) (hE : E ≤ 100000)
    (hw : ∀ k, k < xs.length → fits (dd k)) (hr : r = cells3 (canL dd xs.length)) (hn : xs.length ≤ 1000000) :
    FN P gl 147 [.lst p] (fun own rr => own = [.tree 36 3 3 r] ∧ rr = .tup [.own 0, .pv (B true)]) :=
  FN_of ((dysOf_fx C hp hx hL hE (w := true) ⟨fun _ => hw, fun _ => rfl⟩ hr hn).mono (by
    rintro o r (⟨_, h1, h2⟩ | ⟨h, _⟩)
    · exact ⟨h1, h2⟩
    · cases h)) (by rintro _ _ ⟨rfl, rfl⟩; exact ⟨by simp [closedB], rfl⟩)

theorem dysOf_fs (C : Cx P gl) {xs : List Cell3} {dd : Nat → Dyadic} {L E : Nat} {p : List PV} (hp : p = cells3 xs) (hx : ∀ k, k < xs.length → X (dd k) L E (xs.getD k noY)) (hL : L ≤ 1000000) (hE : E ≤ 100000)
    (hw : ¬∀ k, k < xs.length → fits (dd k)) (hn : xs.length ≤ 1000000) :
    FS P gl 147 [.lst p] (· = .tup [.lst [], B false]) :=
  FS_ofFN (R := fun own rr => own = [] ∧ rr = .tup [.pv (.val (.slice none 0 0)), .pv (B false)]) (FN_of ((dysOf_fx C hp hx hL hE (w := false) ⟨fun h => absurd h (by decide), fun h => absurd h hw⟩ rfl hn).mono (by
    rintro o r (⟨h, _⟩ | ⟨_, h1, h2⟩)
    · cases h
    · exact ⟨h1, h2⟩)) (by rintro _ _ ⟨rfl, rfl⟩; exact ⟨by simp, rfl⟩)) (by rintro _ _ ⟨rfl, rfl⟩; rfl)

set_option maxHeartbeats 1000000 in
set_option maxRecDepth 100000 in
theorem gridMat_fx (C : Cx P gl) {xs : List Cell3} {dd : Nat → Dyadic} {L E : Nat} {p r : List PV} {n : Int} (hp : p = cells3 xs) (hx : ∀ k, k < xs.length → X (dd k) L E (xs.getD k noY)) (hL : L ≤ 1000000) (hE : E ≤ 100000)
    (hw : ∀ k, k < xs.length → fits (dd k)) (hr : r = cells3 (canL dd xs.length)) (hn : xs.length ≤ 1000000) :
    FX P gl 93 [] [.pv (.agg [I n, .lst p])] (fun own rr => own = [.tree 36 3 3 r] ∧ rr = .tup [.agg [.pv (I n), .own 0], .pv (B true)]) := by
  have hcall := fun (P' : Program) (C' : Cx P' gl) => dysOf_fn C' hp hx hL hE hw hr hn
  clear hp hx hw hr
  obtain ⟨rfl, hG⟩ := C
  refine FX_ofT (own := fun A => []) (args := fun A => [.pv (.agg [I n, .lst p])]) (R := fun A ow rr => ow = [.tree 36 3 3 r] ∧ rr = .tup [.agg [.pv (I n), .own 0], .pv (B true)]) Tryz.hT Tryz.mix Tryz.func93 rfl rfl (Nat.le_of_ble_eq_true rfl) ?_
  generalize hP : Tryz.prog = P
  intro A hA
  have C : Tryz.Cx P gl := ⟨hP.symm, hG⟩
  have hI : intsL = A.ints := by subst hA; rfl
  iterate 2 (all_goals try cbv; all_goals repeat' (first | with_reducible exact True.intro | with_reducible refine And.intro ?_ ?_ | intro _))
  all_goals try exact oG
  refine callN hA rfl (hcall P C) ?_; rintro _ _ ⟨rfl, rfl⟩; refine ⟨rfl, ?_⟩
  iterate 2 (all_goals try cbv; all_goals repeat' (first | with_reducible exact True.intro | with_reducible refine And.intro ?_ ?_ | intro _))
  all_goals try exact oG
  iterate 2 (all_goals try cbv; all_goals repeat' (first | with_reducible exact True.intro | with_reducible refine And.intro ?_ ?_ | intro _))
  all_goals try exact oG
  subst hA
  exact ⟨[2], _, _, by decide, Nat.zero_le _, rfl, rfl, rfl, rfl, rfl, rfl⟩

theorem gridMat_fn (C : Cx P gl) {xs : List Cell3} {dd : Nat → Dyadic} {L E : Nat} {p r : List PV} {n : Int} (hp : p = cells3 xs) (hx : ∀ k, k < xs.length → X (dd k) L E (xs.getD k noY)) (hL : L ≤ 1000000) (hE : E ≤ 100000)
    (hw : ∀ k, k < xs.length → fits (dd k)) (hr : r = cells3 (canL dd xs.length)) (hn : xs.length ≤ 1000000) :
    FN P gl 93 [.agg [I n, .lst p]] (fun own rr => own = [.tree 36 3 3 r] ∧ rr = .tup [.agg [.pv (I n), .own 0], .pv (B true)]) :=
  FN_of (gridMat_fx C hp hx hL hE hw hr hn) (by rintro _ _ ⟨rfl, rfl⟩; exact ⟨by simp [closedB], rfl⟩)

set_option maxHeartbeats 1000000 in
set_option maxRecDepth 100000 in
theorem gridMat_fs (C : Cx P gl) {xs : List Cell3} {dd : Nat → Dyadic} {L E : Nat} {p : List PV} {n : Int} (hp : p = cells3 xs) (hx : ∀ k, k < xs.length → X (dd k) L E (xs.getD k noY)) (hL : L ≤ 1000000) (hE : E ≤ 100000)
    (hw : ¬∀ k, k < xs.length → fits (dd k)) (hn : xs.length ≤ 1000000) :
    FS P gl 93 [.agg [I n, .lst p]] (· = .tup [.agg [I 0, .lst []], B false]) := by
  have hcall := fun (P' : Program) (C' : Cx P' gl) => dysOf_fs C' hp hx hL hE hw hn
  clear hp hx hw
  obtain ⟨rfl, hG⟩ := C
  refine FS_ofT (args := fun A => [.agg [I n, .lst p]]) (R := fun A rr => rr = .tup [.agg [I 0, .lst []], B false]) Tryz.hT Tryz.mix Tryz.func93 rfl rfl (Nat.le_of_ble_eq_true rfl) ?_
  generalize hP : Tryz.prog = P
  intro A hA
  have C : Tryz.Cx P gl := ⟨hP.symm, hG⟩
  have hI : intsL = A.ints := by subst hA; rfl
  iterate 2 (all_goals try cbv; all_goals repeat' (first | with_reducible exact True.intro | with_reducible refine And.intro ?_ ?_ | intro _))
  all_goals try exact oG
  refine callS hA rfl (hcall P C) ?_; rintro _ rfl
  iterate 2 (all_goals try cbv; all_goals repeat' (first | with_reducible exact True.intro | with_reducible refine And.intro ?_ ?_ | intro _))
  all_goals try exact oG
  iterate 2 (all_goals try cbv; all_goals repeat' (first | with_reducible exact True.intro | with_reducible refine And.intro ?_ ?_ | intro _))
  all_goals try exact oG

end Tryz
end Go.Proofs
