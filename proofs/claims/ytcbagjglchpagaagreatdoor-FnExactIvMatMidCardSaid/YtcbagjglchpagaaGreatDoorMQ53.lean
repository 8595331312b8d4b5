/- Contracts: IvMatMid in the program and in the reference. -/
import Derived.Test.YtcbagjglchpagaaGreatDoorMP13
namespace Go.Proofs
open Go Go.Pe Go.Dg
namespace Tryz
set_option linter.unusedSimpArgs false
set_option linter.unusedVariables false
variable {P : Program} {gl : List (Nat × Obj)}

set_option maxHeartbeats 2000000 in
set_option maxRecDepth 100000 in
theorem implIvMatMid_o_fx (C : Cx P gl) {vs : List Cell6} {p r : List PV} {n : Int} (hp : p = cells6 vs) (ok : ivmOk n vs) (fit : ∀ k, k < vs.length → fits ((fun k => halfD (dvA vs k + dvB vs k)) k)) (hr : r = cells3 (canL (fun k => halfD (dvA vs k + dvB vs k)) vs.length))
    (hl : vs.length ≤ 2000000) (hy : ∀ v ∈ vs, v.1.2.1.length ≤ 2000000 ∧ v.2.2.1.length ≤ 2000000) :
    FX P gl 39 [] [.pv (.agg [I n, .lst p])] (fun own rr => own = [.tree 36 3 3 r] ∧ rr = .tup [.agg [.pv (I n), .own 0], .pv (B true)]) := by
  have am := fun (P' : Program) (C' : Cx P' gl) => implIvMatOk_fs C' (n := n) (b := true) hp ⟨fun _ => ok, fun _ => rfl⟩ hl hy
  obtain ⟨n1, n4, hvl, hva⟩ := ok
  have hvl2 := ivmLen n1 n4 hvl
  obtain ⟨TY, hTY⟩ := pickY3 (n := vs.length) (Q := fun k w => ∃ t : Cell3, X (halfD (dvA vs k + dvB vs k)) 3102 3001 w ∧ (∀ (P : Program) (gl : List (Nat × Obj)), Cx P gl → FS P gl 128 [cell3 (vs.getD k noV).1, cell3 (vs.getD k noV).2] (· = cell3 t)) ∧ (∀ (P : Program) (gl : List (Nat × Obj)), Cx P gl → FS P gl 146 [cell3 t, I (-1)] (· = cell3 w)))
    (fun k hk => by obtain ⟨t, w, h1, h2, h3⟩ := xMid (allV_XV hva k hk).1 (allV_XV hva k hk).2 (by omega) (by omega); exact ⟨w, t, h1, h2, h3⟩)
  obtain ⟨TT, hTT⟩ := pickY3 (n := vs.length) (Q := fun k t => (∀ (P : Program) (gl : List (Nat × Obj)), Cx P gl → FS P gl 128 [cell3 (vs.getD k noV).1, cell3 (vs.getD k noV).2] (· = cell3 t)) ∧ (∀ (P : Program) (gl : List (Nat × Obj)), Cx P gl → FS P gl 146 [cell3 t, I (-1)] (· = cell3 (TY k))))
    (fun k hk => by obtain ⟨t, h1, h2, h3⟩ := hTY k hk; exact ⟨t, h2, h3⟩)
  have hX : XL (fun k => halfD (dvA vs k + dvB vs k)) 3102 3001 (listY TY vs.length) := listY_XL (fun k hk => by obtain ⟨t, h1, _⟩ := hTY k hk; exact h1)
  obtain ⟨px, hpx⟩ : ∃ px, px = cells3 (listY TY vs.length) := ⟨_, rfl⟩
  have gr := fun (P' : Program) (C' : Cx P' gl) => fieldMid_fs C' (n := n) hp hpx (by omega) (fun k hk => ⟨fun P2 C2 => (hTT k hk).1 P2 gl C2, fun P2 C2 => (hTT k hk).2 P2 gl C2⟩)
  have g1 := fun (P' : Program) (C' : Cx P' gl) => ivField_fs C' (n := n) hp hl
  have hll := listY_len TY vs.length
  have mt := fun (P' : Program) (C' : Cx P' gl) => gridMat_fn C' (n := n) (r := r) hpx hX (by omega) (by omega) (fun k hk => fit k (by omega)) (by rw [hr, hll]) (by omega)
  clear hTY hTT hX hpx hva hvl hp hy fit hr hll
  obtain ⟨rfl, hG⟩ := C
  refine FX_ofC (own := fun A => []) (args := fun A => [.pv (.agg [I n, .lst p])]) (R := fun A ow rr => ow = [.tree 36 3 3 r] ∧ rr = .tup [.agg [.pv (I n), .own 0], .pv (B true)]) Tryz.hT Tryz.mix Tryz.func39 rfl rfl (Nat.le_of_ble_eq_true rfl) ?_
  generalize hP : Tryz.prog = P
  intro A hA
  have C : Tryz.Cx P gl := ⟨hP.symm, hG⟩
  have hI : intsL = A.ints := by subst hA; rfl
  iterate 2 (all_goals try cbv; all_goals repeat' (first | with_reducible exact True.intro | with_reducible refine And.intro ?_ ?_ | intro _))
  all_goals try exact oI
  refine callS hA rfl (am P C) ?_; rintro _ rfl
  iterate 2 (all_goals try cbv; all_goals repeat' (first | with_reducible exact True.intro | with_reducible refine And.intro ?_ ?_ | intro _))
  all_goals try exact oI
  iterate 2 (all_goals try cbv; all_goals repeat' (first | with_reducible exact True.intro | with_reducible refine And.intro ?_ ?_ | intro _))
  all_goals try exact oI
  first | (refine callS hA rfl (g1 P C) ?_; rintro _ rfl) | refine ⟨_, g1 P C, ?_⟩
  iterate 2 (all_goals try cbv; all_goals repeat' (first | with_reducible exact True.intro | with_reducible refine And.intro ?_ ?_ | intro _))
  all_goals try exact oI
  first | (refine callS hA rfl (gr P C) ?_; rintro _ rfl) | refine ⟨_, gr P C, ?_⟩
  iterate 2 (all_goals try cbv; all_goals repeat' (first | with_reducible exact True.intro | with_reducible refine And.intro ?_ ?_ | intro _))
  all_goals try exact oI
  refine callN hA rfl (mt P C) ?_; rintro _ _ ⟨rfl, rfl⟩; refine ⟨rfl, ?_⟩
  iterate 2 (all_goals try cbv; all_goals repeat' (first | with_reducible exact True.intro | with_reducible refine And.intro ?_ ?_ | intro _))
  all_goals try exact oI
  subst hA
  exact ⟨[2], _, _, by decide, Nat.zero_le _, rfl, rfl, rfl, rfl, rfl, rfl⟩

theorem implIvMatMid_o_fn (C : Cx P gl) {vs : List Cell6} {p r : List PV} {n : Int} (hp : p = cells6 vs) (ok : ivmOk n vs) (fit : ∀ k, k < vs.length → fits ((fun k => halfD (dvA vs k + dvB vs k)) k)) (hr : r = cells3 (canL (fun k => halfD (dvA vs k + dvB vs k)) vs.length))
    (hl : vs.length ≤ 2000000) (hy : ∀ v ∈ vs, v.1.2.1.length ≤ 2000000 ∧ v.2.2.1.length ≤ 2000000) :
    FN P gl 39 [.agg [I n, .lst p]] (fun own rr => own = [.tree 36 3 3 r] ∧ rr = .tup [.agg [.pv (I n), .own 0], .pv (B true)]) :=
  FN_of (implIvMatMid_o_fx C hp ok fit hr hl hy) (by rintro _ _ ⟨rfl, rfl⟩; exact ⟨by simp [closedB], rfl⟩)

set_option maxHeartbeats 2000000 in
set_option maxRecDepth 100000 in
theorem implIvMatMid_X_fs (C : Cx P gl) {vs : List Cell6} {p : List PV} {n : Int} (hp : p = cells6 vs) (ok : ivmOk n vs) (fit : ¬∀ k, k < vs.length → fits ((fun k => halfD (dvA vs k + dvB vs k)) k))
    (hl : vs.length ≤ 2000000) (hy : ∀ v ∈ vs, v.1.2.1.length ≤ 2000000 ∧ v.2.2.1.length ≤ 2000000) :
    FS P gl 39 [.agg [I n, .lst p]] (· = .tup [.agg [I 0, .lst []], B false]) := by
  have am := fun (P' : Program) (C' : Cx P' gl) => implIvMatOk_fs C' (n := n) (b := true) hp ⟨fun _ => ok, fun _ => rfl⟩ hl hy
  obtain ⟨n1, n4, hvl, hva⟩ := ok
  have hvl2 := ivmLen n1 n4 hvl
  obtain ⟨TY, hTY⟩ := pickY3 (n := vs.length) (Q := fun k w => ∃ t : Cell3, X (halfD (dvA vs k + dvB vs k)) 3102 3001 w ∧ (∀ (P : Program) (gl : List (Nat × Obj)), Cx P gl → FS P gl 128 [cell3 (vs.getD k noV).1, cell3 (vs.getD k noV).2] (· = cell3 t)) ∧ (∀ (P : Program) (gl : List (Nat × Obj)), Cx P gl → FS P gl 146 [cell3 t, I (-1)] (· = cell3 w)))
    (fun k hk => by obtain ⟨t, w, h1, h2, h3⟩ := xMid (allV_XV hva k hk).1 (allV_XV hva k hk).2 (by omega) (by omega); exact ⟨w, t, h1, h2, h3⟩)
  obtain ⟨TT, hTT⟩ := pickY3 (n := vs.length) (Q := fun k t => (∀ (P : Program) (gl : List (Nat × Obj)), Cx P gl → FS P gl 128 [cell3 (vs.getD k noV).1, cell3 (vs.getD k noV).2] (· = cell3 t)) ∧ (∀ (P : Program) (gl : List (Nat × Obj)), Cx P gl → FS P gl 146 [cell3 t, I (-1)] (· = cell3 (TY k))))
    (fun k hk => by obtain ⟨t, h1, h2, h3⟩ := hTY k hk; exact ⟨t, h2, h3⟩)
  have hX : XL (fun k => halfD (dvA vs k + dvB vs k)) 3102 3001 (listY TY vs.length) := listY_XL (fun k hk => by obtain ⟨t, h1, _⟩ := hTY k hk; exact h1)
  obtain ⟨px, hpx⟩ : ∃ px, px = cells3 (listY TY vs.length) := ⟨_, rfl⟩
  have gr := fun (P' : Program) (C' : Cx P' gl) => fieldMid_fs C' (n := n) hp hpx (by omega) (fun k hk => ⟨fun P2 C2 => (hTT k hk).1 P2 gl C2, fun P2 C2 => (hTT k hk).2 P2 gl C2⟩)
  have g1 := fun (P' : Program) (C' : Cx P' gl) => ivField_fs C' (n := n) hp hl
  have hll := listY_len TY vs.length
  have mt := fun (P' : Program) (C' : Cx P' gl) => gridMat_fs C' (n := n) hpx hX (by omega) (by omega) (fun h => fit (fun k hk => h k (by omega))) (by omega)
  clear hTY hTT hX hpx hva hvl hp hy fit hll
  obtain ⟨rfl, hG⟩ := C
  refine FS_ofC (args := fun A => [.agg [I n, .lst p]]) (R := fun A rr => rr = .tup [.agg [I 0, .lst []], B false]) Tryz.hT Tryz.mix Tryz.func39 rfl rfl (Nat.le_of_ble_eq_true rfl) ?_
  generalize hP : Tryz.prog = P
  intro A hA
  have C : Tryz.Cx P gl := ⟨hP.symm, hG⟩
  have hI : intsL = A.ints := by subst hA; rfl
  iterate 2 (all_goals try cbv; all_goals repeat' (first | with_reducible exact True.intro | with_reducible refine And.intro ?_ ?_ | intro _))
  all_goals try exact oI
  refine callS hA rfl (am P C) ?_; rintro _ rfl
  iterate 2 (all_goals try cbv; all_goals repeat' (first | with_reducible exact True.intro | with_reducible refine And.intro ?_ ?_ | intro _))
  all_goals try exact oI
  iterate 2 (all_goals try cbv; all_goals repeat' (first | with_reducible exact True.intro | with_reducible refine And.intro ?_ ?_ | intro _))
  all_goals try exact oI
  first | (refine callS hA rfl (g1 P C) ?_; rintro _ rfl) | refine ⟨_, g1 P C, ?_⟩
  iterate 2 (all_goals try cbv; all_goals repeat' (first | with_reducible exact True.intro | with_reducible refine And.intro ?_ ?_ | intro _))
  all_goals try exact oI
  first | (refine callS hA rfl (gr P C) ?_; rintro _ rfl) | refine ⟨_, gr P C, ?_⟩
  iterate 2 (all_goals try cbv; all_goals repeat' (first | with_reducible exact True.intro | with_reducible refine And.intro ?_ ?_ | intro _))
  all_goals try exact oI
  first | (refine callS hA rfl (mt P C) ?_; rintro _ rfl) | refine ⟨_, mt P C, ?_⟩
  iterate 2 (all_goals try cbv; all_goals repeat' (first | with_reducible exact True.intro | with_reducible refine And.intro ?_ ?_ | intro _))
  all_goals try exact oI

set_option maxHeartbeats 2000000 in
set_option maxRecDepth 100000 in
theorem implIvMatMid_N_fs (C : Cx P gl) {vs : List Cell6} {p : List PV} {n : Int} (hp : p = cells6 vs) (ok : ¬ivmOk n vs)
    (hl : vs.length ≤ 2000000) (hy : ∀ v ∈ vs, v.1.2.1.length ≤ 2000000 ∧ v.2.2.1.length ≤ 2000000) :
    FS P gl 39 [.agg [I n, .lst p]] (· = .tup [.agg [I 0, .lst []], B false]) := by
  have am := fun (P' : Program) (C' : Cx P' gl) => implIvMatOk_fs C' (n := n) (b := false) hp ⟨fun h => absurd h (by decide), fun h => absurd h ok⟩ hl hy
  clear ok hp hy
  obtain ⟨rfl, hG⟩ := C
  refine FS_ofT (args := fun A => [.agg [I n, .lst p]]) (R := fun A rr => rr = .tup [.agg [I 0, .lst []], B false]) Tryz.hT Tryz.mix Tryz.func39 rfl rfl (Nat.le_of_ble_eq_true rfl) ?_
  generalize hP : Tryz.prog = P
  intro A hA
  have C : Tryz.Cx P gl := ⟨hP.symm, hG⟩
  have hI : intsL = A.ints := by subst hA; rfl
  iterate 2 (all_goals try cbv; all_goals repeat' (first | with_reducible exact True.intro | with_reducible refine And.intro ?_ ?_ | intro _))
  all_goals try exact oI
  refine callS hA rfl (am P C) ?_; rintro _ rfl
  iterate 2 (all_goals try cbv; all_goals repeat' (first | with_reducible exact True.intro | with_reducible refine And.intro ?_ ?_ | intro _))
  all_goals try exact oI
  iterate 2 (all_goals try cbv; all_goals repeat' (first | with_reducible exact True.intro | with_reducible refine And.intro ?_ ?_ | intro _))
  all_goals try exact oI

theorem midV {gl : List (Nat × Obj)} {vs : List Cell6} (hva : allV vs) {k : Nat} (hk : k < vs.length) :
    (∀ P', Cx P' gl → FS P' gl 124 [cell3 (vs.getD k noV).1, cell3 (vs.getD k noV).2] (· = cell3 (canY (dvA vs k + dvB vs k)))) ∧ (canY (halfD (dvA vs k + dvB vs k))).1 = (canY (dvA vs k + dvB vs k)).1 ∧ (canY (halfD (dvA vs k + dvB vs k))).2.1 = (canY (dvA vs k + dvB vs k)).2.1 ∧
      ((canY (dvA vs k + dvB vs k)).2.1.length = 0 → (canY (halfD (dvA vs k + dvB vs k))).2.2 = (canY (dvA vs k + dvB vs k)).2.2) ∧ ((canY (dvA vs k + dvB vs k)).2.1.length ≠ 0 → (canY (halfD (dvA vs k + dvB vs k))).2.2 = (canY (dvA vs k + dvB vs k)).2.2 - 1) ∧ (canY (dvA vs k + dvB vs k)).2.2.natAbs ≤ 100000 ∧
      (dg (cZ (halfD (dvA vs k + dvB vs k))).natAbs).length ≤ 100000 := by
  obtain ⟨⟨a1, a2, a3⟩, b1, b2, b3⟩ := allV_fits hva hk
  obtain ⟨y, hX⟩ := X_plus (allV_XV hva k hk).1 (allV_XV hva k hk).2
  obtain ⟨s, hs⟩ : ∃ s, s = dvA vs k + dvB vs k := ⟨_, rfl⟩
  rw [← hs] at hX ⊢
  have hlen := X_can hX
  have hcE := X_cE hX
  have hadd : ∀ P', Cx P' gl → FS P' gl 124 [cell3 (vs.getD k noV).1, cell3 (vs.getD k noV).2] (· = cell3 (canY s)) := by
    intro P' C'
    rw [endV hva hk]
    exact l4add_fs C' (z1 := cZ (dvA vs k)) (z2 := cZ (dvB vs k)) (e1 := cE (dvA vs k)) (e2 := cE (dvB vs k)) rfl rfl rfl rfl (by rw [mk_canon, mk_canon, hs]) rfl rfl rfl (by omega) (by omega) (by omega) (by omega)
  have hE : (canY s).2.2.natAbs ≤ 100000 := by show (cE s).natAbs ≤ _; omega
  by_cases h0 : s = 0
  · have hh : halfD s = s := by rw [h0]; exact halfD_zero
    have hl0 : (canY s).2.1.length = 0 := by show (dg (cZ s).natAbs).length = 0; rw [h0, cZ_zero]; exact dg_len0.2 rfl
    rw [hh]
    exact ⟨hadd, rfl, rfl, fun _ => rfl, fun h => absurd hl0 h, hE, by omega⟩
  · obtain ⟨c1, c2⟩ := halfD_can h0
    have hl0 : (canY s).2.1.length ≠ 0 := by
      show (dg (cZ s).natAbs).length ≠ 0
      have : cZ s ≠ 0 := fun h => h0 (cZ_eq_zero.1 h)
      intro h
      have := dg_len0.1 h
      omega
    refine ⟨hadd, ?_, ?_, fun h => absurd h hl0, fun _ => ?_, hE, by rw [c1]; omega⟩
    · show decide (cZ (halfD s) < 0) = decide (cZ s < 0); rw [c1]
    · show dg (cZ (halfD s)).natAbs = dg (cZ s).natAbs; rw [c1]
    · exact c2

set_option maxHeartbeats 2000000 in
set_option maxRecDepth 100000 in
theorem specIvMatMid_fs (C : Cx P gl) {vs : List Cell6} {p r : List PV} {n : Int} {n' : Int} {w : Bool} (hp : p = cells6 vs) (hw : w = true ↔ ivmOk n vs ∧ ∀ k, k < vs.length → fits ((fun k => halfD (dvA vs k + dvB vs k)) k))
    (h1 : w = true → r = cells3 (canL (fun k => halfD (dvA vs k + dvB vs k)) vs.length) ∧ n' = n) (h2 : w = false → r = [] ∧ n' = 0)
    (hl : vs.length ≤ 2000000) (hy : ∀ v ∈ vs, v.1.2.1.length ≤ 2000000 ∧ v.2.2.1.length ≤ 2000000) :
    FS P gl 38 [.agg [I n, .lst p]] (· = .tup [.agg [I n', .lst r], B w]) := by
  obtain ⟨b, hb⟩ := bool_of (ivmOk n vs)
  have am := fun (P' : Program) (C' : Cx P' gl) => specIvMatOk_fs C' (n := n) (b := b) hp hb hl hy
  cases b with
  | false =>
    have hwf : w = false := by
      cases hwc : w with
      | false => rfl
      | true => exact absurd (hb.2 (hw.1 hwc).1) (by decide)
    obtain ⟨e1, e2⟩ := h2 hwf
    clear h1 h2 hw hb hp hy
    rw [e1, e2, hwf]
    obtain ⟨rfl, hG⟩ := C
    refine FS_ofT (args := fun A => [.agg [I n, .lst p]]) (R := fun A rr => rr = .tup [.agg [I 0, .lst []], B false]) Tryz.hT Tryz.mix Tryz.func38 rfl rfl (Nat.le_of_ble_eq_true rfl) ?_
    generalize hP : Tryz.prog = P
    intro A hA
    have C : Tryz.Cx P gl := ⟨hP.symm, hG⟩
    have hI : intsL = A.ints := by subst hA; rfl
    iterate 2 (all_goals try cbv; all_goals repeat' (first | with_reducible exact True.intro | with_reducible refine And.intro ?_ ?_ | intro _))
    all_goals try exact oI
    refine callS hA rfl (am P C) ?_; rintro _ rfl
    iterate 2 (all_goals try cbv; all_goals repeat' (first | with_reducible exact True.intro | with_reducible refine And.intro ?_ ?_ | intro _))
    all_goals try exact oI
    iterate 2 (all_goals try cbv; all_goals repeat' (first | with_reducible exact True.intro | with_reducible refine And.intro ?_ ?_ | intro _))
    all_goals try exact oI
  | true =>
    have ok := hb.1 rfl
    obtain ⟨n1, n4, hvl, hva⟩ := ok
    have hvl2 := ivmLen n1 n4 hvl
    obtain ⟨pw, hpw⟩ : ∃ pw, pw = cells3 (canL (fun k => halfD (dvA vs k + dvB vs k)) vs.length) := ⟨_, rfl⟩
    have ad := fun (P' : Program) (C' : Cx P' gl) => l10mid_fs C' (n := n) (r := pw) (T := fun k => canY (dvA vs k + dvB vs k)) (Y := fun k => canY (halfD (dvA vs k + dvB vs k))) hp hpw (by omega) (by omega) hvl (fun k hk => by
      obtain ⟨m1, m2, m3, m4, m5, m6, m7⟩ := midV (gl := gl) hva hk
      exact ⟨m1, m2, m3, m4, m5, m6⟩)
    have hwm : w = true ↔ matOk n (canL (fun k => halfD (dvA vs k + dvB vs k)) vs.length) := by
      constructor
      · intro h
        exact ⟨n1, n4, by rw [canL_len]; exact hvl, canL_ok.2 (hw.1 h).2⟩
      · intro h
        exact hw.2 ⟨hb.1 rfl, canL_ok.1 h.2.2.2⟩
    have ft := fun (P' : Program) (C' : Cx P' gl) => l8fits_fs C' (n := n) (n' := n') (q := r) (b := w) (L := 100000) hpw (canL_W fun k hk => by
      obtain ⟨m1, m2, m3, m4, m5, m6, m7⟩ := midV (gl := gl) hva hk
      exact m7) (by omega) (by rw [canL_len]; omega) hwm (fun h => by rw [hpw]; exact h1 h) h2
    clear h1 h2 hw hb hp hy hwm hpw hva hvl
    obtain ⟨rfl, hG⟩ := C
    refine FS_ofT (args := fun A => [.agg [I n, .lst p]]) (R := fun A rr => rr = .tup [.agg [I n', .lst r], B w]) Tryz.hT Tryz.mix Tryz.func38 rfl rfl (Nat.le_of_ble_eq_true rfl) ?_
    generalize hP : Tryz.prog = P
    intro A hA
    have C : Tryz.Cx P gl := ⟨hP.symm, hG⟩
    have hI : intsL = A.ints := by subst hA; rfl
    iterate 2 (all_goals try cbv; all_goals repeat' (first | with_reducible exact True.intro | with_reducible refine And.intro ?_ ?_ | intro _))
    all_goals try exact oI
    refine callS hA rfl (am P C) ?_; rintro _ rfl
    iterate 2 (all_goals try cbv; all_goals repeat' (first | with_reducible exact True.intro | with_reducible refine And.intro ?_ ?_ | intro _))
    all_goals try exact oI
    iterate 2 (all_goals try cbv; all_goals repeat' (first | with_reducible exact True.intro | with_reducible refine And.intro ?_ ?_ | intro _))
    all_goals try exact oI
    first | (refine callS hA rfl (ad P C) ?_; rintro _ rfl) | refine ⟨_, ad P C, ?_⟩
    iterate 2 (all_goals try cbv; all_goals repeat' (first | with_reducible exact True.intro | with_reducible refine And.intro ?_ ?_ | intro _))
    all_goals try exact oI
    first | (refine callS hA rfl (ft P C) ?_; rintro _ rfl) | refine ⟨_, ft P C, ?_⟩
    iterate 2 (all_goals try cbv; all_goals repeat' (first | with_reducible exact True.intro | with_reducible refine And.intro ?_ ?_ | intro _))
    all_goals try exact oI

end Tryz
end Go.Proofs
