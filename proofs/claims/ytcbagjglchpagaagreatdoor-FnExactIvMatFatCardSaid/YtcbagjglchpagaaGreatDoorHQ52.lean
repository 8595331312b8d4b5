/- Contracts: IvMatFat in the program and in the reference. -/
import Derived.Test.YtcbagjglchpagaaGreatDoorHP11
import Derived.Test.YtcbagjglchpagaaGreatDoorHP12
namespace Go.Proofs
open Go Go.Pe Go.Dg
namespace Tryz
set_option linter.unusedSimpArgs false
set_option linter.unusedVariables false
variable {P : Program} {gl : List (Nat × Obj)}

set_option maxHeartbeats 2000000 in
set_option maxRecDepth 100000 in
theorem implIvMatFat_o_fx (C : Cx P gl) {vs : List Cell6} {p r : List PV} {n : Int} {lb : List Int} {pb : List PV} {sb : Bool} {eb : Int} (hp : p = cells6 vs) (hpb : pb = intsL lb) (ok : ivmOk n vs ∧ dyOk sb lb eb ∧ sb = false) (fit : ∀ k, k < vs.length → fits ((fun k => dvA vs k - dval sb lb eb) k) ∧ fits ((fun k => dvB vs k + dval sb lb eb) k)) (hr : r = cells6 (canV (fun k => dvA vs k - dval sb lb eb) (fun k => dvB vs k + dval sb lb eb) vs.length))
    (hl : vs.length ≤ 2000000) (hy : ∀ v ∈ vs, v.1.2.1.length ≤ 2000000 ∧ v.2.2.1.length ≤ 2000000) (hlb : lb.length ≤ 2000000) :
    FX P gl 37 [] [.pv (.agg [I n, .lst p]), .pv (.agg [B sb, .lst pb, I eb])] (fun own rr => own = [.tree 38 6 3 r] ∧ rr = .tup [.agg [.pv (I n), .own 0], .pv (B true)]) := by
  obtain ⟨ok1, ok2⟩ := ok
  have am := fun (P' : Program) (C' : Cx P' gl) => implIvMatOk_fs C' (n := n) (b := true) hp ⟨fun _ => ok1, fun _ => rfl⟩ hl hy
  obtain ⟨n1, n4, hvl, hva⟩ := ok1
  have hvl2 := ivmLen n1 n4 hvl
  obtain ⟨xs, x1, x2, x3⟩ := ivFat_ex (n := n) hva ok2.1 hvl2
  obtain ⟨px, hpx⟩ : ∃ px, px = cells6 xs := ⟨_, rfl⟩
  have gr := fun (P' : Program) (C' : Cx P' gl) => x3 P' gl p pb px C' hp hpb hpx
  have g1 := fun (P' : Program) (C' : Cx P' gl) => ivField_fs C' (n := n) hp hl
  have lo := fun (P' : Program) (C' : Cx P' gl) => implDyOk_fs C' (e := eb) (s := sb) (b := true) hpb ⟨fun _ => ok2.1, fun _ => rfl⟩ hlb
  have mt := fun (P' : Program) (C' : Cx P' gl) => ivMat_fn C' (n := n) (r := r) hpx x2 (by omega) (by omega) (fun k hk => fit k (by omega)) (by rw [hr, x1]) (by omega)
  clear x1 x2 x3 hva  hvl hpx fit hp hpb hy  hr
  obtain rfl : sb = false := ok2.2
  obtain ⟨rfl, hG⟩ := C
  refine FX_ofC (own := fun A => []) (args := fun A => [.pv (.agg [I n, .lst p]), .pv (.agg [B false, .lst pb, I eb])]) (R := fun A ow rr => ow = [.tree 38 6 3 r] ∧ rr = .tup [.agg [.pv (I n), .own 0], .pv (B true)]) Tryz.hT Tryz.mix Tryz.func37 rfl rfl (Nat.le_of_ble_eq_true rfl) ?_
  generalize hP : Tryz.prog = P
  intro A hA
  have C : Tryz.Cx P gl := ⟨hP.symm, hG⟩
  have hI : intsL = A.ints := by subst hA; rfl
  have q1 : A.bnot true = false := by subst hA; rfl
  have q2 : A.bnot false = true := by subst hA; rfl
  have q3 : ∀ x, A.pick false true x = x := fun x => by subst hA; cases x <;> rfl
  have q4 : ∀ x, A.pick true true x = true := fun x => by subst hA; cases x <;> rfl
  iterate 2 (all_goals try cbv; all_goals repeat' (first | with_reducible exact True.intro | with_reducible refine And.intro ?_ ?_ | intro _))
  all_goals try exact oI
  refine callS hA rfl (am P C) ?_; rintro _ rfl
  iterate 2 (all_goals try cbv; all_goals repeat' (first | with_reducible exact True.intro | with_reducible refine And.intro ?_ ?_ | intro _))
  all_goals try exact oI
  all_goals try simp only [q1, q2, q3, q4]
  refine ⟨_, fun _ => lo P C, ?_⟩
  iterate 2 (all_goals try cbv; all_goals repeat' (first | with_reducible exact True.intro | with_reducible refine And.intro ?_ ?_ | intro _))
  all_goals try exact oI
  all_goals try simp only [q1, q2, q3, q4]
  iterate 2 (all_goals try cbv; all_goals repeat' (first | with_reducible exact True.intro | with_reducible refine And.intro ?_ ?_ | intro _))
  all_goals try exact oI
  all_goals try simp only [q1, q2, q3, q4]
  first | (refine callS hA rfl (g1 P C) ?_; rintro _ rfl) | refine ⟨_, g1 P C, ?_⟩
  iterate 2 (all_goals try cbv; all_goals repeat' (first | with_reducible exact True.intro | with_reducible refine And.intro ?_ ?_ | intro _))
  all_goals try exact oI
  first | (refine callS hA rfl (dyExact_fs C) ?_; rintro _ rfl) | refine ⟨_, dyExact_fs C, ?_⟩
  iterate 2 (all_goals try cbv; all_goals repeat' (first | with_reducible exact True.intro | with_reducible refine And.intro ?_ ?_ | intro _))
  all_goals try exact oI
  first | (refine callS hA rfl (gr P C) ?_; rintro _ rfl) | refine ⟨_, gr P C, ?_⟩
  iterate 2 (all_goals try cbv; all_goals repeat' (first | with_reducible exact True.intro | with_reducible refine And.intro ?_ ?_ | intro _))
  all_goals try exact oI
  refine callN hA rfl (mt P C) ?_; rintro _ _ ⟨rfl, rfl⟩; refine ⟨rfl, ?_⟩
  iterate 2 (all_goals try cbv; all_goals repeat' (first | with_reducible exact True.intro | with_reducible refine And.intro ?_ ?_ | intro _))
  all_goals try exact oI
  subst hA
  exact ⟨[3], _, _, by decide, Nat.zero_le _, rfl, rfl, rfl, rfl, rfl, rfl⟩

theorem implIvMatFat_o_fn (C : Cx P gl) {vs : List Cell6} {p r : List PV} {n : Int} {lb : List Int} {pb : List PV} {sb : Bool} {eb : Int} (hp : p = cells6 vs) (hpb : pb = intsL lb) (ok : ivmOk n vs ∧ dyOk sb lb eb ∧ sb = false) (fit : ∀ k, k < vs.length → fits ((fun k => dvA vs k - dval sb lb eb) k) ∧ fits ((fun k => dvB vs k + dval sb lb eb) k)) (hr : r = cells6 (canV (fun k => dvA vs k - dval sb lb eb) (fun k => dvB vs k + dval sb lb eb) vs.length))
    (hl : vs.length ≤ 2000000) (hy : ∀ v ∈ vs, v.1.2.1.length ≤ 2000000 ∧ v.2.2.1.length ≤ 2000000) (hlb : lb.length ≤ 2000000) :
    FN P gl 37 [.agg [I n, .lst p], .agg [B sb, .lst pb, I eb]] (fun own rr => own = [.tree 38 6 3 r] ∧ rr = .tup [.agg [.pv (I n), .own 0], .pv (B true)]) :=
  FN_of (implIvMatFat_o_fx C hp hpb ok fit hr hl hy hlb) (by rintro _ _ ⟨rfl, rfl⟩; exact ⟨by simp [closedB], rfl⟩)

set_option maxHeartbeats 2000000 in
set_option maxRecDepth 100000 in
theorem implIvMatFat_X_fs (C : Cx P gl) {vs : List Cell6} {p : List PV} {n : Int} {lb : List Int} {pb : List PV} {sb : Bool} {eb : Int} (hp : p = cells6 vs) (hpb : pb = intsL lb) (ok : ivmOk n vs ∧ dyOk sb lb eb ∧ sb = false) (fit : ¬∀ k, k < vs.length → fits ((fun k => dvA vs k - dval sb lb eb) k) ∧ fits ((fun k => dvB vs k + dval sb lb eb) k))
    (hl : vs.length ≤ 2000000) (hy : ∀ v ∈ vs, v.1.2.1.length ≤ 2000000 ∧ v.2.2.1.length ≤ 2000000) (hlb : lb.length ≤ 2000000) :
    FS P gl 37 [.agg [I n, .lst p], .agg [B sb, .lst pb, I eb]] (· = .tup [.agg [I 0, .lst []], B false]) := by
  obtain ⟨ok1, ok2⟩ := ok
  have am := fun (P' : Program) (C' : Cx P' gl) => implIvMatOk_fs C' (n := n) (b := true) hp ⟨fun _ => ok1, fun _ => rfl⟩ hl hy
  obtain ⟨n1, n4, hvl, hva⟩ := ok1
  have hvl2 := ivmLen n1 n4 hvl
  obtain ⟨xs, x1, x2, x3⟩ := ivFat_ex (n := n) hva ok2.1 hvl2
  obtain ⟨px, hpx⟩ : ∃ px, px = cells6 xs := ⟨_, rfl⟩
  have gr := fun (P' : Program) (C' : Cx P' gl) => x3 P' gl p pb px C' hp hpb hpx
  have g1 := fun (P' : Program) (C' : Cx P' gl) => ivField_fs C' (n := n) hp hl
  have lo := fun (P' : Program) (C' : Cx P' gl) => implDyOk_fs C' (e := eb) (s := sb) (b := true) hpb ⟨fun _ => ok2.1, fun _ => rfl⟩ hlb
  have mt := fun (P' : Program) (C' : Cx P' gl) => ivMat_fs C' (n := n) hpx x2 (by omega) (by omega) (fun h => fit (fun k hk => h k (by omega))) (by omega)
  clear x1 x2 x3 hva  hvl hpx fit hp hpb hy 
  obtain rfl : sb = false := ok2.2
  obtain ⟨rfl, hG⟩ := C
  refine FS_ofC (args := fun A => [.agg [I n, .lst p], .agg [B false, .lst pb, I eb]]) (R := fun A rr => rr = .tup [.agg [I 0, .lst []], B false]) Tryz.hT Tryz.mix Tryz.func37 rfl rfl (Nat.le_of_ble_eq_true rfl) ?_
  generalize hP : Tryz.prog = P
  intro A hA
  have C : Tryz.Cx P gl := ⟨hP.symm, hG⟩
  have hI : intsL = A.ints := by subst hA; rfl
  have q1 : A.bnot true = false := by subst hA; rfl
  have q2 : A.bnot false = true := by subst hA; rfl
  have q3 : ∀ x, A.pick false true x = x := fun x => by subst hA; cases x <;> rfl
  have q4 : ∀ x, A.pick true true x = true := fun x => by subst hA; cases x <;> rfl
  iterate 2 (all_goals try cbv; all_goals repeat' (first | with_reducible exact True.intro | with_reducible refine And.intro ?_ ?_ | intro _))
  all_goals try exact oI
  refine callS hA rfl (am P C) ?_; rintro _ rfl
  iterate 2 (all_goals try cbv; all_goals repeat' (first | with_reducible exact True.intro | with_reducible refine And.intro ?_ ?_ | intro _))
  all_goals try exact oI
  all_goals try simp only [q1, q2, q3, q4]
  refine ⟨_, fun _ => lo P C, ?_⟩
  iterate 2 (all_goals try cbv; all_goals repeat' (first | with_reducible exact True.intro | with_reducible refine And.intro ?_ ?_ | intro _))
  all_goals try exact oI
  all_goals try simp only [q1, q2, q3, q4]
  iterate 2 (all_goals try cbv; all_goals repeat' (first | with_reducible exact True.intro | with_reducible refine And.intro ?_ ?_ | intro _))
  all_goals try exact oI
  all_goals try simp only [q1, q2, q3, q4]
  first | (refine callS hA rfl (g1 P C) ?_; rintro _ rfl) | refine ⟨_, g1 P C, ?_⟩
  iterate 2 (all_goals try cbv; all_goals repeat' (first | with_reducible exact True.intro | with_reducible refine And.intro ?_ ?_ | intro _))
  all_goals try exact oI
  first | (refine callS hA rfl (dyExact_fs C) ?_; rintro _ rfl) | refine ⟨_, dyExact_fs C, ?_⟩
  iterate 2 (all_goals try cbv; all_goals repeat' (first | with_reducible exact True.intro | with_reducible refine And.intro ?_ ?_ | intro _))
  all_goals try exact oI
  first | (refine callS hA rfl (gr P C) ?_; rintro _ rfl) | refine ⟨_, gr P C, ?_⟩
  iterate 2 (all_goals try cbv; all_goals repeat' (first | with_reducible exact True.intro | with_reducible refine And.intro ?_ ?_ | intro _))
  all_goals try exact oI
  first | (refine callS hA rfl (mt P C) ?_; rintro _ rfl) | refine ⟨_, mt P C, ?_⟩
  iterate 2 (all_goals try cbv; all_goals repeat' (first | with_reducible exact True.intro | with_reducible refine And.intro ?_ ?_ | intro _))
  all_goals try exact oI

set_option maxHeartbeats 2000000 in
set_option maxRecDepth 100000 in
theorem implIvMatFat_N_fs (C : Cx P gl) {vs : List Cell6} {p : List PV} {n : Int} {lb : List Int} {pb : List PV} {sb : Bool} {eb : Int} (hp : p = cells6 vs) (hpb : pb = intsL lb) (ok : ¬(ivmOk n vs ∧ dyOk sb lb eb ∧ sb = false))
    (hl : vs.length ≤ 2000000) (hy : ∀ v ∈ vs, v.1.2.1.length ≤ 2000000 ∧ v.2.2.1.length ≤ 2000000) (hlb : lb.length ≤ 2000000) :
    FS P gl 37 [.agg [I n, .lst p], .agg [B sb, .lst pb, I eb]] (· = .tup [.agg [I 0, .lst []], B false]) := by
  obtain ⟨b0, hb0⟩ := bool_of (ivmOk n vs)
  have am := fun (P' : Program) (C' : Cx P' gl) => implIvMatOk_fs C' (n := n) hp hb0 hl hy
  obtain ⟨b1, hlb1⟩ := bool_of (dyOk sb lb eb)
  have lo1 := fun (P' : Program) (C' : Cx P' gl) => implDyOk_fs C' (e := eb) (s := sb) hpb hlb1 hlb
  have hno : b0 = true → b1 = true → sb = false → False := by
    intro h1 h2 h3
    exact ok ⟨hb0.1 h1, hlb1.1 h2, h3⟩
  clear ok hp hpb hy hb0 hlb1
  obtain ⟨rfl, hG⟩ := C
  refine FS_ofT (args := fun A => [.agg [I n, .lst p], .agg [B sb, .lst pb, I eb]]) (R := fun A rr => rr = .tup [.agg [I 0, .lst []], B false]) Tryz.hT Tryz.mix Tryz.func37 rfl rfl (Nat.le_of_ble_eq_true rfl) ?_
  generalize hP : Tryz.prog = P
  intro A hA
  have C : Tryz.Cx P gl := ⟨hP.symm, hG⟩
  have hI : intsL = A.ints := by subst hA; rfl
  iterate 2 (all_goals try cbv; all_goals repeat' (first | with_reducible exact True.intro | with_reducible refine And.intro ?_ ?_ | intro _))
  all_goals try exact oI
  refine callS hA rfl (am P C) ?_; rintro _ rfl
  iterate 2 (all_goals try cbv; all_goals repeat' (first | with_reducible exact True.intro | with_reducible refine And.intro ?_ ?_ | intro _))
  all_goals try exact oI
  refine ⟨_, fun _ => lo1 P C, ?_⟩
  iterate 2 (all_goals try cbv; all_goals repeat' (first | with_reducible exact True.intro | with_reducible refine And.intro ?_ ?_ | intro _))
  all_goals try exact oI
  iterate 2 (all_goals try cbv; all_goals repeat' (first | with_reducible exact True.intro | with_reducible refine And.intro ?_ ?_ | intro _))
  all_goals try exact oI
  all_goals (
    exfalso
    rename_i gg
    clear am lo1 hI
    subst hA
    revert gg hno
    cases b0 <;> cases b1 <;> cases sb <;> intro hno gg <;> first | exact hno rfl rfl rfl | exact absurd gg (by decide))

set_option maxHeartbeats 2000000 in
set_option maxRecDepth 100000 in
theorem specIvMatFat_N_fs (C : Cx P gl) {vs : List Cell6} {p : List PV} {n : Int} {lb : List Int} {pb : List PV} {sb : Bool} {eb : Int} (hp : p = cells6 vs) (hpb : pb = intsL lb) (ok : ¬(ivmOk n vs ∧ dyOk sb lb eb ∧ sb = false))
    (hl : vs.length ≤ 2000000) (hy : ∀ v ∈ vs, v.1.2.1.length ≤ 2000000 ∧ v.2.2.1.length ≤ 2000000) (hlb : lb.length ≤ 2000000) :
    FS P gl 35 [.agg [I n, .lst p], .agg [B sb, .lst pb, I eb]] (· = .tup [.agg [I 0, .lst []], B false]) := by
  obtain ⟨b0, hb0⟩ := bool_of (ivmOk n vs)
  have am := fun (P' : Program) (C' : Cx P' gl) => specIvMatOk_fs C' (n := n) hp hb0 hl hy
  obtain ⟨b1, hlb1⟩ := bool_of (dyOk sb lb eb)
  have lo1 := fun (P' : Program) (C' : Cx P' gl) => DyOk_fs C' (e := eb) (s := sb) hpb hlb1 hlb
  have hno : b0 = true → b1 = true → sb = false → False := by
    intro h1 h2 h3
    exact ok ⟨hb0.1 h1, hlb1.1 h2, h3⟩
  clear ok hp hpb hy hb0 hlb1
  obtain ⟨rfl, hG⟩ := C
  refine FS_ofT (args := fun A => [.agg [I n, .lst p], .agg [B sb, .lst pb, I eb]]) (R := fun A rr => rr = .tup [.agg [I 0, .lst []], B false]) Tryz.hT Tryz.mix Tryz.func35 rfl rfl (Nat.le_of_ble_eq_true rfl) ?_
  generalize hP : Tryz.prog = P
  intro A hA
  have C : Tryz.Cx P gl := ⟨hP.symm, hG⟩
  have hI : intsL = A.ints := by subst hA; rfl
  iterate 2 (all_goals try cbv; all_goals repeat' (first | with_reducible exact True.intro | with_reducible refine And.intro ?_ ?_ | intro _))
  all_goals try exact oI
  refine callS hA rfl (am P C) ?_; rintro _ rfl
  iterate 2 (all_goals try cbv; all_goals repeat' (first | with_reducible exact True.intro | with_reducible refine And.intro ?_ ?_ | intro _))
  all_goals try exact oI
  refine ⟨_, fun _ => lo1 P C, ?_⟩
  iterate 2 (all_goals try cbv; all_goals repeat' (first | with_reducible exact True.intro | with_reducible refine And.intro ?_ ?_ | intro _))
  all_goals try exact oI
  iterate 2 (all_goals try cbv; all_goals repeat' (first | with_reducible exact True.intro | with_reducible refine And.intro ?_ ?_ | intro _))
  all_goals try exact oI
  all_goals (
    exfalso
    rename_i gg
    clear am lo1 hI
    subst hA
    revert gg hno
    cases b0 <;> cases b1 <;> cases sb <;> intro hno gg <;> first | exact hno rfl rfl rfl | exact absurd gg (by decide))

set_option maxHeartbeats 2000000 in
set_option maxRecDepth 100000 in
theorem specIvMatFat_fs (C : Cx P gl) {vs : List Cell6} {p r : List PV} {n : Int} {lb : List Int} {pb : List PV} {sb : Bool} {eb : Int} {n' : Int} {w : Bool} (hp : p = cells6 vs) (hpb : pb = intsL lb) (hw : w = true ↔ (ivmOk n vs ∧ dyOk sb lb eb ∧ sb = false) ∧ ∀ k, k < vs.length → fits ((fun k => dvA vs k - dval sb lb eb) k) ∧ fits ((fun k => dvB vs k + dval sb lb eb) k))
    (h1 : w = true → r = cells6 (canV (fun k => dvA vs k - dval sb lb eb) (fun k => dvB vs k + dval sb lb eb) vs.length) ∧ n' = n) (h2 : w = false → r = [] ∧ n' = 0)
    (hl : vs.length ≤ 2000000) (hy : ∀ v ∈ vs, v.1.2.1.length ≤ 2000000 ∧ v.2.2.1.length ≤ 2000000) (hlb : lb.length ≤ 2000000) :
    FS P gl 35 [.agg [I n, .lst p], .agg [B sb, .lst pb, I eb]] (· = .tup [.agg [I n', .lst r], B w]) := by
  obtain ⟨b, hb⟩ := bool_of (ivmOk n vs ∧ dyOk sb lb eb ∧ sb = false)
  cases b with
  | false =>
    have hwf : w = false := by
      cases hwc : w with
      | false => rfl
      | true => exact absurd (hb.2 (hw.1 hwc).1) (by decide)
    obtain ⟨e1, e2⟩ := h2 hwf
    rw [e1, e2, hwf]
    exact specIvMatFat_N_fs C hp hpb (fun h => absurd (hb.2 h) (by decide)) hl hy hlb
  | true =>
    have ok := hb.1 rfl
    obtain ⟨ok1, ok2⟩ := ok
    have am := fun (P' : Program) (C' : Cx P' gl) => specIvMatOk_fs C' (n := n) (b := true) hp ⟨fun _ => ok1, fun _ => rfl⟩ hl hy
    obtain ⟨n1, n4, hvl, hva⟩ := ok1
    have hvl2 := ivmLen n1 n4 hvl
    have lo := fun (P' : Program) (C' : Cx P' gl) => DyOk_fs C' (e := eb) (s := sb) (b := true) hpb ⟨fun _ => ok2.1, fun _ => rfl⟩ hlb
    obtain ⟨pw, hpw⟩ : ∃ pw, pw = cells6 (canV (fun k => dvA vs k - dval sb lb eb) (fun k => dvB vs k + dval sb lb eb) vs.length) := ⟨_, rfl⟩
    have ad := fun (P' : Program) (C' : Cx P' gl) => l10fat_fs C' (n := n) (r := pw) (Y := fun k => (canY (dvA vs k - dval sb lb eb), canY (dvB vs k + dval sb lb eb))) hp hpw (by omega) (by omega) hvl (l4negV hpb ok2.1) (fun k hk => l4fatV hva hpb ok2.1 hk)
    have hwm : w = true ↔ ivmOk n (canV (fun k => dvA vs k - dval sb lb eb) (fun k => dvB vs k + dval sb lb eb) vs.length) := by
      constructor
      · intro h
        exact ⟨n1, n4, by rw [canV_len]; exact hvl, canV_ok.2 (fun k hk => ⟨((hw.1 h).2 k hk).1, ((hw.1 h).2 k hk).2, (fun k hk => sub_add_le (allV_le hva hk) (dval_nonneg ok2.1 ok2.2)) k hk⟩)⟩
      · intro h
        exact hw.2 ⟨hb.1 rfl, fun k hk => ⟨(canV_ok.1 h.2.2.2 k hk).1, (canV_ok.1 h.2.2.2 k hk).2.1⟩⟩
    have bnd : ∀ k, k < vs.length → (dg (cZ ((fun k => dvA vs k - dval sb lb eb) k)).natAbs).length ≤ 100000 ∧ (dg (cZ ((fun k => dvB vs k + dval sb lb eb) k)).natAbs).length ≤ 100000 := fun k hk => vfat_len hva ok2.1 hk
    have ft := fun (P' : Program) (C' : Cx P' gl) => l10fits_fs C' (n := n) (n' := n') (q := r) (b := w) (L := 100000) hpw (canV_W bnd) (by omega) (by rw [canV_len]; omega) hwm (fun h => by rw [hpw]; exact h1 h) h2
    clear h1 h2 hw hb hp hpb hy  hwm hpw hva  hvl bnd
    obtain rfl : sb = false := ok2.2
    obtain ⟨rfl, hG⟩ := C
    refine FS_ofT (args := fun A => [.agg [I n, .lst p], .agg [B false, .lst pb, I eb]]) (R := fun A rr => rr = .tup [.agg [I n', .lst r], B w]) Tryz.hT Tryz.mix Tryz.func35 rfl rfl (Nat.le_of_ble_eq_true rfl) ?_
    generalize hP : Tryz.prog = P
    intro A hA
    have C : Tryz.Cx P gl := ⟨hP.symm, hG⟩
    have hI : intsL = A.ints := by subst hA; rfl
    have q1 : A.bnot true = false := by subst hA; rfl
    have q2 : A.bnot false = true := by subst hA; rfl
    have q3 : ∀ x, A.pick false true x = x := fun x => by subst hA; cases x <;> rfl
    have q4 : ∀ x, A.pick true true x = true := fun x => by subst hA; cases x <;> rfl
    iterate 2 (all_goals try cbv; all_goals repeat' (first | with_reducible exact True.intro | with_reducible refine And.intro ?_ ?_ | intro _))
    all_goals try exact oI
    refine callS hA rfl (am P C) ?_; rintro _ rfl
    iterate 2 (all_goals try cbv; all_goals repeat' (first | with_reducible exact True.intro | with_reducible refine And.intro ?_ ?_ | intro _))
    all_goals try exact oI
    all_goals try simp only [q1, q2, q3, q4]
    refine ⟨_, fun _ => lo P C, ?_⟩
    iterate 2 (all_goals try cbv; all_goals repeat' (first | with_reducible exact True.intro | with_reducible refine And.intro ?_ ?_ | intro _))
    all_goals try exact oI
    all_goals try simp only [q1, q2, q3, q4]
    iterate 2 (all_goals try cbv; all_goals repeat' (first | with_reducible exact True.intro | with_reducible refine And.intro ?_ ?_ | intro _))
    all_goals try exact oI
    all_goals try simp only [q1, q2, q3, q4]
    first | (refine callS hA rfl (ad P C) ?_; rintro _ rfl) | refine ⟨_, ad P C, ?_⟩
    iterate 2 (all_goals try cbv; all_goals repeat' (first | with_reducible exact True.intro | with_reducible refine And.intro ?_ ?_ | intro _))
    all_goals try exact oI
    first | (refine callS hA rfl (ft P C) ?_; rintro _ rfl) | refine ⟨_, ft P C, ?_⟩
    iterate 2 (all_goals try cbv; all_goals repeat' (first | with_reducible exact True.intro | with_reducible refine And.intro ?_ ?_ | intro _))
    all_goals try exact oI

end Tryz
end Go.Proofs
