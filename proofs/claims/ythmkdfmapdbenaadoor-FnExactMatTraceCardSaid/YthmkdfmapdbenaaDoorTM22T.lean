/- Contracts: MatTrace in the program and in the reference. -/
import Derived.Test.YthmkdfmapdbenaaDoorTM24
import Derived.Test.YthmkdfmapdbenaaDoorTM25
import Derived.Test.YthmkdfmapdbenaaDoorTN29
namespace Go.Proofs
open Go Go.Pe Go.Dg
namespace Tryd
set_option linter.unusedSimpArgs false
set_option linter.unusedVariables false
variable {P : Program} {gl : List (Nat × Obj)}

set_option maxHeartbeats 1000000 in
set_option maxRecDepth 100000 in
theorem implMatTrace_o_fx (C : Cx P gl) {ys : List Cell3} {p : List PV} {n : Int} {d : Dyadic} {u : Bool} {r : List PV} {g : Int} (hp : p = cells3 ys) (ok : matOk n ys) (hd : d = traceD n.toNat (dvY ys)) (fit : fits d) (n0 : d ≠ 0) (hr : r = intsL (dg (cZ d).natAbs)) (hu : u = decide (cZ d < 0)) (hg : g = cE d)
    (hl : ys.length ≤ 2000000) (hy : ∀ y ∈ ys, y.2.1.length ≤ 2000000) :
    FX P gl 7 [] [.pv (.agg [I n, .lst p])] (fun own rr => own = [.row 3 1 r] ∧ rr = .tup [.agg [.pv (B u), .own 0, .pv (I g)], .pv (B true)]) := by
  have am := fun (P' : Program) (C' : Cx P' gl) => implMatOk_fs C' (n := n) (b := true) hp ⟨fun _ => ok, fun _ => rfl⟩ hl hy
  obtain ⟨n1, n4, hyl, hya⟩ := ok
  obtain ⟨⟨s1, l1, e1⟩, w1, w2⟩ := gridTrace_ex (allY_XL hya) (by omega) (by omega) (by omega) n4 hyl
  rw [← hd] at w1
  obtain ⟨z, a1, a2, a3, a4, a5⟩ := w1
  simp only at a1 a2 a3 a4 a5 w2
  obtain ⟨pr, hpr⟩ : ∃ pr, pr = intsL l1 := ⟨_, rfl⟩
  have gr := fun (P' : Program) (C' : Cx P' gl) => w2 P' gl p pr C' hp hpr
  have g1 := fun (P' : Program) (C' : Cx P' gl) => matGrid_fs C' (n := n) hp hl
  rw [a2] at hpr
  have hz : z = 0 ↔ d = 0 := by
    constructor
    · intro h; rw [a3, h, mk_zero]
    · intro h; rw [h, ← mk_zero e1, mk_inj] at a3; exact a3.symm
  have hdy := fun (P' : Program) (C' : Cx P' gl) => dy_fn C' hpr a1 a3 hr hu hg (by omega) (by omega) (fun h => n0 (hz.1 h)) fit
  clear fit n0 hr hu hg
  clear w2 hya hyl hpr hp hy hz a1 a2 a3 a4 a5 hd
  obtain ⟨rfl, hG⟩ := C
  refine FX_ofC (own := fun A => []) (args := fun A => [.pv (.agg [I n, .lst p])]) (R := fun A ow rr => ow = [.row 3 1 r] ∧ rr = .tup [.agg [.pv (B u), .own 0, .pv (I g)], .pv (B true)]) Tryd.hT Tryd.mix Tryd.func7 rfl rfl (Nat.le_of_ble_eq_true rfl) ?_
  generalize hP : Tryd.prog = P
  intro A hA
  have C : Tryd.Cx P gl := ⟨hP.symm, hG⟩
  have hI : intsL = A.ints := by subst hA; rfl
  iterate 2 (all_goals try cbv; all_goals repeat' (first | with_reducible exact True.intro | with_reducible refine And.intro ?_ ?_ | intro _))
  all_goals try exact oG
  refine callS hA rfl (am P C) ?_; rintro _ rfl
  iterate 2 (all_goals try cbv; all_goals repeat' (first | with_reducible exact True.intro | with_reducible refine And.intro ?_ ?_ | intro _))
  all_goals try exact oG
  iterate 2 (all_goals try cbv; all_goals repeat' (first | with_reducible exact True.intro | with_reducible refine And.intro ?_ ?_ | intro _))
  all_goals try exact oG
  refine callS hA rfl (g1 P C) ?_; rintro _ rfl
  iterate 2 (all_goals try cbv; all_goals repeat' (first | with_reducible exact True.intro | with_reducible refine And.intro ?_ ?_ | intro _))
  all_goals try exact oG
  refine callS hA rfl (gr P C) ?_; rintro _ rfl
  iterate 2 (all_goals try cbv; all_goals repeat' (first | with_reducible exact True.intro | with_reducible refine And.intro ?_ ?_ | intro _))
  all_goals try exact oG
  refine callN hA rfl (hdy P C) ?_; rintro _ _ ⟨rfl, rfl⟩; refine ⟨rfl, ?_⟩
  iterate 2 (all_goals try cbv; all_goals repeat' (first | with_reducible exact True.intro | with_reducible refine And.intro ?_ ?_ | intro _))
  all_goals try exact oG
  subst hA
  exact ⟨[2], _, _, by decide, Nat.zero_le _, rfl, rfl, rfl, rfl, rfl, rfl⟩

set_option maxHeartbeats 1000000 in
set_option maxRecDepth 100000 in
theorem implMatTrace_n_fs (C : Cx P gl) {ys : List Cell3} {p : List PV} {n : Int} {d : Dyadic} (hp : p = cells3 ys) (ok : matOk n ys) (hd : d = traceD n.toNat (dvY ys)) (n0 : d = 0)
    (hl : ys.length ≤ 2000000) (hy : ∀ y ∈ ys, y.2.1.length ≤ 2000000) :
    FS P gl 7 [.agg [I n, .lst p]] (· = .tup [.agg [B false, .lst [], I 0], B true]) := by
  have am := fun (P' : Program) (C' : Cx P' gl) => implMatOk_fs C' (n := n) (b := true) hp ⟨fun _ => ok, fun _ => rfl⟩ hl hy
  obtain ⟨n1, n4, hyl, hya⟩ := ok
  obtain ⟨⟨s1, l1, e1⟩, w1, w2⟩ := gridTrace_ex (allY_XL hya) (by omega) (by omega) (by omega) n4 hyl
  rw [← hd] at w1
  obtain ⟨z, a1, a2, a3, a4, a5⟩ := w1
  simp only at a1 a2 a3 a4 a5 w2
  obtain ⟨pr, hpr⟩ : ∃ pr, pr = intsL l1 := ⟨_, rfl⟩
  have gr := fun (P' : Program) (C' : Cx P' gl) => w2 P' gl p pr C' hp hpr
  have g1 := fun (P' : Program) (C' : Cx P' gl) => matGrid_fs C' (n := n) hp hl
  rw [a2] at hpr
  have hz : z = 0 ↔ d = 0 := by
    constructor
    · intro h; rw [a3, h, mk_zero]
    · intro h; rw [h, ← mk_zero e1, mk_inj] at a3; exact a3.symm
  have hpr0 : pr = [] := by rw [hpr, hz.2 n0, show Int.natAbs 0 = 0 from rfl, dg_zero]; rfl
  rw [hpr0] at gr
  have hdy := fun (P' : Program) (C' : Cx P' gl) => @dy0_fs P' gl C' e1 s1
  clear n0
  clear w2 hya hyl hpr hp hy hz a1 a2 a3 a4 a5 hd
  obtain ⟨rfl, hG⟩ := C
  refine FS_ofC (args := fun A => [.agg [I n, .lst p]]) (R := fun A rr => rr = .tup [.agg [B false, .lst [], I 0], B true]) Tryd.hT Tryd.mix Tryd.func7 rfl rfl (Nat.le_of_ble_eq_true rfl) ?_
  generalize hP : Tryd.prog = P
  intro A hA
  have C : Tryd.Cx P gl := ⟨hP.symm, hG⟩
  have hI : intsL = A.ints := by subst hA; rfl
  iterate 2 (all_goals try cbv; all_goals repeat' (first | with_reducible exact True.intro | with_reducible refine And.intro ?_ ?_ | intro _))
  all_goals try exact oG
  refine callS hA rfl (am P C) ?_; rintro _ rfl
  iterate 2 (all_goals try cbv; all_goals repeat' (first | with_reducible exact True.intro | with_reducible refine And.intro ?_ ?_ | intro _))
  all_goals try exact oG
  iterate 2 (all_goals try cbv; all_goals repeat' (first | with_reducible exact True.intro | with_reducible refine And.intro ?_ ?_ | intro _))
  all_goals try exact oG
  refine callS hA rfl (g1 P C) ?_; rintro _ rfl
  iterate 2 (all_goals try cbv; all_goals repeat' (first | with_reducible exact True.intro | with_reducible refine And.intro ?_ ?_ | intro _))
  all_goals try exact oG
  refine callS hA rfl (gr P C) ?_; rintro _ rfl
  iterate 2 (all_goals try cbv; all_goals repeat' (first | with_reducible exact True.intro | with_reducible refine And.intro ?_ ?_ | intro _))
  all_goals try exact oG
  refine callS hA rfl (hdy P C) ?_; rintro _ rfl
  iterate 2 (all_goals try cbv; all_goals repeat' (first | with_reducible exact True.intro | with_reducible refine And.intro ?_ ?_ | intro _))
  all_goals try exact oG

set_option maxHeartbeats 1000000 in
set_option maxRecDepth 100000 in
theorem implMatTrace_X_fs (C : Cx P gl) {ys : List Cell3} {p : List PV} {n : Int} {d : Dyadic} (hp : p = cells3 ys) (ok : matOk n ys) (hd : d = traceD n.toNat (dvY ys)) (hX : ¬fits d)
    (hl : ys.length ≤ 2000000) (hy : ∀ y ∈ ys, y.2.1.length ≤ 2000000) :
    FS P gl 7 [.agg [I n, .lst p]] (· = .tup [.agg [B false, .lst [], I 0], B false]) := by
  have am := fun (P' : Program) (C' : Cx P' gl) => implMatOk_fs C' (n := n) (b := true) hp ⟨fun _ => ok, fun _ => rfl⟩ hl hy
  obtain ⟨n1, n4, hyl, hya⟩ := ok
  obtain ⟨⟨s1, l1, e1⟩, w1, w2⟩ := gridTrace_ex (allY_XL hya) (by omega) (by omega) (by omega) n4 hyl
  rw [← hd] at w1
  obtain ⟨z, a1, a2, a3, a4, a5⟩ := w1
  simp only at a1 a2 a3 a4 a5 w2
  obtain ⟨pr, hpr⟩ : ∃ pr, pr = intsL l1 := ⟨_, rfl⟩
  have gr := fun (P' : Program) (C' : Cx P' gl) => w2 P' gl p pr C' hp hpr
  have g1 := fun (P' : Program) (C' : Cx P' gl) => matGrid_fs C' (n := n) hp hl
  rw [a2] at hpr
  have hz : z = 0 ↔ d = 0 := by
    constructor
    · intro h; rw [a3, h, mk_zero]
    · intro h; rw [h, ← mk_zero e1, mk_inj] at a3; exact a3.symm
  have hdy := fun (P' : Program) (C' : Cx P' gl) => dyn_fs C' hpr a1 (e := e1) (by omega) (by omega) (fun h => hX (by rw [hz.1 h]; exact ⟨by rw [cZ_zero, show Int.natAbs 0 = 0 from rfl, dg_zero]; decide, by decide, by decide⟩)) (by rw [← a3]; exact hX)
  clear hX
  clear w2 hya hyl hpr hp hy hz a1 a2 a3 a4 a5 hd
  obtain ⟨rfl, hG⟩ := C
  refine FS_ofC (args := fun A => [.agg [I n, .lst p]]) (R := fun A rr => rr = .tup [.agg [B false, .lst [], I 0], B false]) Tryd.hT Tryd.mix Tryd.func7 rfl rfl (Nat.le_of_ble_eq_true rfl) ?_
  generalize hP : Tryd.prog = P
  intro A hA
  have C : Tryd.Cx P gl := ⟨hP.symm, hG⟩
  have hI : intsL = A.ints := by subst hA; rfl
  iterate 2 (all_goals try cbv; all_goals repeat' (first | with_reducible exact True.intro | with_reducible refine And.intro ?_ ?_ | intro _))
  all_goals try exact oG
  refine callS hA rfl (am P C) ?_; rintro _ rfl
  iterate 2 (all_goals try cbv; all_goals repeat' (first | with_reducible exact True.intro | with_reducible refine And.intro ?_ ?_ | intro _))
  all_goals try exact oG
  iterate 2 (all_goals try cbv; all_goals repeat' (first | with_reducible exact True.intro | with_reducible refine And.intro ?_ ?_ | intro _))
  all_goals try exact oG
  refine callS hA rfl (g1 P C) ?_; rintro _ rfl
  iterate 2 (all_goals try cbv; all_goals repeat' (first | with_reducible exact True.intro | with_reducible refine And.intro ?_ ?_ | intro _))
  all_goals try exact oG
  refine callS hA rfl (gr P C) ?_; rintro _ rfl
  iterate 2 (all_goals try cbv; all_goals repeat' (first | with_reducible exact True.intro | with_reducible refine And.intro ?_ ?_ | intro _))
  all_goals try exact oG
  refine callS hA rfl (hdy P C) ?_; rintro _ rfl
  iterate 2 (all_goals try cbv; all_goals repeat' (first | with_reducible exact True.intro | with_reducible refine And.intro ?_ ?_ | intro _))
  all_goals try exact oG

set_option maxHeartbeats 1000000 in
set_option maxRecDepth 100000 in
theorem implMatTrace_N_fs (C : Cx P gl) {ys : List Cell3} {p : List PV} {n : Int} (hp : p = cells3 ys) (ok : ¬matOk n ys)
    (hl : ys.length ≤ 2000000) (hy : ∀ y ∈ ys, y.2.1.length ≤ 2000000) :
    FS P gl 7 [.agg [I n, .lst p]] (· = .tup [.agg [B false, .lst [], I 0], B false]) := by
  have am := fun (P' : Program) (C' : Cx P' gl) => implMatOk_fs C' (n := n) (b := false) hp ⟨fun h => absurd h (by decide), fun h => absurd h ok⟩ hl hy
  clear ok hp hy
  obtain ⟨rfl, hG⟩ := C
  refine FS_ofT (args := fun A => [.agg [I n, .lst p]]) (R := fun A rr => rr = .tup [.agg [B false, .lst [], I 0], B false]) Tryd.hT Tryd.mix Tryd.func7 rfl rfl (Nat.le_of_ble_eq_true rfl) ?_
  generalize hP : Tryd.prog = P
  intro A hA
  have C : Tryd.Cx P gl := ⟨hP.symm, hG⟩
  have hI : intsL = A.ints := by subst hA; rfl
  iterate 2 (all_goals try cbv; all_goals repeat' (first | with_reducible exact True.intro | with_reducible refine And.intro ?_ ?_ | intro _))
  all_goals try exact oG
  refine callS hA rfl (am P C) ?_; rintro _ rfl
  iterate 2 (all_goals try cbv; all_goals repeat' (first | with_reducible exact True.intro | with_reducible refine And.intro ?_ ?_ | intro _))
  all_goals try exact oG
  iterate 2 (all_goals try cbv; all_goals repeat' (first | with_reducible exact True.intro | with_reducible refine And.intro ?_ ?_ | intro _))
  all_goals try exact oG

theorem implMatTrace_o_fn (C : Cx P gl) {ys : List Cell3} {p : List PV} {n : Int} {d : Dyadic} {u : Bool} {r : List PV} {g : Int} (hp : p = cells3 ys) (ok : matOk n ys) (hd : d = traceD n.toNat (dvY ys)) (fit : fits d) (n0 : d ≠ 0) (hr : r = intsL (dg (cZ d).natAbs)) (hu : u = decide (cZ d < 0)) (hg : g = cE d)
    (hl : ys.length ≤ 2000000) (hy : ∀ y ∈ ys, y.2.1.length ≤ 2000000) :
    FN P gl 7 [.agg [I n, .lst p]] (fun own rr => own = [.row 3 1 r] ∧ rr = .tup [.agg [.pv (B u), .own 0, .pv (I g)], .pv (B true)]) :=
  FN_of (implMatTrace_o_fx C hp ok hd fit n0 hr hu hg hl hy) (by rintro _ _ ⟨rfl, rfl⟩; exact ⟨by simpa using closed_ints hr _ _, rfl⟩)

set_option maxHeartbeats 1000000 in
set_option maxRecDepth 100000 in
theorem specMatTrace_fs (C : Cx P gl) {ys : List Cell3} {o : List Int} {p r : List PV} {n g : Int} {u w : Bool} {d : Dyadic} (hp : p = cells3 ys) (hr : r = intsL o) (hd : d = traceD n.toNat (dvY ys)) (hw : w = true ↔ matOk n ys ∧ fits d) (ho1 : w = true → cellsD d u o g) (ho2 : w = false → u = false ∧ o = [] ∧ g = 0)
    (hl : ys.length ≤ 2000000) (hy : ∀ y ∈ ys, y.2.1.length ≤ 2000000) :
    FS P gl 5 [.agg [I n, .lst p]] (· = .tup [.agg [B u, .lst r, I g], B w]) := by
  obtain ⟨b, hb⟩ := bool_of (matOk n ys)
  have am := fun (P' : Program) (C' : Cx P' gl) => specMatOk_fs C' (n := n) (b := b) hp hb hl hy
  cases b with
  | false =>
    have hwf : w = false := by
      cases hwc : w with
      | false => rfl
      | true => exact absurd (hb.2 (hw.1 hwc).1) (by decide)
    obtain ⟨k1, k2, k3⟩ := ho2 hwf
    rw [k2] at hr
    have hr0 : r = [] := hr
    rw [hwf, k1, hr0, k3]
    clear ho1 ho2 hw hb hp hy hr hd hr0
    obtain ⟨rfl, hG⟩ := C
    refine FS_ofT (args := fun A => [.agg [I n, .lst p]]) (R := fun A rr => rr = .tup [.agg [B false, .lst [], I 0], B false]) Tryd.hT Tryd.mix Tryd.func5 rfl rfl (Nat.le_of_ble_eq_true rfl) ?_
    generalize hP : Tryd.prog = P
    intro A hA
    have C : Tryd.Cx P gl := ⟨hP.symm, hG⟩
    have hI : intsL = A.ints := by subst hA; rfl
    iterate 2 (all_goals try cbv; all_goals repeat' (first | with_reducible exact True.intro | with_reducible refine And.intro ?_ ?_ | intro _))
    all_goals try exact oG
    refine callS hA rfl (am P C) ?_; rintro _ rfl
    iterate 2 (all_goals try cbv; all_goals repeat' (first | with_reducible exact True.intro | with_reducible refine And.intro ?_ ?_ | intro _))
    all_goals try exact oG
    iterate 2 (all_goals try cbv; all_goals repeat' (first | with_reducible exact True.intro | with_reducible refine And.intro ?_ ?_ | intro _))
    all_goals try exact oG
  | true =>
    have ok := hb.1 rfl
    obtain ⟨n1, n4, hyl, hya⟩ := ok
    obtain ⟨yx, w1, _⟩ := gridTrace_ex (allY_XL hya) (by omega) (by omega) (by omega) n4 hyl
    rw [← hd] at w1
    have hlen := X_can w1
    obtain ⟨ud, hud⟩ : ∃ b, b = decide (cZ d < 0) := ⟨_, rfl⟩
    obtain ⟨rd, hrd⟩ : ∃ r, r = intsL (dg (cZ d).natAbs) := ⟨_, rfl⟩
    obtain ⟨gd, hgd⟩ : ∃ g, g = cE d := ⟨_, rfl⟩
    have nm := fun (P' : Program) (C' : Cx P' gl) => l8trace_fs C' (n := n) hp (allY_XL hya) (by omega) (by omega) (by omega) n4 hyl (u0 := ud) (r := rd) (f := gd) (by rw [← hd]; exact hud) (by rw [← hd]; exact hrd) (by rw [← hd]; exact hgd)
    have hcd : cellsD d ud (dg (cZ d).natAbs) gd := ⟨hud, rfl, hgd⟩
    have hwf : w = true ↔ dyOk ud (dg (cZ d).natAbs) gd := by rw [hw, dyOk_cells hcd]; exact ⟨fun h => h.2, fun h => ⟨hb.1 rfl, h⟩⟩
    have ft := fun (P' : Program) (C' : Cx P' gl) => l4fits_fs C' hrd hwf (by omega) (q := r) (t := u) (f := g) (fun h => by
      obtain ⟨k1, k2, k3⟩ := ho1 h
      exact ⟨by rw [hr, k2, hrd], by rw [k1, hud], by rw [k3, hgd]⟩) (fun h => by
      obtain ⟨k1, k2, k3⟩ := ho2 h
      exact ⟨by rw [hr, k2]; rfl, k1, k3⟩)
    clear ho1 ho2 hw hb hp hy hr hd hya hyl w1 hlen hud hrd hgd hcd hwf
    obtain ⟨rfl, hG⟩ := C
    refine FS_ofT (args := fun A => [.agg [I n, .lst p]]) (R := fun A rr => rr = .tup [.agg [B u, .lst r, I g], B w]) Tryd.hT Tryd.mix Tryd.func5 rfl rfl (Nat.le_of_ble_eq_true rfl) ?_
    generalize hP : Tryd.prog = P
    intro A hA
    have C : Tryd.Cx P gl := ⟨hP.symm, hG⟩
    have hI : intsL = A.ints := by subst hA; rfl
    iterate 2 (all_goals try cbv; all_goals repeat' (first | with_reducible exact True.intro | with_reducible refine And.intro ?_ ?_ | intro _))
    all_goals try exact oG
    refine callS hA rfl (am P C) ?_; rintro _ rfl
    iterate 2 (all_goals try cbv; all_goals repeat' (first | with_reducible exact True.intro | with_reducible refine And.intro ?_ ?_ | intro _))
    all_goals try exact oG
    iterate 2 (all_goals try cbv; all_goals repeat' (first | with_reducible exact True.intro | with_reducible refine And.intro ?_ ?_ | intro _))
    all_goals try exact oG
    refine callS hA rfl (nm P C) ?_; rintro _ rfl
    iterate 2 (all_goals try cbv; all_goals repeat' (first | with_reducible exact True.intro | with_reducible refine And.intro ?_ ?_ | intro _))
    all_goals try exact oG
    refine callS hA rfl (ft P C) ?_; rintro _ rfl
    iterate 2 (all_goals try cbv; all_goals repeat' (first | with_reducible exact True.intro | with_reducible refine And.intro ?_ ?_ | intro _))
    all_goals try exact oG

end Tryd
end Go.Proofs
