/- Contracts: MatAdj in the program and in the reference. -/
import Derived.Test.YthmkdfmapdbenaaGreatDoorCM34
import Derived.Test.YthmkdfmapdbenaaGreatDoorCM7
import Derived.Test.YthmkdfmapdbenaaGreatDoorCPeTb
import Derived.Test.YthmkdfmapdbenaaGreatDoorCM37
namespace Go.Proofs
open Go Go.Pe Go.Dg
namespace Tryz
set_option linter.unusedSimpArgs false
set_option linter.unusedVariables false
variable {P : Program} {gl : List (Nat × Obj)}

/-- a number of the adjugate: what is called -/
def adjCall (gl : List (Nat × Obj)) (n : Int) (ys : List Cell3) (i j : Nat) (y : Cell3) : Prop := ∃ dt : Cell3, (∀ (P : Program) (q u : List PV) (n1 : Int), Cx P gl → n1 = n - 1 → q = cells3 (minorL n.toNat j i ys) → u = intsL dt.2.1 → FS P gl 70 [.agg [I n1, .lst q]] (· = .agg [B dt.1, .lst u, I dt.2.2])) ∧
  (∀ (P : Program) (u v : List PV) (k' : Int), Cx P gl → k' = ((j + i : Nat) : Int) → u = intsL dt.2.1 → v = intsL y.2.1 → FS P gl 122 [.agg [B dt.1, .lst u, I dt.2.2], I k'] (· = .agg [B y.1, .lst v, I y.2.2]))

set_option maxHeartbeats 1000000 in
set_option maxRecDepth 100000 in
theorem gridAdj1_fs (C : Cx P gl) {ys : List Cell3} {p r : List PV} {n i j : Int} {s : Bool} {l : List Int} {e : Int} (hp : p = cells3 ys) (hi : 0 ≤ i) (hj : 0 ≤ j) (hn4 : n ≤ 4) (hi4 : i < n) (hj4 : j < n)
    (hyl : (ys.length : Int) = n * n) (hr : r = intsL l) (hc : adjCall gl n ys i.toNat j.toNat (s, l, e)) :
    FS P gl 129 [I i, I j, .ptr [I n, .lst p] 0] (· = .agg [B s, .lst r, I e]) := by
  obtain ⟨dt, h1, h2⟩ := hc
  obtain ⟨n1, hn1⟩ : ∃ n1, n1 = n - 1 := ⟨_, rfl⟩
  obtain ⟨q, hq⟩ : ∃ q, q = cells3 (minorL n.toNat j.toNat i.toNat ys) := ⟨_, rfl⟩
  obtain ⟨u, hu⟩ : ∃ u, u = intsL dt.2.1 := ⟨_, rfl⟩
  obtain ⟨s1, hs1⟩ : ∃ s1, s1 = dt.1 := ⟨_, rfl⟩
  obtain ⟨e1, he1⟩ : ∃ e1, e1 = dt.2.2 := ⟨_, rfl⟩
  obtain ⟨k, hk⟩ : ∃ k, k = j + i := ⟨_, rfl⟩
  have c1 := fun (P' : Program) (C' : Cx P' gl) => gridMinor_fs C' hp (by omega) hn4 hj hj4 hi hi4 hyl hn1 hq
  have c2 := fun (P' : Program) (C' : Cx P' gl) => h1 P' q u n1 C' hn1 hq hu
  have c3 := fun (P' : Program) (C' : Cx P' gl) => h2 P' u r k C' (by omega) hu hr
  simp only at c3
  rw [← hs1, ← he1] at c2 c3
  clear h1 h2 hq hu hs1 he1 hyl hp hr hn1
  obtain ⟨rfl, hG⟩ := C
  refine FS_ofT (args := fun A => [I i, I j, .ptr [I n, .lst p] 0]) (R := fun A rr => rr = .agg [B s, .lst r, I e]) Tryz.hT Tryz.mix Tryz.func129 rfl rfl (Nat.le_of_ble_eq_true rfl) ?_
  generalize hP : Tryz.prog = P
  intro A hA
  have C : Tryz.Cx P gl := ⟨hP.symm, hG⟩
  have hI : intsL = A.ints := by subst hA; rfl
  have hadd : A.add .i64 j i = k := by rw [hk]; subst hA; exact wrapi (by omega) (by omega)
  iterate 2 (all_goals try cbv; all_goals repeat' (first | with_reducible exact True.intro | with_reducible refine And.intro ?_ ?_ | intro _))
  all_goals try exact oG
  refine callS hA rfl (c1 P C) ?_; rintro _ rfl
  iterate 2 (all_goals try cbv; all_goals repeat' (first | with_reducible exact True.intro | with_reducible refine And.intro ?_ ?_ | intro _))
  all_goals try exact oG
  refine callS hA rfl (c2 P C) ?_; rintro _ rfl
  iterate 2 (all_goals try cbv; all_goals repeat' (first | with_reducible exact True.intro | with_reducible refine And.intro ?_ ?_ | intro _))
  all_goals try exact oG
  simp only [hadd]
  refine callS hA rfl (c3 P C) ?_; rintro _ rfl
  iterate 2 (all_goals try cbv; all_goals repeat' (first | with_reducible exact True.intro | with_reducible refine And.intro ?_ ?_ | intro _))
  all_goals try exact oG

set_option maxHeartbeats 1000000 in
set_option maxRecDepth 100000 in
theorem gridAdj_fs (C : Cx P gl) {ys : List Cell3} {p r : List PV} {n : Int} {Y : Nat → Nat → Cell3} (hp : p = cells3 ys) (hr : r = cells3 (rowsY Y n.toNat n.toNat)) (hn : 0 ≤ n) (hn4 : n ≤ 4) (hyl : (ys.length : Int) = n * n)
    (hY : ∀ i j : Nat, i < n.toNat → j < n.toNat → adjCall gl n ys i j (Y i j)) :
    FS P gl 81 [.agg [I n, .lst p]] (· = .agg [I n, .lst r]) := by
  have hg := fun (P' : Program) (C' : Cx P' gl) => gridOf1_fs C' (f := 129) (a0 := [I n, .lst p]) (y := Y) hn (by omega) hr (fun i j s l e u h1 h2 h3 h4 h5 h6 P' C' => by
    have h7 := hY i.toNat j.toNat (by omega) (by omega)
    rw [h5] at h7
    exact gridAdj1_fs C' hp h1 h3 hn4 h2 h4 hyl h6 h7)
  clear hY hp hr hyl
  obtain ⟨rfl, hG⟩ := C
  refine FS_ofT (args := fun A => [.agg [I n, .lst p]]) (R := fun A rr => rr = .agg [I n, .lst r]) Tryz.hT Tryz.mix Tryz.func81 rfl rfl (Nat.le_of_ble_eq_true rfl) ?_
  generalize hP : Tryz.prog = P
  intro A hA
  have C : Tryz.Cx P gl := ⟨hP.symm, hG⟩
  have hI : intsL = A.ints := by subst hA; rfl
  iterate 2 (all_goals try cbv; all_goals repeat' (first | with_reducible exact True.intro | with_reducible refine And.intro ?_ ?_ | intro _))
  all_goals try exact oG
  refine callS hA rfl (hg P C) ?_; rintro _ rfl
  iterate 2 (all_goals try cbv; all_goals repeat' (first | with_reducible exact True.intro | with_reducible refine And.intro ?_ ?_ | intro _))
  all_goals try exact oG

/-- the adjugate, place by place -/
theorem gridAdj_ex {ys : List Cell3} {d : Nat → Dyadic} {L E : Nat} {n : Int} (h1 : XL d L E ys) (hL : L ≤ 100) (hE : E ≤ 3000) (hn : 0 ≤ n) (hn4 : n ≤ 4) (hyl : (ys.length : Int) = n * n) :
    ∃ ws, (ws.length : Int) = n * n ∧ XL (adjD n.toNat d) 150001 9000 ws ∧
      ∀ (P : Program) (gl : List (Nat × Obj)) (p r : List PV), Cx P gl → p = cells3 ys → r = cells3 ws → FS P gl 81 [.agg [I n, .lst p]] (· = .agg [I n, .lst r]) := by
  have hnn : n * n = ((n.toNat * n.toNat : Nat) : Int) := by rw [Int.natCast_mul, Int.toNat_of_nonneg hn]
  have hx := h1.mono hL hE
  obtain ⟨Y, hY⟩ := places (n := n.toNat) (Q := fun i j y => X (adjD n.toNat d (i * n.toNat + j)) 150001 9000 y ∧ ∀ gl, adjCall gl n ys i j y) (by
    intro i j hi hj
    obtain ⟨dt, dx, dc⟩ := gridDet_ex' (n.toNat - 1) (by omega) (minor_XL (n := n.toNat) (r := j) (c := i) hx (by omega)) (by rw [minorL_len, idxL_len (by omega) hj hi])
    have hd := dx.mono (L' := 150001) (E' := 9000) (by omega) (by omega)
    obtain ⟨y, yx, yc⟩ := xSigned hd (by omega) (j + i) (by omega)
    refine ⟨y, ?_, fun gl => ⟨dt, ?_, ?_⟩⟩
    · have := (place_eq (n := n.toNat) (i := i) (j := j) (k := i * n.toNat + j) hj).1 rfl
      rw [adjD, this.1, this.2]; exact yx
    · intro P q u n1 C h2 h3 h4
      exact dc P gl q u n1 C (by omega) h3 h4
    · intro P u v k' C h2 h3 h4
      exact yc P gl u v k' C h2 h3 h4)
  refine ⟨rowsY Y n.toNat n.toNat, by rw [rowsY_len, hnn], rowsY_XL (fun i j hi hj => (hY i j hi hj).1), ?_⟩
  intro P gl p r C hp hr
  exact gridAdj_fs C hp hr hn hn4 hyl (fun i j hi hj => (hY i j hi hj).2 gl)

end Tryz
end Go.Proofs

namespace Go.Proofs
open Go Go.Pe Go.Dg
namespace Tryz
set_option linter.unusedSimpArgs false
set_option linter.unusedVariables false
variable {P : Program} {gl : List (Nat × Obj)}

set_option maxHeartbeats 1000000 in
set_option maxRecDepth 100000 in
theorem implMatAdj_o_fx (C : Cx P gl) {ys : List Cell3} {p r : List PV} {n : Int} (hp : p = cells3 ys) (ok : matOk n ys) (fit : ∀ k, k < ys.length → fits ((adjD n.toNat (dvY ys)) k)) (hr : r = cells3 (canL (adjD n.toNat (dvY ys)) ys.length))
    (hl : ys.length ≤ 2000000) (hy : ∀ y ∈ ys, y.2.1.length ≤ 2000000) :
    FX P gl 37 [] [.pv (.agg [I n, .lst p])] (fun own rr => own = [.tree 41 3 3 r] ∧ rr = .tup [.agg [.pv (I n), .own 0], .pv (B true)]) := by
  have am := fun (P' : Program) (C' : Cx P' gl) => implMatOk_fs C' (n := n) (b := true) hp ⟨fun _ => ok, fun _ => rfl⟩ hl hy
  obtain ⟨n1, n4, hyl, hya⟩ := ok
  have hyl2 := matLen n1 n4 hyl
  obtain ⟨ws, w1, w2, w3⟩ := gridAdj_ex (allY_XL hya) (by omega) (by omega) (by omega) n4 hyl
  have hlw : ws.length = ys.length := by omega
  obtain ⟨pw, hpw⟩ : ∃ pw, pw = cells3 ws := ⟨_, rfl⟩
  have gr := fun (P' : Program) (C' : Cx P' gl) => w3 P' gl p pw C' hp hpw
  have g1 := fun (P' : Program) (C' : Cx P' gl) => matGrid_fs C' (n := n) hp hl
  have mt := fun (P' : Program) (C' : Cx P' gl) => gridMat_fn C' (n := n) (r := r) hpw w2 (by omega) (by omega) (fun k hk => fit k (by omega)) (by rw [hr, hlw]) (by omega)
  clear w1 w2 w3 hya hyl hpw fit hr hp hy
  obtain ⟨rfl, hG⟩ := C
  refine FX_ofC (own := fun A => []) (args := fun A => [.pv (.agg [I n, .lst p])]) (R := fun A ow rr => ow = [.tree 41 3 3 r] ∧ rr = .tup [.agg [.pv (I n), .own 0], .pv (B true)]) Tryz.hT Tryz.mix Tryz.func37 rfl rfl (Nat.le_of_ble_eq_true rfl) ?_
  generalize hP : Tryz.prog = P
  intro A hA
  have C : Tryz.Cx P gl := ⟨hP.symm, hG⟩
  have hI : intsL = A.ints := by subst hA; rfl
  iterate 2 (all_goals try cbv; all_goals repeat' (first | with_reducible exact True.intro | with_reducible refine And.intro ?_ ?_ | intro _))
  all_goals try exact oG
  refine callS hA rfl (am P C) ?_; rintro _ rfl
  iterate 2 (all_goals try cbv; all_goals repeat' (first | with_reducible exact True.intro | with_reducible refine And.intro ?_ ?_ | intro _))
  all_goals try exact oG
  iterate 2 (all_goals try cbv; all_goals repeat' (first | with_reducible exact True.intro | with_reducible refine And.intro ?_ ?_ | intro _))
  all_goals try exact oG
  refine callS hA rfl (g1 P C) ?_; rintro _ rfl
  iterate 2 (all_goals try cbv; all_goals repeat' (first | with_reducible exact True.intro | with_reducible refine And.intro ?_ ?_ | intro _))
  all_goals try exact oG
  refine callS hA rfl (gr P C) ?_; rintro _ rfl
  iterate 2 (all_goals try cbv; all_goals repeat' (first | with_reducible exact True.intro | with_reducible refine And.intro ?_ ?_ | intro _))
  all_goals try exact oG
  refine callN hA rfl (mt P C) ?_; rintro _ _ ⟨rfl, rfl⟩; refine ⟨rfl, ?_⟩
  iterate 2 (all_goals try cbv; all_goals repeat' (first | with_reducible exact True.intro | with_reducible refine And.intro ?_ ?_ | intro _))
  all_goals try exact oG
  subst hA
  exact ⟨[2], _, _, by decide, Nat.zero_le _, rfl, rfl, rfl, rfl, rfl, rfl⟩

theorem implMatAdj_o_fn (C : Cx P gl) {ys : List Cell3} {p r : List PV} {n : Int} (hp : p = cells3 ys) (ok : matOk n ys) (fit : ∀ k, k < ys.length → fits ((adjD n.toNat (dvY ys)) k)) (hr : r = cells3 (canL (adjD n.toNat (dvY ys)) ys.length))
    (hl : ys.length ≤ 2000000) (hy : ∀ y ∈ ys, y.2.1.length ≤ 2000000) :
    FN P gl 37 [.agg [I n, .lst p]] (fun own rr => own = [.tree 41 3 3 r] ∧ rr = .tup [.agg [.pv (I n), .own 0], .pv (B true)]) :=
  FN_of (implMatAdj_o_fx C hp ok fit hr hl hy) (by rintro _ _ ⟨rfl, rfl⟩; exact ⟨by simp [closedB], rfl⟩)

set_option maxHeartbeats 1000000 in
set_option maxRecDepth 100000 in
theorem implMatAdj_X_fs (C : Cx P gl) {ys : List Cell3} {p : List PV} {n : Int} (hp : p = cells3 ys) (ok : matOk n ys) (fit : ¬∀ k, k < ys.length → fits ((adjD n.toNat (dvY ys)) k))
    (hl : ys.length ≤ 2000000) (hy : ∀ y ∈ ys, y.2.1.length ≤ 2000000) :
    FS P gl 37 [.agg [I n, .lst p]] (· = .tup [.agg [I 0, .lst []], B false]) := by
  have am := fun (P' : Program) (C' : Cx P' gl) => implMatOk_fs C' (n := n) (b := true) hp ⟨fun _ => ok, fun _ => rfl⟩ hl hy
  obtain ⟨n1, n4, hyl, hya⟩ := ok
  have hyl2 := matLen n1 n4 hyl
  obtain ⟨ws, w1, w2, w3⟩ := gridAdj_ex (allY_XL hya) (by omega) (by omega) (by omega) n4 hyl
  have hlw : ws.length = ys.length := by omega
  obtain ⟨pw, hpw⟩ : ∃ pw, pw = cells3 ws := ⟨_, rfl⟩
  have gr := fun (P' : Program) (C' : Cx P' gl) => w3 P' gl p pw C' hp hpw
  have g1 := fun (P' : Program) (C' : Cx P' gl) => matGrid_fs C' (n := n) hp hl
  have mt := fun (P' : Program) (C' : Cx P' gl) => gridMat_fs C' (n := n) hpw w2 (by omega) (by omega) (fun h => fit (fun k hk => h k (by omega))) (by omega)
  clear w1 w2 w3 hya hyl hpw fit hp hy
  obtain ⟨rfl, hG⟩ := C
  refine FS_ofC (args := fun A => [.agg [I n, .lst p]]) (R := fun A rr => rr = .tup [.agg [I 0, .lst []], B false]) Tryz.hT Tryz.mix Tryz.func37 rfl rfl (Nat.le_of_ble_eq_true rfl) ?_
  generalize hP : Tryz.prog = P
  intro A hA
  have C : Tryz.Cx P gl := ⟨hP.symm, hG⟩
  have hI : intsL = A.ints := by subst hA; rfl
  iterate 2 (all_goals try cbv; all_goals repeat' (first | with_reducible exact True.intro | with_reducible refine And.intro ?_ ?_ | intro _))
  all_goals try exact oG
  refine callS hA rfl (am P C) ?_; rintro _ rfl
  iterate 2 (all_goals try cbv; all_goals repeat' (first | with_reducible exact True.intro | with_reducible refine And.intro ?_ ?_ | intro _))
  all_goals try exact oG
  iterate 2 (all_goals try cbv; all_goals repeat' (first | with_reducible exact True.intro | with_reducible refine And.intro ?_ ?_ | intro _))
  all_goals try exact oG
  refine callS hA rfl (g1 P C) ?_; rintro _ rfl
  iterate 2 (all_goals try cbv; all_goals repeat' (first | with_reducible exact True.intro | with_reducible refine And.intro ?_ ?_ | intro _))
  all_goals try exact oG
  refine callS hA rfl (gr P C) ?_; rintro _ rfl
  iterate 2 (all_goals try cbv; all_goals repeat' (first | with_reducible exact True.intro | with_reducible refine And.intro ?_ ?_ | intro _))
  all_goals try exact oG
  refine callS hA rfl (mt P C) ?_; rintro _ rfl
  iterate 2 (all_goals try cbv; all_goals repeat' (first | with_reducible exact True.intro | with_reducible refine And.intro ?_ ?_ | intro _))
  all_goals try exact oG

set_option maxHeartbeats 1000000 in
set_option maxRecDepth 100000 in
theorem implMatAdj_N_fs (C : Cx P gl) {ys : List Cell3} {p : List PV} {n : Int} (hp : p = cells3 ys) (ok : ¬matOk n ys)
    (hl : ys.length ≤ 2000000) (hy : ∀ y ∈ ys, y.2.1.length ≤ 2000000) :
    FS P gl 37 [.agg [I n, .lst p]] (· = .tup [.agg [I 0, .lst []], B false]) := by
  have am := fun (P' : Program) (C' : Cx P' gl) => implMatOk_fs C' (n := n) (b := false) hp ⟨fun h => absurd h (by decide), fun h => absurd h ok⟩ hl hy
  clear ok hp hy
  obtain ⟨rfl, hG⟩ := C
  refine FS_ofT (args := fun A => [.agg [I n, .lst p]]) (R := fun A rr => rr = .tup [.agg [I 0, .lst []], B false]) Tryz.hT Tryz.mix Tryz.func37 rfl rfl (Nat.le_of_ble_eq_true rfl) ?_
  generalize hP : Tryz.prog = P
  intro A hA
  have C : Tryz.Cx P gl := ⟨hP.symm, hG⟩
  have hI : intsL = A.ints := by subst hA; rfl
  iterate 2 (all_goals try cbv; all_goals repeat' (first | with_reducible exact True.intro | with_reducible refine And.intro ?_ ?_ | intro _))
  all_goals try exact oG
  refine callS hA rfl (am P C) ?_; rintro _ rfl
  iterate 2 (all_goals try cbv; all_goals repeat' (first | with_reducible exact True.intro | with_reducible refine And.intro ?_ ?_ | intro _))
  all_goals try exact oG
  iterate 2 (all_goals try cbv; all_goals repeat' (first | with_reducible exact True.intro | with_reducible refine And.intro ?_ ?_ | intro _))
  all_goals try exact oG

set_option maxHeartbeats 1000000 in
set_option maxRecDepth 100000 in
theorem specMatAdj_fs (C : Cx P gl) {ys : List Cell3} {p r : List PV} {n n' : Int} {w : Bool} (hp : p = cells3 ys) (hw : w = true ↔ matOk n ys ∧ ∀ k, k < ys.length → fits ((adjD n.toNat (dvY ys)) k))
    (h1 : w = true → r = cells3 (canL (adjD n.toNat (dvY ys)) ys.length) ∧ n' = n) (h2 : w = false → r = [] ∧ n' = 0)
    (hl : ys.length ≤ 2000000) (hy : ∀ y ∈ ys, y.2.1.length ≤ 2000000) :
    FS P gl 36 [.agg [I n, .lst p]] (· = .tup [.agg [I n', .lst r], B w]) := by
  obtain ⟨b, hb⟩ := bool_of (matOk n ys)
  have am := fun (P' : Program) (C' : Cx P' gl) => specMatOk_fs C' (n := n) (b := b) hp hb hl hy
  cases b with
  | false =>
    have hwf : w = false := by
      cases hwc : w with
      | false => rfl
      | true => exact absurd (hb.2 (hw.1 hwc).1) (by decide)
    obtain ⟨e1, e2⟩ := h2 hwf
    clear h1 h2 hw hb hp hy
    rw [e1, e2, hwf]
    obtain ⟨rfl, hG⟩ := C
    refine FS_ofT (args := fun A => [.agg [I n, .lst p]]) (R := fun A rr => rr = .tup [.agg [I 0, .lst []], B false]) Tryz.hT Tryz.mix Tryz.func36 rfl rfl (Nat.le_of_ble_eq_true rfl) ?_
    generalize hP : Tryz.prog = P
    intro A hA
    have C : Tryz.Cx P gl := ⟨hP.symm, hG⟩
    have hI : intsL = A.ints := by subst hA; rfl
    iterate 2 (all_goals try cbv; all_goals repeat' (first | with_reducible exact True.intro | with_reducible refine And.intro ?_ ?_ | intro _))
    all_goals try exact oG
    refine callS hA rfl (am P C) ?_; rintro _ rfl
    iterate 2 (all_goals try cbv; all_goals repeat' (first | with_reducible exact True.intro | with_reducible refine And.intro ?_ ?_ | intro _))
    all_goals try exact oG
    iterate 2 (all_goals try cbv; all_goals repeat' (first | with_reducible exact True.intro | with_reducible refine And.intro ?_ ?_ | intro _))
    all_goals try exact oG
  | true =>
    have ok := hb.1 rfl
    obtain ⟨n1, n4, hyl, hya⟩ := ok
    have hyl2 := matLen n1 n4 hyl
    obtain ⟨pw, hpw⟩ : ∃ pw, pw = cells3 (canL (adjD n.toNat (dvY ys)) ys.length) := ⟨_, rfl⟩
    have ad := fun (P' : Program) (C' : Cx P' gl) => l9adj_fs C' (n := n) (r := pw) hp (allY_CL hya) n1 n4 hyl hpw
    have hwm : w = true ↔ matOk n (canL (adjD n.toNat (dvY ys)) ys.length) := by
      constructor
      · intro h
        exact ⟨n1, n4, by rw [canL_len]; exact hyl, canL_ok.2 (hw.1 h).2⟩
      · intro h
        exact hw.2 ⟨hb.1 rfl, canL_ok.1 h.2.2.2⟩
    obtain ⟨ws, w1, w2, _⟩ := gridAdj_ex (n := n) (allY_XL hya) (by omega) (by omega) (by omega) n4 hyl
    have ft := fun (P' : Program) (C' : Cx P' gl) => l8fits_fs C' (n := n) (n' := n') (q := r) (b := w) (L := 200000) hpw (canL_W fun k hk => by
      have := X_can (w2 k (by omega))
      omega) (by omega) (by rw [canL_len]; omega) hwm (fun h => by rw [hpw]; exact h1 h) h2
    clear h1 h2 hw hb hp hy hwm hpw hya hyl w1 w2
    obtain ⟨rfl, hG⟩ := C
    refine FS_ofT (args := fun A => [.agg [I n, .lst p]]) (R := fun A rr => rr = .tup [.agg [I n', .lst r], B w]) Tryz.hT Tryz.mix Tryz.func36 rfl rfl (Nat.le_of_ble_eq_true rfl) ?_
    generalize hP : Tryz.prog = P
    intro A hA
    have C : Tryz.Cx P gl := ⟨hP.symm, hG⟩
    have hI : intsL = A.ints := by subst hA; rfl
    iterate 2 (all_goals try cbv; all_goals repeat' (first | with_reducible exact True.intro | with_reducible refine And.intro ?_ ?_ | intro _))
    all_goals try exact oG
    refine callS hA rfl (am P C) ?_; rintro _ rfl
    iterate 2 (all_goals try cbv; all_goals repeat' (first | with_reducible exact True.intro | with_reducible refine And.intro ?_ ?_ | intro _))
    all_goals try exact oG
    iterate 2 (all_goals try cbv; all_goals repeat' (first | with_reducible exact True.intro | with_reducible refine And.intro ?_ ?_ | intro _))
    all_goals try exact oG
    refine callS hA rfl (ad P C) ?_; rintro _ rfl
    iterate 2 (all_goals try cbv; all_goals repeat' (first | with_reducible exact True.intro | with_reducible refine And.intro ?_ ?_ | intro _))
    all_goals try exact oG
    refine callS hA rfl (ft P C) ?_; rintro _ rfl
    iterate 2 (all_goals try cbv; all_goals repeat' (first | with_reducible exact True.intro | with_reducible refine And.intro ?_ ?_ | intro _))
    all_goals try exact oG

end Tryz
end Go.Proofs

