/- Contracts: the adjugate in the program. -/
import Derived.Test.YtlkiofkkjbodjaaGreatDoorDM34
import Derived.Test.YtlkiofkkjbodjaaGreatDoorDM15
import Derived.Test.YtlkiofkkjbodjaaGreatDoorDPeTb
set_option maxHeartbeats 1000000
set_option maxRecDepth 100000
namespace Go.Proofs
open Go Go.Pe Go.Dg
namespace Tryz
set_option linter.unusedSimpArgs false
set_option linter.unusedVariables false
variable {P : Program} {gl : List (Nat × Obj)}

def adjCall (gl : List (Nat × Obj)) (n : Int) (ys : List Cell3) (i j : Nat) (y : Cell3) : Prop := ∃ dt : Cell3, (∀ (P : Program) (q u : List PV) (n1 : Int), Cx P gl → n1 = n - 1 → q = cells3 (minorL n.toNat j i ys) → u = intsL dt.2.1 → FS P gl 78 [.agg [I n1, .lst q]] (· = .agg [B dt.1, .lst u, I dt.2.2])) ∧
 (∀ (P : Program) (u v : List PV) (k' : Int), Cx P gl → k' = ((j + i : Nat) : Int) → u = intsL dt.2.1 → v = intsL y.2.1 → FS P gl 153 [.agg [B dt.1, .lst u, I dt.2.2], I k'] (· = .agg [B y.1, .lst v, I y.2.2]))

theorem gridAdj1_fs (C : Cx P gl) {ys : List Cell3} {p r : List PV} {n i j : Int} {s : Bool} {l : List Int} {e : Int} (hp : p = cells3 ys) (hi : 0 ≤ i) (hj : 0 ≤ j) (hn4 : n ≤ 4) (hi4 : i < n) (hj4 : j < n)
  (hyl : (ys.length : Int) = n * n) (hr : r = intsL l) (hc : adjCall gl n ys i.toNat j.toNat (s, l, e)) :
  FS P gl 155 [I i, I j, .ptr [I n, .lst p] 0] (· = .agg [B s, .lst r, I e]) := by
 obtain ⟨dt, h1, h2⟩ := hc
 obtain ⟨n1, hn1⟩ : ∃ n1, n1 = n - 1 := ⟨_, rfl⟩
 obtain ⟨q, hq⟩ : ∃ q, q = cells3 (minorL n.toNat j.toNat i.toNat ys) := ⟨_, rfl⟩
 obtain ⟨u, hu⟩ : ∃ u, u = intsL dt.2.1 := ⟨_, rfl⟩
 obtain ⟨s1, hs1⟩ : ∃ s1, s1 = dt.1 := ⟨_, rfl⟩
 obtain ⟨e1, he1⟩ : ∃ e1, e1 = dt.2.2 := ⟨_, rfl⟩
 obtain ⟨k, hk⟩ : ∃ k, k = j + i := ⟨_, rfl⟩
 have c1 := fun (P' : Program) (C' : Cx P' gl) => gridMinor_fs C' hp (by omega) hn4 hj hj4 hi hi4 hyl hn1 hq
 have c2 := fun (P' : Program) (C' : Cx P' gl) => h1 P' q u n1 C' hn1 hq hu
 have c3 := fun (P' : Program) (C' : Cx P' gl) => h2 P' u r k C' (by omega) hu hr
 simp only at c3
 rw [← hs1, ← he1] at c2 c3
 clear h1 h2 hq hu hs1 he1 hyl hp hr hn1
 refine gS C func155 rfl rfl rfl fun A hA hI => ?_
 have hadd : A.add .i64 j i = k := by rw [hk]; subst hA; exact wrapi (by omega) (by omega)
 iterate 2 all_goals try cbv; with_reducible repeat' first | exact ⟨⟩ | apply And.intro | intro _
 all_goals try exact oG
 refine callS hA rfl (c1 P C) ?_; rintro _ rfl
 iterate 2 all_goals try cbv; with_reducible repeat' first | exact ⟨⟩ | apply And.intro | intro _
 all_goals try exact oG
 refine callS hA rfl (c2 P C) ?_; rintro _ rfl
 iterate 2 all_goals try cbv; with_reducible repeat' first | exact ⟨⟩ | apply And.intro | intro _
 all_goals try exact oG
 simp only [hadd]
 refine callS hA rfl (c3 P C) ?_; rintro _ rfl
 iterate 2 all_goals try cbv; with_reducible repeat' first | exact ⟨⟩ | apply And.intro | intro _
 all_goals try exact oG

theorem gridAdj_fs (C : Cx P gl) {ys : List Cell3} {p r : List PV} {n : Int} {Y : Nat → Nat → Cell3} (hp : p = cells3 ys) (hr : r = cells3 (rowsY Y n.toNat n.toNat)) (hn : 0 ≤ n) (hn4 : n ≤ 4) (hyl : (ys.length : Int) = n * n)
  (hY : ∀ i j : Nat, i < n.toNat → j < n.toNat → adjCall gl n ys i j (Y i j)) :
  FS P gl 80 [.agg [I n, .lst p]] (· = .agg [I n, .lst r]) := by
 have hg := fun (P' : Program) (C' : Cx P' gl) => gridOf1_fs C' (f := 155) (a0 := [I n, .lst p]) (y := Y) hn (by omega) hr (fun i j s l e u h1 h2 h3 h4 h5 h6 P' C' => by
  have h7 := hY i.toNat j.toNat (by omega) (by omega)
  rw [h5] at h7
  exact gridAdj1_fs C' hp h1 h3 hn4 h2 h4 hyl h6 h7)
 clear hY hp hr hyl
 refine gS C func80 rfl rfl rfl fun A hA hI => ?_
 iterate 2 all_goals try cbv; with_reducible repeat' first | exact ⟨⟩ | apply And.intro | intro _
 all_goals try exact oG
 refine callS hA rfl (hg P C) ?_; rintro _ rfl
 iterate 2 all_goals try cbv; with_reducible repeat' first | exact ⟨⟩ | apply And.intro | intro _
 all_goals try exact oG

theorem gridAdj_ex {ys : List Cell3} {d : Nat → Dyadic} {L E : Nat} {n : Int} (h1 : XL d L E ys) (hL : L ≤ 100) (hE : E ≤ 3000) (hn : 0 ≤ n) (hn4 : n ≤ 4) (hyl : (ys.length : Int) = n * n) :
  ∃ ws, (ws.length : Int) = n * n ∧ XL (adjD n.toNat d) 150001 9000 ws ∧
   ∀ (P : Program) (gl : List (Nat × Obj)) (p r : List PV), Cx P gl → p = cells3 ys → r = cells3 ws → FS P gl 80 [.agg [I n, .lst p]] (· = .agg [I n, .lst r]) := by
 have hnn : n * n = ((n.toNat * n.toNat : Nat) : Int) := by rw [Int.natCast_mul, Int.toNat_of_nonneg hn]
 have hx := h1.mono hL hE
 obtain ⟨Y, hY⟩ := places (n := n.toNat) (Q := fun i j y => X (adjD n.toNat d (i * n.toNat + j)) 150001 9000 y ∧ ∀ gl, adjCall gl n ys i j y) (by
  intro i j hi hj
  obtain ⟨dt, dx, dc⟩ := gridDet_ex' (n.toNat - 1) (by omega) (minor_XL (n := n.toNat) (r := j) (c := i) hx (by omega)) (by rw [minorL_len, idxL_len (by omega) hj hi])
  have hd := dx.mono (L' := 150001) (E' := 9000) (by omega) (by omega)
  obtain ⟨y, yx, yc⟩ := xSigned hd (by omega) (j + i) (by omega)
  refine ⟨y, ?_, fun gl => ⟨dt, ?_, ?_⟩⟩
  ·have := (place_eq (n := n.toNat) (i := i) (j := j) (k := i * n.toNat + j) hj).1 rfl
   rw [adjD, this.1, this.2]; exact yx
  ·intro P q u n1 C h2 h3 h4
   exact dc P gl q u n1 C (by omega) h3 h4
  ·intro P u v k' C h2 h3 h4
   exact yc P gl u v k' C h2 h3 h4)
 refine ⟨rowsY Y n.toNat n.toNat, by rw [rowsY_len, hnn], rowsY_XL (fun i j hi hj => (hY i j hi hj).1), ?_⟩
 intro P gl p r C hp hr
 exact gridAdj_fs C hp hr hn hn4 hyl (fun i j hi hj => (hY i j hi hj).2 gl)

end Tryz
end Go.Proofs
