/- The law FnExactInverse at all arguments. -/
import Derived.Test.YtlkiofkkjbodjaaGreatDoorBW59
import Derived.Test.YtlkiofkkjbodjaaGreatDoorBP20
import Derived.Test.YtlkiofkkjbodjaaGreatDoorBP21
namespace Go.Proofs
open Go Go.Pe Go.Dg
namespace Tryz
set_option linter.unusedSimpArgs false
set_option linter.unusedVariables false
variable {P : Program} {gl : List (Nat × Obj)}

theorem aWA (C : Cx P gl) {l0 : List aC} {p0 : List PV} {n0 n1 : Int} (hp0 : p0 = aB l0)
  (h0 : l0.length ≤ 9223372036854775807) (y0 : ∀ y ∈ l0, y.2.1.length ≤ 9223372036854775807) :
  FS P gl 7 [.agg [I n0, .lst p0], I n1] (· = B true) := by
 rcases Nat.lt_or_ge 1048576 (l0.length + tot l0) with rB | rB
 ·exact aTN C hp0 h0 y0 rB
 have b0 : l0.length ≤ 2000000 := by omega
 have z0 : ∀ y ∈ l0, y.2.1.length ≤ 2000000 := fun y hy => Nat.le_trans (wZ hy) (by omega)
 by_cases hok : (gM n0 l0 ∧ -200 ≤ n1 ∧ n1 ≤ 200) ∧ cF n0.toNat (dvY l0) ≠ 0
 ·have bBE := vE hok.1.1.1 hok.1.1.2.1 hok.1.1.2.2.1
  by_cases hf : (∀ k, k < l0.length → fits ((dH n0.toNat (dvY l0) n1) k)) ∧ fits (dM n0 (dvY l0) n1)
  ·have hw : true = true ↔ ((gM n0 l0 ∧ -200 ≤ n1 ∧ n1 ≤ 200) ∧ cF n0.toNat (dvY l0) ≠ 0) ∧ (∀ k, k < l0.length → fits ((dH n0.toNat (dvY l0) n1) k)) ∧ fits (dM n0 (dvY l0) n1) := ⟨fun _ => ⟨hok, hf⟩, fun _ => rfl⟩
   have hoy : ∀ y ∈ cW (dH n0.toNat (dvY l0) n1) l0.length, y.2.1.length ≤ 100 := fun y hy => by
    obtain ⟨k, hk, rfl⟩ := List.mem_map.1 hy
    exact (hf.1 k (List.mem_range.1 hk)).1
   have hsp := fun (P' : Program) (C' : Cx P' gl) => kX C' (n' := n0) (r := aB (cW (dH n0.toNat (dvY l0) n1) l0.length)) (u := decide (cZ (dM n0 (dvY l0) n1) < 0)) (x := aA (dg (cZ (dM n0 (dvY l0) n1)).natAbs)) (o := dg (cZ (dM n0 (dvY l0) n1)).natAbs) (g := cE (dM n0 (dvY l0) n1)) hp0 rfl hw (fun _ => ⟨rfl, rfl, rfl, rfl, rfl⟩) (fun h => absurd h (by decide)) b0 z0
   by_cases hz : (dM n0 (dvY l0) n1) = 0
   ·refine aNJ C hp0 (u := n0) (v := false) (g := 0) (w := true) (r := aB (cW (dH n0.toNat (dvY l0) n1) l0.length)) rfl (by rw [bU]; omega) hoy rB (fun P' C' => ?_) (fun P' C' => vL C' hp0 hok.1 hok.2 hf.1 hz rfl b0 z0)
    have h := hsp P' C'
    rw [hz, dT, show Int.natAbs 0 = 0 from rfl, aO] at h
    exact h
   ·exact aNK C hp0 (u := n0) (w := true) (r := aB (cW (dH n0.toNat (dvY l0) n1) l0.length)) rfl (by rw [bU]; omega) hoy rfl hf.2.1 rB hsp (fun P' C' => vK C' hp0 hok.1 hok.2 hf.1 hf.2 hz rfl rfl rfl rfl b0 z0)
  ·have hw : false = true ↔ ((gM n0 l0 ∧ -200 ≤ n1 ∧ n1 ≤ 200) ∧ cF n0.toNat (dvY l0) ≠ 0) ∧ (∀ k, k < l0.length → fits ((dH n0.toNat (dvY l0) n1) k)) ∧ fits (dM n0 (dvY l0) n1) := ⟨fun h => absurd h (by decide), fun h => absurd h.2 hf⟩
   exact aCN C hp0 (u := 0) (v := false) (g := 0) (w := false) rB (fun P' C' => kX C' (n' := 0) (r := []) (u := false) (x := []) (o := []) (g := 0) hp0 rfl hw (fun h => absurd h (by decide)) (fun _ => ⟨rfl, rfl, rfl, rfl, rfl⟩) b0 z0) (fun P' C' => vM C' hp0 hok.1 hok.2 hf b0 z0)
 ·have hw : false = true ↔ ((gM n0 l0 ∧ -200 ≤ n1 ∧ n1 ≤ 200) ∧ cF n0.toNat (dvY l0) ≠ 0) ∧ (∀ k, k < l0.length → fits ((dH n0.toNat (dvY l0) n1) k)) ∧ fits (dM n0 (dvY l0) n1) := ⟨fun h => absurd h (by decide), fun h => absurd h.1 hok⟩
  refine aCN C hp0 (u := 0) (v := false) (g := 0) (w := false) rB (fun P' C' => kX C' (n' := 0) (r := []) (u := false) (x := []) (o := []) (g := 0) hp0 rfl hw (fun h => absurd h (by decide)) (fun _ => ⟨rfl, rfl, rfl, rfl, rfl⟩) b0 z0) (fun P' C' => ?_)
  by_cases hs : gM n0 l0 ∧ -200 ≤ n1 ∧ n1 ≤ 200
  ·by_cases hd : cF n0.toNat (dvY l0) = 0
   ·exact vN C' hp0 hs hd b0 z0
   ·exact absurd ⟨hs, hd⟩ hok
  ·exact vO C' hp0 hs b0 z0

end Tryz
end Go.Proofs
