/- The law FnExactIvMatMul at all arguments. -/
import Derived.Test.YtlkiofkkjbodjaaGreatDoorAW58
import Derived.Test.YtlkiofkkjbodjaaGreatDoorAQ58
namespace Go.Proofs
open Go Go.Pe Go.Dg
namespace Tryz
set_option linter.unusedSimpArgs false
set_option linter.unusedVariables false
variable {P : Program} {gl : List (Nat × Obj)}

theorem law_fs (C : Cx P gl) {l0 l1 : List Cell6} {p0 p1 : List PV} {n0 n1 : Int} (hp0 : p0 = cells6 l0) (hp1 : p1 = cells6 l1)
  (h0 : l0.length ≤ 9223372036854775807) (y0 : ∀ v ∈ l0, v.1.2.1.length ≤ 9223372036854775807 ∧ v.2.2.1.length ≤ 9223372036854775807) (h1 : l1.length ≤ 9223372036854775807) (y1 : ∀ v ∈ l1, v.1.2.1.length ≤ 9223372036854775807 ∧ v.2.2.1.length ≤ 9223372036854775807) :
  FS P gl 5 [.agg [I n0, .lst p0], .agg [I n1, .lst p1]] (· = B true) := by
 rcases Nat.lt_or_ge 1048576 (l0.length + tot6 l0 + l1.length + tot6 l1) with hbig | hbig
 ·exact lawL_fs C hp0 hp1 h0 h1 y0 y1 hbig
 have b0 : l0.length ≤ 2000000 := by omega
 have b1 : l1.length ≤ 2000000 := by omega
 have z0 : ∀ v ∈ l0, v.1.2.1.length ≤ 2000000 ∧ v.2.2.1.length ≤ 2000000 := fun v hv => by have := tot6_mem hv; unfold dig6 at this; omega
 have z1 : ∀ v ∈ l1, v.1.2.1.length ≤ 2000000 ∧ v.2.2.1.length ≤ 2000000 := fun v hv => by have := tot6_mem hv; unfold dig6 at this; omega
 by_cases hok : ivmOk n0 l0 ∧ ivmOk n1 l1 ∧ n0 = n1
 ·have hl16 := ivmLen hok.1.1 hok.1.2.1 hok.1.2.2.1
  by_cases hf : ∀ k, k < l0.length → fits ((ivmLo n0 l0 l1) k) ∧ fits ((ivmHi n0 l0 l1) k)
  ·have hw : true = true ↔ (ivmOk n0 l0 ∧ ivmOk n1 l1 ∧ n0 = n1) ∧ ∀ k, k < l0.length → fits ((ivmLo n0 l0 l1) k) ∧ fits ((ivmHi n0 l0 l1) k) := ⟨fun _ => ⟨hok, hf⟩, fun _ => rfl⟩
   refine law_o_fs C hp0 hp1 (u := n0) (w := true) (r := cells6 (canV (ivmLo n0 l0 l1) (ivmHi n0 l0 l1) l0.length)) rfl (by rw [canV_len]; omega) (fun y hy => ?_) hbig (fun P' C' => specIvMatMul_fs C' hp0 hp1 hw (fun _ => ⟨rfl, rfl⟩) (fun h => absurd h (by decide)) b0 z0 b1 z1) (fun P' C' => implIvMatMul_o_fn C' hp0 hp1 hok hf rfl b0 z0 b1 z1)
   obtain ⟨k, hk, rfl⟩ := List.mem_map.1 hy
   exact ⟨(hf k (List.mem_range.1 hk)).1.1, (hf k (List.mem_range.1 hk)).2.1⟩
  ·have hw : false = true ↔ (ivmOk n0 l0 ∧ ivmOk n1 l1 ∧ n0 = n1) ∧ ∀ k, k < l0.length → fits ((ivmLo n0 l0 l1) k) ∧ fits ((ivmHi n0 l0 l1) k) := ⟨fun h => absurd h (by decide), fun h => absurd h.2 hf⟩
   exact law_n_fs C hp0 hp1 (u := 0) (w := false) hbig (fun P' C' => specIvMatMul_fs C' hp0 hp1 hw (fun h => absurd h (by decide)) (fun _ => ⟨rfl, rfl⟩) b0 z0 b1 z1) (fun P' C' => implIvMatMul_X_fs C' hp0 hp1 hok hf b0 z0 b1 z1)
 ·have hw : false = true ↔ (ivmOk n0 l0 ∧ ivmOk n1 l1 ∧ n0 = n1) ∧ ∀ k, k < l0.length → fits ((ivmLo n0 l0 l1) k) ∧ fits ((ivmHi n0 l0 l1) k) := ⟨fun h => absurd h (by decide), fun h => absurd h.1 hok⟩
  exact law_n_fs C hp0 hp1 (u := 0) (w := false) hbig (fun P' C' => specIvMatMul_fs C' hp0 hp1 hw (fun h => absurd h (by decide)) (fun _ => ⟨rfl, rfl⟩) b0 z0 b1 z1) (fun P' C' => implIvMatMul_N_fs C' hp0 hp1 hok b0 z0 b1 z1)

end Tryz
end Go.Proofs
