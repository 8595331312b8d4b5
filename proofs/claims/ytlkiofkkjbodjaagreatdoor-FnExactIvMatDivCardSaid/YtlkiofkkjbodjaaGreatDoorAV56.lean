/- The law FnExactIvMatDiv at all arguments. -/
import Derived.Test.YtlkiofkkjbodjaaGreatDoorAW56
import Derived.Test.YtlkiofkkjbodjaaGreatDoorAQ56
namespace Go.Proofs
open Go Go.Pe Go.Dg
namespace Tryz
set_option linter.unusedSimpArgs false
set_option linter.unusedVariables false
variable {P : Program} {gl : List (Nat × Obj)}

theorem law_fs (C : Cx P gl) {l0 : List Cell6} {p0 : List PV} {n0 : Int} {n1 n2 : Int} (hp0 : p0 = cells6 l0)
  (h0 : l0.length ≤ 9223372036854775807) (y0 : ∀ v ∈ l0, v.1.2.1.length ≤ 9223372036854775807 ∧ v.2.2.1.length ≤ 9223372036854775807) :
  FS P gl 4 [.agg [I n0, .lst p0], I n1, I n2] (· = B true) := by
 rcases Nat.lt_or_ge 1048576 (l0.length + tot6 l0) with hbig | hbig
 ·exact lawL_fs C hp0 h0 y0 hbig
 have b0 : l0.length ≤ 2000000 := by omega
 have z0 : ∀ v ∈ l0, v.1.2.1.length ≤ 2000000 ∧ v.2.2.1.length ≤ 2000000 := fun v hv => by have := tot6_mem hv; unfold dig6 at this; omega
 by_cases hok : ivmOk n0 l0 ∧ (1 ≤ n1 ∧ n1 ≤ 1000000) ∧ -200 ≤ n2 ∧ n2 ≤ 200
 ·have hl16 := ivmLen hok.1.1 hok.1.2.1 hok.1.2.2.1
  by_cases hf : ∀ k, k < l0.length → fits ((fun k => divD (dvA l0 k) (mk n1 0) n2 3) k) ∧ fits ((fun k => divD (dvB l0 k) (mk n1 0) n2 2) k)
  ·have hw : true = true ↔ (ivmOk n0 l0 ∧ (1 ≤ n1 ∧ n1 ≤ 1000000) ∧ -200 ≤ n2 ∧ n2 ≤ 200) ∧ ∀ k, k < l0.length → fits ((fun k => divD (dvA l0 k) (mk n1 0) n2 3) k) ∧ fits ((fun k => divD (dvB l0 k) (mk n1 0) n2 2) k) := ⟨fun _ => ⟨hok, hf⟩, fun _ => rfl⟩
   refine law_o_fs C hp0 (u := n0) (w := true) (r := cells6 (canV (fun k => divD (dvA l0 k) (mk n1 0) n2 3) (fun k => divD (dvB l0 k) (mk n1 0) n2 2) l0.length)) rfl (by rw [canV_len]; omega) (fun y hy => ?_) hbig (fun P' C' => specIvMatDiv_fs C' hp0 hw (fun _ => ⟨rfl, rfl⟩) (fun h => absurd h (by decide)) b0 z0) (fun P' C' => implIvMatDiv_o_fn C' hp0 hok hf rfl b0 z0)
   obtain ⟨k, hk, rfl⟩ := List.mem_map.1 hy
   exact ⟨(hf k (List.mem_range.1 hk)).1.1, (hf k (List.mem_range.1 hk)).2.1⟩
  ·have hw : false = true ↔ (ivmOk n0 l0 ∧ (1 ≤ n1 ∧ n1 ≤ 1000000) ∧ -200 ≤ n2 ∧ n2 ≤ 200) ∧ ∀ k, k < l0.length → fits ((fun k => divD (dvA l0 k) (mk n1 0) n2 3) k) ∧ fits ((fun k => divD (dvB l0 k) (mk n1 0) n2 2) k) := ⟨fun h => absurd h (by decide), fun h => absurd h.2 hf⟩
   exact law_n_fs C hp0 (u := 0) (w := false) hbig (fun P' C' => specIvMatDiv_fs C' hp0 hw (fun h => absurd h (by decide)) (fun _ => ⟨rfl, rfl⟩) b0 z0) (fun P' C' => implIvMatDiv_X_fs C' hp0 hok hf b0 z0)
 ·have hw : false = true ↔ (ivmOk n0 l0 ∧ (1 ≤ n1 ∧ n1 ≤ 1000000) ∧ -200 ≤ n2 ∧ n2 ≤ 200) ∧ ∀ k, k < l0.length → fits ((fun k => divD (dvA l0 k) (mk n1 0) n2 3) k) ∧ fits ((fun k => divD (dvB l0 k) (mk n1 0) n2 2) k) := ⟨fun h => absurd h (by decide), fun h => absurd h.1 hok⟩
  exact law_n_fs C hp0 (u := 0) (w := false) hbig (fun P' C' => specIvMatDiv_fs C' hp0 hw (fun h => absurd h (by decide)) (fun _ => ⟨rfl, rfl⟩) b0 z0) (fun P' C' => implIvMatDiv_N_fs C' hp0 hok b0 z0)

end Tryz
end Go.Proofs
