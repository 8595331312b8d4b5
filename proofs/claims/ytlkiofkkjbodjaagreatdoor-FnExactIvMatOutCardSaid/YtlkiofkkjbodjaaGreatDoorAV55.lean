/- The law FnExactIvMatOut at all arguments. -/
import Derived.Test.YtlkiofkkjbodjaaGreatDoorAW55
import Derived.Test.YtlkiofkkjbodjaaGreatDoorAQ55
namespace Go.Proofs
open Go Go.Pe Go.Dg
namespace Tryz
set_option linter.unusedSimpArgs false
set_option linter.unusedVariables false
variable {P : Program} {gl : List (Nat × Obj)}

theorem law_fs (C : Cx P gl) {l0 : List Cell6} {p0 : List PV} {n0 : Int} {n1 : Int} (hp0 : p0 = cells6 l0)
  (h0 : l0.length ≤ 9223372036854775807) (y0 : ∀ v ∈ l0, v.1.2.1.length ≤ 9223372036854775807 ∧ v.2.2.1.length ≤ 9223372036854775807) :
  FS P gl 3 [.agg [I n0, .lst p0], I n1] (· = B true) := by
 rcases Nat.lt_or_ge 1048576 (l0.length + tot6 l0) with hbig | hbig
 ·exact lawL_fs C hp0 h0 y0 hbig
 have b0 : l0.length ≤ 2000000 := by omega
 have z0 : ∀ v ∈ l0, v.1.2.1.length ≤ 2000000 ∧ v.2.2.1.length ≤ 2000000 := fun v hv => by have := tot6_mem hv; unfold dig6 at this; omega
 by_cases hok : ivmOk n0 l0 ∧ -200 ≤ n1 ∧ n1 ≤ 200
 ·have hl16 := ivmLen hok.1.1 hok.1.2.1 hok.1.2.2.1
  by_cases hf : ∀ k, k < l0.length → fits ((fun k => roundD (dvA l0 k) n1 3) k) ∧ fits ((fun k => roundD (dvB l0 k) n1 2) k)
  ·have hw : true = true ↔ (ivmOk n0 l0 ∧ -200 ≤ n1 ∧ n1 ≤ 200) ∧ ∀ k, k < l0.length → fits ((fun k => roundD (dvA l0 k) n1 3) k) ∧ fits ((fun k => roundD (dvB l0 k) n1 2) k) := ⟨fun _ => ⟨hok, hf⟩, fun _ => rfl⟩
   refine law_o_fs C hp0 (u := n0) (w := true) (r := cells6 (canV (fun k => roundD (dvA l0 k) n1 3) (fun k => roundD (dvB l0 k) n1 2) l0.length)) rfl (by rw [canV_len]; omega) (fun y hy => ?_) hbig (fun P' C' => specIvMatOut_fs C' hp0 hw (fun _ => ⟨rfl, rfl⟩) (fun h => absurd h (by decide)) b0 z0) (fun P' C' => implIvMatOut_o_fn C' hp0 hok hf rfl b0 z0)
   obtain ⟨k, hk, rfl⟩ := List.mem_map.1 hy
   exact ⟨(hf k (List.mem_range.1 hk)).1.1, (hf k (List.mem_range.1 hk)).2.1⟩
  ·have hw : false = true ↔ (ivmOk n0 l0 ∧ -200 ≤ n1 ∧ n1 ≤ 200) ∧ ∀ k, k < l0.length → fits ((fun k => roundD (dvA l0 k) n1 3) k) ∧ fits ((fun k => roundD (dvB l0 k) n1 2) k) := ⟨fun h => absurd h (by decide), fun h => absurd h.2 hf⟩
   exact law_n_fs C hp0 (u := 0) (w := false) hbig (fun P' C' => specIvMatOut_fs C' hp0 hw (fun h => absurd h (by decide)) (fun _ => ⟨rfl, rfl⟩) b0 z0) (fun P' C' => implIvMatOut_X_fs C' hp0 hok hf b0 z0)
 ·have hw : false = true ↔ (ivmOk n0 l0 ∧ -200 ≤ n1 ∧ n1 ≤ 200) ∧ ∀ k, k < l0.length → fits ((fun k => roundD (dvA l0 k) n1 3) k) ∧ fits ((fun k => roundD (dvB l0 k) n1 2) k) := ⟨fun h => absurd h (by decide), fun h => absurd h.1 hok⟩
  exact law_n_fs C hp0 (u := 0) (w := false) hbig (fun P' C' => specIvMatOut_fs C' hp0 hw (fun h => absurd h (by decide)) (fun _ => ⟨rfl, rfl⟩) b0 z0) (fun P' C' => implIvMatOut_N_fs C' hp0 hok b0 z0)

end Tryz
end Go.Proofs
