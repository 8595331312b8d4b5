/- The law FnExactMatTrace at all arguments. -/
import Derived.Test.YthmkdfmapdbenaaDoorTW13
import Derived.Test.YthmkdfmapdbenaaDoorTM22T
namespace Go.Proofs
open Go Go.Pe Go.Dg
namespace Tryd
set_option linter.unusedSimpArgs false
set_option linter.unusedVariables false
variable {P : Program} {gl : List (Nat × Obj)}

theorem cells_nought {d : Dyadic} (h : d = 0) : cellsD d false [] 0 := by
  have hz : cZ d = 0 := by rw [h]; exact cZ_eq_zero.2 rfl
  exact ⟨by rw [hz]; rfl, by rw [hz, show Int.natAbs 0 = 0 from rfl, dg_zero], by rw [h]; rfl⟩

theorem law_fs (C : Cx P gl) {l0 : List Cell3} {p0 : List PV} {n0 : Int} (hp0 : p0 = cells3 l0)
    (h0 : l0.length ≤ 9223372036854775807) (y0 : ∀ y ∈ l0, y.2.1.length ≤ 9223372036854775807) :
    FS P gl 3 [.agg [I n0, .lst p0]] (· = B true) := by
  rcases Nat.lt_or_ge 1048576 (l0.length + tot l0) with hbig | hbig
  · exact lawL_fs C hp0 h0 y0 hbig
  have b0 : l0.length ≤ 2000000 := by omega
  have z0 : ∀ y ∈ l0, y.2.1.length ≤ 2000000 := fun y hy => Nat.le_trans (tot_mem hy) (by omega)
  obtain ⟨d, hd⟩ : ∃ d, d = traceD n0.toNat (dvY l0) := ⟨_, rfl⟩
  by_cases hok : matOk n0 l0
  · by_cases hf : fits d
    · have hw : true = true ↔ matOk n0 l0 ∧ fits d := ⟨fun _ => ⟨hok, hf⟩, fun _ => rfl⟩
      by_cases z : d = 0
      · exact law_n_fs C hp0 hbig (fun P' C' => specMatTrace_fs C' hp0 (show [] = intsL [] from rfl) hd hw (fun _ => cells_nought z) (fun h => absurd h (by decide)) b0 z0) (fun P' C' => implMatTrace_n_fs C' hp0 hok hd z b0 z0)
      · exact law_o_fs C hp0 rfl hf.1 hbig (fun P' C' => specMatTrace_fs C' hp0 rfl hd hw (fun _ => ⟨rfl, rfl, rfl⟩) (fun h => absurd h (by decide)) b0 z0) (fun P' C' => implMatTrace_o_fn C' hp0 hok hd hf z rfl rfl rfl b0 z0)
    · have hw : false = true ↔ matOk n0 l0 ∧ fits d := ⟨fun h => absurd h (by decide), fun h => absurd h.2 hf⟩
      exact law_n_fs C hp0 hbig (fun P' C' => specMatTrace_fs C' hp0 (show [] = intsL [] from rfl) hd hw (fun h => absurd h (by decide)) (fun _ => ⟨rfl, rfl, rfl⟩) b0 z0) (fun P' C' => implMatTrace_X_fs C' hp0 hok hd hf b0 z0)
  · have hw : false = true ↔ matOk n0 l0 ∧ fits d := ⟨fun h => absurd h (by decide), fun h => absurd h.1 hok⟩
    exact law_n_fs C hp0 hbig (fun P' C' => specMatTrace_fs C' hp0 (show [] = intsL [] from rfl) hd hw (fun h => absurd h (by decide)) (fun _ => ⟨rfl, rfl, rfl⟩) b0 z0) (fun P' C' => implMatTrace_N_fs C' hp0 hok b0 z0)

end Tryd
end Go.Proofs
