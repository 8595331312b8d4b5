/- The law FnExactDyDiv at all arguments. -/
import Derived.Test.YtoadmidababheaaDoorQW4
import Derived.Test.YtoadmidababheaaDoorQN30
import Derived.Test.YtoadmidababheaaDoorQN35
namespace Go.Proofs
open Go Go.Pe Go.Dg
namespace Tryd
set_option linter.unusedSimpArgs false
set_option linter.unusedVariables false
variable {P : Program} {gl : List (Nat × Obj)}

theorem cells_zero {d : Dyadic} (h : d = 0) : cellsD d false [] 0 := by
  have hz : cZ d = 0 := by rw [h]; exact cZ_eq_zero.2 rfl
  exact ⟨by rw [hz]; rfl, by rw [hz, show Int.natAbs 0 = 0 from rfl, dg_zero], by rw [h]; rfl⟩

theorem law_fs (C : Cx P gl) {l0 l1 : List Int} {p0 p1 : List PV} {s0 s1 : Bool} {e0 e1 n2 n3 : Int} (hp0 : p0 = intsL l0) (hp1 : p1 = intsL l1)
    (h0 : l0.length ≤ 9223372036854775807) (h1 : l1.length ≤ 9223372036854775807) :
    FS P gl 4 [.agg [B s0, .lst p0, I e0], .agg [B s1, .lst p1, I e1], I n2, I n3] (· = B true) := by
  rcases Nat.lt_or_ge 1048576 (l0.length + l1.length) with hbig | hbig
  · exact lawL_fs C hp0 hp1 h0 h1 hbig
  have b0 : l0.length ≤ 2000000 := by omega
  have b1 : l1.length ≤ 2000000 := by omega
  obtain ⟨d, hd⟩ : ∃ d, d = divD (dval s0 l0 e0) (dval s1 l1 e1) n2 n3 := ⟨_, rfl⟩
  by_cases hok : okDiv s0 l0 e0 s1 l1 e1 n2 n3
  · by_cases hf : fits d
    · have hw : true = true ↔ okDiv s0 l0 e0 s1 l1 e1 n2 n3 ∧ fits d := ⟨fun _ => ⟨hok, hf⟩, fun _ => rfl⟩
      by_cases z : d = 0
      · exact law_n_fs C hp0 hp1 hbig (fun P' C' => specDyDiv_fs C' hp0 hp1 (show [] = intsL [] from rfl) hd hw (fun _ => cells_zero z) (fun h => absurd h (by decide)) b0 b1) (fun P' C' => implDyDiv_n_fs C' hp0 hp1 hok hd z b0 b1)
      · exact law_o_fs C hp0 hp1 rfl hf.1 hbig (fun P' C' => specDyDiv_fs C' hp0 hp1 rfl hd hw (fun _ => ⟨rfl, rfl, rfl⟩) (fun h => absurd h (by decide)) b0 b1) (fun P' C' => implDyDiv_o_fn C' hp0 hp1 hok hd hf z rfl rfl rfl b0 b1)
    · have hw : false = true ↔ okDiv s0 l0 e0 s1 l1 e1 n2 n3 ∧ fits d := ⟨fun h => absurd h (by decide), fun h => absurd h.2 hf⟩
      exact law_n_fs C hp0 hp1 hbig (fun P' C' => specDyDiv_fs C' hp0 hp1 (show [] = intsL [] from rfl) hd hw (fun h => absurd h (by decide)) (fun _ => ⟨rfl, rfl, rfl⟩) b0 b1) (fun P' C' => implDyDiv_X_fs C' hp0 hp1 hok hd hf b0 b1)
  · have hw : false = true ↔ okDiv s0 l0 e0 s1 l1 e1 n2 n3 ∧ fits d := ⟨fun h => absurd h (by decide), fun h => absurd h.1 hok⟩
    exact law_n_fs C hp0 hp1 hbig (fun P' C' => specDyDiv_fs C' hp0 hp1 (show [] = intsL [] from rfl) hd hw (fun h => absurd h (by decide)) (fun _ => ⟨rfl, rfl, rfl⟩) b0 b1) (fun P' C' => implDyDiv_N_fs C' hp0 hp1 hok b0 b1)

end Tryd
end Go.Proofs
