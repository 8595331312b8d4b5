/- The law FnExactIvSub at every pair of intervals. -/
import Derived.Test.YtoadmidababheaaGreatDoorW3
import Derived.Test.YtoadmidababheaaGreatDoorN28
namespace Go.Proofs
open Go Go.Pe Go.Dg
namespace Tryz
set_option linter.unusedSimpArgs false
set_option linter.unusedVariables false
variable {P : Program} {gl : List (Nat × Obj)}

theorem cells_zero {d : Dyadic} (h : d = 0) : cellsD d false [] 0 := by
  have hz : cZ d = 0 := by rw [h]; exact cZ_eq_zero.2 rfl
  exact ⟨by rw [hz]; rfl, by rw [hz, show Int.natAbs 0 = 0 from rfl, dg_zero], by rw [h]; rfl⟩

theorem law_fs (C : Cx P gl) {l0 m0 l1 m1 : List Int} {p0 q0 p1 q1 : List PV} {s0 t0 s1 t1 : Bool} {e0 f0 e1 f1 : Int} (hp0 : p0 = intsL l0) (hq0 : q0 = intsL m0) (hp1 : p1 = intsL l1) (hq1 : q1 = intsL m1)
    (h0 : l0.length ≤ 9223372036854775807) (h1 : m0.length ≤ 9223372036854775807) (h2 : l1.length ≤ 9223372036854775807) (h3 : m1.length ≤ 9223372036854775807) :
    FS P gl 4 [.agg [B s0, .lst p0, I e0, B t0, .lst q0, I f0], .agg [B s1, .lst p1, I e1, B t1, .lst q1, I f1]] (· = B true) := by
  rcases Nat.lt_or_ge 1048576 (l0.length + m0.length + l1.length + m1.length) with hbig | hbig
  · exact lawL_fs C hp0 hq0 hp1 hq1 h0 h1 h2 h3 hbig
  have b0 : l0.length ≤ 2000000 := by omega
  have b1 : m0.length ≤ 2000000 := by omega
  have b2 : l1.length ≤ 2000000 := by omega
  have b3 : m1.length ≤ 2000000 := by omega
  obtain ⟨d1, hd1⟩ : ∃ d, d = dval s0 l0 e0 - dval t1 m1 f1 := ⟨_, rfl⟩
  obtain ⟨d2, hd2⟩ : ∃ d, d = dval t0 m0 f0 - dval s1 l1 e1 := ⟨_, rfl⟩
  by_cases hok : ivOk s0 l0 e0 t0 m0 f0 ∧ ivOk s1 l1 e1 t1 m1 f1
  · by_cases hf : fits d1 ∧ fits d2
    · have hw : true = true ↔ (ivOk s0 l0 e0 t0 m0 f0 ∧ ivOk s1 l1 e1 t1 m1 f1) ∧ fits d1 ∧ fits d2 := ⟨fun _ => ⟨hok, hf⟩, fun _ => rfl⟩
      by_cases z1 : d1 = 0
      · by_cases z2 : d2 = 0
        · exact law_nn_fs C hp0 hq0 hp1 hq1 hbig (fun P' C' => specIvSub_fs C' hp0 hq0 hp1 hq1 (show [] = intsL [] from rfl) (show [] = intsL [] from rfl) hd1 hd2 hw (fun _ => ⟨cells_zero z1, cells_zero z2⟩) (fun h => absurd h (by decide)) b0 b1 b2 b3) (fun P' C' => implIvSub_nn_fs C' hp0 hq0 hp1 hq1 hok.1 hok.2 hd1 hd2 z1 z2 b0 b1 b2 b3)
        · exact law_no_fs C hp0 hq0 hp1 hq1 rfl hf.2.1 hbig (fun P' C' => specIvSub_fs C' hp0 hq0 hp1 hq1 (show [] = intsL [] from rfl) rfl hd1 hd2 hw (fun _ => ⟨cells_zero z1, rfl, rfl, rfl⟩) (fun h => absurd h (by decide)) b0 b1 b2 b3) (fun P' C' => implIvSub_no_fn C' hp0 hq0 hp1 hq1 hok.1 hok.2 hd1 hd2 z1 hf.2 z2 rfl rfl rfl b0 b1 b2 b3)
      · by_cases z2 : d2 = 0
        · exact law_on_fs C hp0 hq0 hp1 hq1 rfl hf.1.1 hbig (fun P' C' => specIvSub_fs C' hp0 hq0 hp1 hq1 rfl (show [] = intsL [] from rfl) hd1 hd2 hw (fun _ => ⟨⟨rfl, rfl, rfl⟩, cells_zero z2⟩) (fun h => absurd h (by decide)) b0 b1 b2 b3) (fun P' C' => implIvSub_on_fn C' hp0 hq0 hp1 hq1 hok.1 hok.2 hd1 hd2 hf.1 z1 rfl rfl rfl z2 b0 b1 b2 b3)
        · exact law_oo_fs C hp0 hq0 hp1 hq1 rfl hf.1.1 rfl hf.2.1 hbig (fun P' C' => specIvSub_fs C' hp0 hq0 hp1 hq1 rfl rfl hd1 hd2 hw (fun _ => ⟨⟨rfl, rfl, rfl⟩, rfl, rfl, rfl⟩) (fun h => absurd h (by decide)) b0 b1 b2 b3) (fun P' C' => implIvSub_oo_fn C' hp0 hq0 hp1 hq1 hok.1 hok.2 hd1 hd2 hf.1 z1 rfl rfl rfl hf.2 z2 rfl rfl rfl b0 b1 b2 b3)
    · have hw : false = true ↔ (ivOk s0 l0 e0 t0 m0 f0 ∧ ivOk s1 l1 e1 t1 m1 f1) ∧ fits d1 ∧ fits d2 := ⟨fun h => absurd h (by decide), fun h => absurd h.2 hf⟩
      exact law_nn_fs C hp0 hq0 hp1 hq1 hbig (fun P' C' => specIvSub_fs C' hp0 hq0 hp1 hq1 (show [] = intsL [] from rfl) (show [] = intsL [] from rfl) hd1 hd2 hw (fun h => absurd h (by decide)) (fun _ => ⟨⟨rfl, rfl, rfl⟩, rfl, rfl, rfl⟩) b0 b1 b2 b3) (fun P' C' => implIvSub_X_fs C' hp0 hq0 hp1 hq1 hok.1 hok.2 hd1 hd2 hf b0 b1 b2 b3)
  · have hw : false = true ↔ (ivOk s0 l0 e0 t0 m0 f0 ∧ ivOk s1 l1 e1 t1 m1 f1) ∧ fits d1 ∧ fits d2 := ⟨fun h => absurd h (by decide), fun h => absurd h.1 hok⟩
    exact law_nn_fs C hp0 hq0 hp1 hq1 hbig (fun P' C' => specIvSub_fs C' hp0 hq0 hp1 hq1 (show [] = intsL [] from rfl) (show [] = intsL [] from rfl) hd1 hd2 hw (fun h => absurd h (by decide)) (fun _ => ⟨⟨rfl, rfl, rfl⟩, rfl, rfl, rfl⟩) b0 b1 b2 b3) (fun P' C' => implIvSub_N_fs C' hp0 hq0 hp1 hq1 hok b0 b1 b2 b3)

end Tryz
end Go.Proofs
