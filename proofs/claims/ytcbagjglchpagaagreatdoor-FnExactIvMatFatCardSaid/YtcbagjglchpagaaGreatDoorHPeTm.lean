/- Lists of intervals among a row's arguments. -/
import Derived.Test.YtcbagjglchpagaaGreatDoorHPeTj
import Derived.Test.YtcbagjglchpagaaGreatDoorHEvD
set_option linter.unusedSimpArgs false
set_option linter.unusedVariables false
namespace Go.Pe
open Go Go.Dg Go.RowKit

theorem typed_ivs {P : Program} {n : Nat} {t e : TypeId} {c : List PV} (hu : P.underlying t = some (.slice e)) (hst : isSt P e = true)
    (hE : ∀ c, Typed P n e c → ∃ (s t : Bool) (l m : List Int) (x y : Int), c = [.val (.bool s), .lst (intsL l), .val (.int .i64 x), .val (.bool t), .lst (intsL m), .val (.int .i64 y)] ∧ l.length ≤ maxLen ∧ m.length ≤ maxLen) (h : Typed P (n + 1) t c) :
    ∃ vs : List Cell6, c = [.lst (cells6 vs)] ∧ vs.length ≤ maxLen ∧ ∀ v ∈ vs, v.1.2.1.length ≤ maxLen ∧ v.2.2.1.length ≤ maxLen := by
  unfold Typed at h; rw [hu] at h
  obtain ⟨cl, rfl, hl, hc⟩ := h
  have : ∃ vs : List Cell6, cl.map (mkEl P e) = cells6 vs ∧ vs.length = cl.length ∧ ∀ v ∈ vs, v.1.2.1.length ≤ maxLen ∧ v.2.2.1.length ≤ maxLen := by
    clear hl
    induction cl with
    | nil => exact ⟨[], rfl, rfl, fun y hy => by cases hy⟩
    | cons x r ih =>
      obtain ⟨l, h1, h2, h3⟩ := ih (fun c hc' => hc c (List.mem_cons_of_mem _ hc'))
      obtain ⟨s, t, d, f, m, k, hm, hd⟩ := hE x (hc x (by simp))
      refine ⟨((s, d, m), (t, f, k)) :: l, ?_, by simp [h2], fun y hy => ?_⟩
      · rw [List.map_cons, h1, hm]
        simp only [cells6, List.map_cons, cell6, mkEl, hst]
      · rcases List.mem_cons.1 hy with rfl | hy
        · exact hd
        · exact h3 y hy
  obtain ⟨vs, h1, h2, h3⟩ := this
  exact ⟨vs, by rw [h1], by omega, h3⟩

end Go.Pe
