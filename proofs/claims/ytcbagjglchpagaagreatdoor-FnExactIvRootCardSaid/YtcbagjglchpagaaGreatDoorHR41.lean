/- Proved: at every argument the law laws.FnExactIvRoot returns true, and its arguments read as they did; the tables of math/bits are tied to the program's text by the card; no further condition. -/
import Derived.Test.YtcbagjglchpagaaGreatDoorHW41
import Derived.Test.YtcbagjglchpagaaGreatDoorHN4R
import Derived.Test.YtcbagjglchpagaaGreatDoorHR0
import Derived.Test.YtcbagjglchpagaaGreatDoorHEvD
import Derived.SevenTiedAt
import Derived.Test.YtcbagjglchpagaaGreatDoorCards
import Derived.Test.YtcbagjglchpagaaGreatDoorTie
namespace Go.Proofs
open Go Go.Pe Go.Dg
namespace Tryz
set_option linter.unusedSimpArgs false
set_option linter.unusedVariables false
variable {P : Program} {gl : List (Nat × Obj)}

theorem cells_zero {d : Dyadic} (h : d = 0) : cellsD d false [] 0 := by
  have hz : cZ d = 0 := by rw [h]; exact cZ_eq_zero.2 rfl
  exact ⟨by rw [hz]; rfl, by rw [hz, show Int.natAbs 0 = 0 from rfl, dg_zero], by rw [h]; rfl⟩

theorem law_fs (C : Cx P gl) {l0 m0 : List Int} {p0 q0 : List PV} {s0 t0 : Bool} {e0 f0 n1 : Int} (hp0 : p0 = intsL l0) (hq0 : q0 = intsL m0)
    (h0 : l0.length ≤ 9223372036854775807) (h1 : m0.length ≤ 9223372036854775807) :
    FS P gl 4 [.agg [B s0, .lst p0, I e0, B t0, .lst q0, I f0], I n1] (· = B true) := by
  rcases Nat.lt_or_ge 1048576 (l0.length + m0.length) with hbig | hbig
  · exact lawL_fs C hp0 hq0 h0 h1 hbig
  have b0 : l0.length ≤ 2000000 := by omega
  have b1 : m0.length ≤ 2000000 := by omega
  obtain ⟨d1, hd1⟩ : ∃ d, d = rootD (dval s0 l0 e0) n1 3 := ⟨_, rfl⟩
  obtain ⟨d2, hd2⟩ : ∃ d, d = rootD (dval t0 m0 f0) n1 2 := ⟨_, rfl⟩
  by_cases hok : ivOk s0 l0 e0 t0 m0 f0 ∧ (-200 ≤ n1 ∧ n1 ≤ 200) ∧ s0 = false
  · by_cases hf : fits d1 ∧ fits d2
    · have hw : true = true ↔ (ivOk s0 l0 e0 t0 m0 f0 ∧ (-200 ≤ n1 ∧ n1 ≤ 200) ∧ s0 = false) ∧ fits d1 ∧ fits d2 := ⟨fun _ => ⟨hok, hf⟩, fun _ => rfl⟩
      by_cases z1 : d1 = 0
      · by_cases z2 : d2 = 0
        · exact law_nn_fs C hp0 hq0  hbig (fun P' C' => specIvRoot_fs C' hp0 hq0 (show [] = intsL [] from rfl) (show [] = intsL [] from rfl) hd1 hd2 hw (fun _ => ⟨cells_zero z1, cells_zero z2⟩) (fun h => absurd h (by decide)) b0 b1) (fun P' C' => implIvRoot_nn_fs C' hp0 hq0 hok hd1 hd2 z1 z2 b0 b1)
        · exact law_no_fs C hp0 hq0 rfl hf.2.1 hbig (fun P' C' => specIvRoot_fs C' hp0 hq0 (show [] = intsL [] from rfl) rfl hd1 hd2 hw (fun _ => ⟨cells_zero z1, ⟨rfl, rfl, rfl⟩⟩) (fun h => absurd h (by decide)) b0 b1) (fun P' C' => implIvRoot_no_fn C' hp0 hq0 hok hd1 hd2 z1 hf.2 z2 rfl rfl rfl b0 b1)
      · by_cases z2 : d2 = 0
        · exact law_on_fs C hp0 hq0 rfl hf.1.1 hbig (fun P' C' => specIvRoot_fs C' hp0 hq0 rfl (show [] = intsL [] from rfl) hd1 hd2 hw (fun _ => ⟨⟨rfl, rfl, rfl⟩, cells_zero z2⟩) (fun h => absurd h (by decide)) b0 b1) (fun P' C' => implIvRoot_on_fn C' hp0 hq0 hok hd1 hd2 hf.1 z1 rfl rfl rfl z2 b0 b1)
        · exact law_oo_fs C hp0 hq0 rfl hf.1.1 rfl hf.2.1 hbig (fun P' C' => specIvRoot_fs C' hp0 hq0 rfl rfl hd1 hd2 hw (fun _ => ⟨⟨rfl, rfl, rfl⟩, ⟨rfl, rfl, rfl⟩⟩) (fun h => absurd h (by decide)) b0 b1) (fun P' C' => implIvRoot_oo_fn C' hp0 hq0 hok hd1 hd2 hf.1 z1 rfl rfl rfl hf.2 z2 rfl rfl rfl b0 b1)
    · have hw : false = true ↔ (ivOk s0 l0 e0 t0 m0 f0 ∧ (-200 ≤ n1 ∧ n1 ≤ 200) ∧ s0 = false) ∧ fits d1 ∧ fits d2 := ⟨fun h => absurd h (by decide), fun h => absurd h.2 hf⟩
      exact law_nn_fs C hp0 hq0 hbig (fun P' C' => specIvRoot_fs C' hp0 hq0 (show [] = intsL [] from rfl) (show [] = intsL [] from rfl) hd1 hd2 hw (fun h => absurd h (by decide)) (fun _ => ⟨⟨rfl, rfl, rfl⟩, rfl, rfl, rfl⟩) b0 b1) (fun P' C' => implIvRoot_X_fs C' hp0 hq0 hok hd1 hd2 hf b0 b1)
  · have hw : false = true ↔ (ivOk s0 l0 e0 t0 m0 f0 ∧ (-200 ≤ n1 ∧ n1 ≤ 200) ∧ s0 = false) ∧ fits d1 ∧ fits d2 := ⟨fun h => absurd h (by decide), fun h => absurd h.1 hok⟩
    exact law_nn_fs C hp0 hq0 hbig (fun P' C' => specIvRoot_fs C' hp0 hq0 (show [] = intsL [] from rfl) (show [] = intsL [] from rfl) hd1 hd2 hw (fun h => absurd h (by decide)) (fun _ => ⟨⟨rfl, rfl, rfl⟩, rfl, rfl, rfl⟩) b0 b1) (fun P' C' => implIvRoot_N_fs C' hp0 hq0 hok b0 b1)

end Tryz
end Go.Proofs

set_option linter.unusedSimpArgs false
set_option linter.unusedVariables false
namespace Go.Proofs.YtcbagjglchpagaaGreatDoor.fnExactIvRoot
open Go Go.Pe Go.Dg Go.ChangeShapes Go.WideShapes Go.ChangeAt Go.RowKit
set_option linter.unusedVariables false
set_option maxRecDepth 100000

theorem shape_int {c : List PV} (h : Typed Tryz.prog 6 3 c) : ∃ (n : Int), c = [.val (.int .i64 n)] ∧ (Lit.int .i64 n).wf = true := by
  exact typed_int Tryz.underlying3 h

theorem shape_iv {c : List PV} (h : Typed Tryz.prog 6 30 c) : ∃ (s t : Bool) (l m : List Int) (e f : Int), c = [.val (.bool s), .lst (intsL l), .val (.int .i64 e), .val (.bool t), .lst (intsL m), .val (.int .i64 f)] ∧ l.length ≤ maxLen ∧ m.length ≤ maxLen := by
  have dy : ∀ {c : List PV}, Typed Tryz.prog 5 28 c → ∃ (s : Bool) (l : List Int) (e : Int), c = [.val (.bool s), .lst (intsL l), .val (.int .i64 e)] ∧ l.length ≤ maxLen := by
    intro c h
    obtain ⟨p, q, h1, h2, rfl⟩ := typed_st2 Tryz.underlying28 h
    obtain ⟨e, rfl, _⟩ := typed_int Tryz.underlying3 h2
    obtain ⟨p1, p2, h3, h4, rfl⟩ := typed_st2 Tryz.underlying26 h1
    obtain ⟨s, rfl⟩ := typed_bool Tryz.underlying4 h3
    obtain ⟨l, rfl, hl⟩ := typed_ints Tryz.underlying22 Tryz.underlying3 (typed_st1 Tryz.underlying24 h4)
    exact ⟨s, l, e, rfl, hl⟩
  obtain ⟨p, q, h1, h2, rfl⟩ := typed_st2 Tryz.underlying30 h
  obtain ⟨s, l, e, rfl, hl⟩ := dy h1
  obtain ⟨t, m, f, rfl, hm⟩ := dy h2
  exact ⟨s, t, l, m, e, f, rfl, hl, hm⟩

theorem lifted (os : Os) (started : os.Started) (H : Type) (enc : TypeId × Value → H) :
    ReturnsInHanded {} Tryz.checked os 4 .any (fun w args => (Rows.fnExactIvRootSpec.pre enc Tryz.prog Tryz.f4 [] false w args ∧ laidMetH Tryz.prog laidB w) ∧ sizedMet enc Tryz.prog Tryz.f4 (OpenSpec.ofChange Rows.fnExactIvRootSpec) false w args)
      (Rows.fnExactIvRootSpec.post enc Tryz.prog Tryz.f4 false true false false) := by
  refine returnsInHanded_of_change_and (C := Tryz.checked) (X := fun w _ => laidMetH Tryz.prog laidB w) (fun _ _ _ hh h => h.of_heap hh) own started (by kernel_rfl) Tryz.func4
    (ChangeSpec.witness_shaped (enc := enc) (C := Tryz.checked) (os := os) (X := fun w _ => laidMetH Tryz.prog laidB w) false (World.doorLaid Tryz.prog 400 os) #[.agg #[.bool false, .slice none 0 0, .int .i64 0, .bool false, .slice none 0 0, .int .i64 0], .int .i64 0] 8 rfl (World.shaped_of_RefB (by kernel_rfl) (by kernel_rfl)) (by kernel_rfl) (by kernel_rfl) (by kernel_rfl) (door_met os _)) ?_
  intro W base args ds gs before hval0 hW _ _ hL _
  have hval : ∀ (j : Nat) t v, Tryz.f4.params[j]? = some t → args[j]? = some v → Value.okWide Tryz.prog W .any base t v := hval0
  have hW' := hW
  obtain ⟨p, q, hA0, hV, rfl, hfz, hnd⟩ := hW
  have hA : DataW.TrodAll enc Tryz.prog W 0 (fun _ => true) true Tryz.f4.params.toList args.toList ds p := hA0
  have hA1 := hA
  rw [Tryz.params4] at hA hval
  obtain ⟨v0, vs0, d0, ds0, pl0, ql0, hargs0, rfl, hpl0, h0, r0⟩ := trodAll_cons hA
  obtain ⟨v1, vs1, d1, ds1, pl1, ql1, hargs1, rfl, hpl1, h1, r1⟩ := trodAll_cons r0
  obtain ⟨hvn, rfl, hpn⟩ := trodAll_nil r1
  obtain rfl : args = #[v0, v1] := by
    cases args
    simp_all
  obtain ⟨rfl, rfl⟩ := trodVars_none hV
  obtain ⟨c0, hty0, hrep0⟩ := rep_arg kids (m := 6) (show 30 < Tryz.prog.types.size by decide +kernel) (by kernel_rfl) (hval 0 30 v0 rfl rfl) h0
  obtain ⟨s0, t0, l0, m0, e0, f0, rfl, hl0, hm0⟩ := shape_iv hty0
  obtain ⟨c1, hty1, hrep1⟩ := rep_arg kids (m := 6) (show 3 < Tryz.prog.types.size by decide +kernel) (by kernel_rfl) (hval 1 3 v1 rfl rfl) h1
  obtain ⟨n1, rfl, hw1⟩ := shape_int hty1
  obtain ⟨gl, htab, hgl⟩ := of_laid hL
  have hlaw := Tryz.law_fs (P := Tryz.prog) (gl := gl) ⟨rfl, htab⟩ (l0 := l0) (m0 := m0) (e0 := e0) (f0 := f0) (s0 := s0) (t0 := t0) (n1 := n1) rfl rfl hl0 hm0
  refine (law_calls hlaw W hgl (vs := #[v0, v1]) rfl (fun j hj => ?_)).mono fun e W' ⟨he, hg⟩ => ?_
  · simp only [List.length_cons, List.length_nil] at hj
    rcases (by omega : j = 0 ∨ j = 1) with rfl | rfl
    · have : isSt Tryz.prog 30 = true := by unfold isSt; rw [Tryz.underlying30]
      simpa [mkEl, this] using hrep0
    · have : isSt Tryz.prog 3 = false := by unfold isSt; rw [Tryz.underlying3]
      simpa [mkEl, this] using hrep1
  subst he
  exact ⟨_, rfl, _, _, _, [], p, [], hW', trodAll_mk1 (shut_bool Tryz.underlying4 _), args_again kids full (fun t ht => by
    rw [Tryz.params4] at ht
    have hall : ([30, 3].all fun u => decide (u < Tryz.prog.types.size)) = true := by decide +kernel
    exact of_decide_eq_true (List.all_eq_true.1 hall t (by simpa using ht))) hA1 hg, rfl, hg.frame _, fun h => by cases h⟩

set_option maxHeartbeats 4000000 in
theorem holds : Rows.FnExactIvRootSaid :=
  OpenClaim.holds_of_wide 4 Tryz.f4 rfl rfl rfl rfl rfl rfl rfl ⟨rfl, rfl, rfl, rfl, rfl⟩ rfl rfl rfl rfl rfl (by kernel_rfl) Tryz.func4 (by kernel_rfl)
    (of_decide_eq_true (by kernel_rfl)) (by unfold Func.isWrapper; first | (rw [if_pos (by decide +kernel)]; kernel_rfl) | (rw [if_neg (by decide +kernel)]; exact ⟨rfl, rfl⟩))
    (fun os started H enc _ => lifted os started H enc)

set_option maxHeartbeats 4000000 in
/-- the statement: the tied card -/
theorem proved : Rows.FnExactIvRootCardSaid :=
  Claim7.holds_tied_plain_at .later [] [.data, .data] true (true, "3d24d19e9bd522905fe63cd2129214d3dfb47e503a59817ab88313e2c9feb590") false
    holds (fun _ h => by cases h) (by kernel_rfl) (fun _ h => by cases h) fnExactIvRoot_row_tie rfl ⟨rfl, rfl⟩ (by kernel_rfl) rfl
    (fun f fn hf hfn => by
      obtain rfl : f = 4 := Option.some.inj ((show Tryz.prog.funcNamed "loop.example/g00382/laws.FnExactIvRoot" = some 4 by kernel_rfl).symm.trans hf) |>.symm
      obtain rfl : fn = Tryz.f4 := (Option.some.inj (Tryz.func4.symm.trans hfn)).symm
      exact ⟨by kernel_rfl, fun j t ht => by
        rw [Tryz.params4] at ht
        have hm : t ∈ [30, 3] := by simpa using Array.mem_of_getElem? ht
        have hall : ([30, 3].all fun u => !Tryz.prog.wantsStandIn u) = true := by kernel_rfl
        exact (show Tryz.prog.wantsStandIn t = false by simpa using List.all_eq_true.1 hall t hm)⟩)
    (by kernel_rfl)
#print axioms proved
end Go.Proofs.YtcbagjglchpagaaGreatDoor.fnExactIvRoot

