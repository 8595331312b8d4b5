/- Proved: at every argument the law laws.FnExactDyRoot returns true, and its arguments read as they did; the tables of math/bits are tied to the program's text by the card; no further condition. -/
import Derived.Test.YtcbagjglchpagaaDoorHW45
import Derived.Test.YtcbagjglchpagaaDoorHN45
import Derived.Test.YtcbagjglchpagaaDoorHR0
import Derived.Test.YtcbagjglchpagaaDoorHEvD
import Derived.SevenTiedAt
import Derived.Test.YtcbagjglchpagaaDoorCards
import Derived.Test.YtcbagjglchpagaaDoorTie
namespace Go.Proofs
open Go Go.Pe Go.Dg
namespace Tryd
set_option linter.unusedSimpArgs false
set_option linter.unusedVariables false
variable {P : Program} {gl : List (Nat × Obj)}

theorem cells_zero {d : Dyadic} (h : d = 0) : cellsD d false [] 0 := by
  have hz : cZ d = 0 := by rw [h]; exact cZ_eq_zero.2 rfl
  exact ⟨by rw [hz]; rfl, by rw [hz, show Int.natAbs 0 = 0 from rfl, dg_zero], by rw [h]; rfl⟩

theorem law_fs (C : Cx P gl) {l0 : List Int} {p0 : List PV} {s0 : Bool} {e0 n1 n2 : Int} (hp0 : p0 = intsL l0) (h0 : l0.length ≤ 9223372036854775807) :
    FS P gl 5 [.agg [B s0, .lst p0, I e0], I n1, I n2] (· = B true) := by
  rcases Nat.lt_or_ge 1048576 l0.length with hbig | hbig
  · exact lawL_fs C hp0 h0 hbig
  have b0 : l0.length ≤ 2000000 := by omega
  obtain ⟨d, hd⟩ : ∃ d, d = rootD (dval s0 l0 e0) n1 n2 := ⟨_, rfl⟩
  by_cases hok : dyOk s0 l0 e0 ∧ s0 = false ∧ (-3000 ≤ n1 ∧ n1 ≤ 3000) ∧ 0 ≤ n2 ∧ n2 ≤ 4
  · by_cases hf : fits d
    · have hw : true = true ↔ (dyOk s0 l0 e0 ∧ s0 = false ∧ (-3000 ≤ n1 ∧ n1 ≤ 3000) ∧ 0 ≤ n2 ∧ n2 ≤ 4) ∧ fits d := ⟨fun _ => ⟨hok, hf⟩, fun _ => rfl⟩
      by_cases z : d = 0
      · exact law_n_fs C hp0 hbig (fun P' C' => specDyRoot_fs C' hp0 (show [] = intsL [] from rfl) hd hw (fun _ => cells_zero z) (fun h => absurd h (by decide)) b0) (fun P' C' => implDyRoot_n_fs C' hp0 hok hd z b0)
      · exact law_o_fs C hp0 rfl hf.1 hbig (fun P' C' => specDyRoot_fs C' hp0 rfl hd hw (fun _ => ⟨rfl, rfl, rfl⟩) (fun h => absurd h (by decide)) b0) (fun P' C' => implDyRoot_o_fn C' hp0 hok hd hf z rfl rfl rfl b0)
    · have hw : false = true ↔ (dyOk s0 l0 e0 ∧ s0 = false ∧ (-3000 ≤ n1 ∧ n1 ≤ 3000) ∧ 0 ≤ n2 ∧ n2 ≤ 4) ∧ fits d := ⟨fun h => absurd h (by decide), fun h => absurd h.2 hf⟩
      exact law_n_fs C hp0 hbig (fun P' C' => specDyRoot_fs C' hp0 (show [] = intsL [] from rfl) hd hw (fun h => absurd h (by decide)) (fun _ => ⟨rfl, rfl, rfl⟩) b0) (fun P' C' => implDyRoot_X_fs C' hp0 hok hd hf b0)
  · have hw : false = true ↔ (dyOk s0 l0 e0 ∧ s0 = false ∧ (-3000 ≤ n1 ∧ n1 ≤ 3000) ∧ 0 ≤ n2 ∧ n2 ≤ 4) ∧ fits d := ⟨fun h => absurd h (by decide), fun h => absurd h.1 hok⟩
    exact law_n_fs C hp0 hbig (fun P' C' => specDyRoot_fs C' hp0 (show [] = intsL [] from rfl) hd hw (fun h => absurd h (by decide)) (fun _ => ⟨rfl, rfl, rfl⟩) b0) (fun P' C' => implDyRoot_N_fs C' hp0 hok b0)

end Tryd
end Go.Proofs

set_option linter.unusedSimpArgs false
set_option linter.unusedVariables false
namespace Go.Proofs.YtcbagjglchpagaaDoor.fnExactDyRoot
open Go Go.Pe Go.Dg Go.ChangeShapes Go.WideShapes Go.ChangeAt Go.RowKit
set_option linter.unusedVariables false
set_option maxRecDepth 100000

theorem shape_dy {c : List PV} (h : Typed Tryd.prog 6 38 c) : ∃ (s : Bool) (l : List Int) (e : Int), c = [.val (.bool s), .lst (intsL l), .val (.int .i64 e)] ∧ l.length ≤ maxLen := by
  obtain ⟨p, q, h1, h2, rfl⟩ := typed_st2 Tryd.underlying38 h
  obtain ⟨e, rfl, _⟩ := typed_int Tryd.underlying3 h2
  obtain ⟨p1, p2, h3, h4, rfl⟩ := typed_st2 Tryd.underlying36 h1
  obtain ⟨s, rfl⟩ := typed_bool Tryd.underlying4 h3
  obtain ⟨l, rfl, hl⟩ := typed_ints Tryd.underlying32 Tryd.underlying3 (typed_st1 Tryd.underlying34 h4)
  exact ⟨s, l, e, rfl, hl⟩

theorem shape_int {c : List PV} (h : Typed Tryd.prog 6 3 c) : ∃ (n : Int), c = [.val (.int .i64 n)] ∧ (Lit.int .i64 n).wf = true := by
  exact typed_int Tryd.underlying3 h

theorem lifted (os : Os) (started : os.Started) (H : Type) (enc : TypeId × Value → H) :
    ReturnsInHanded {} Tryd.checked os 5 .any (fun w args => (Rows.fnExactDyRootSpec.pre enc Tryd.prog Tryd.f5 [] false w args ∧ laidMetH Tryd.prog laidB w) ∧ sizedMet enc Tryd.prog Tryd.f5 (OpenSpec.ofChange Rows.fnExactDyRootSpec) false w args)
      (Rows.fnExactDyRootSpec.post enc Tryd.prog Tryd.f5 false true false false) := by
  refine returnsInHanded_of_change_and (C := Tryd.checked) (X := fun w _ => laidMetH Tryd.prog laidB w) (fun _ _ _ hh h => h.of_heap hh) own started (by kernel_rfl) Tryd.func5
    (ChangeSpec.witness_shaped (enc := enc) (C := Tryd.checked) (os := os) (X := fun w _ => laidMetH Tryd.prog laidB w) false (World.doorLaid Tryd.prog 400 os) #[.agg #[.bool false, .slice none 0 0, .int .i64 0], .int .i64 0, .int .i64 0] 8 rfl (World.shaped_of_RefB (by kernel_rfl) (by kernel_rfl)) (by kernel_rfl) (by kernel_rfl) (by kernel_rfl) (door_met os _)) ?_
  intro W base args ds gs before hval0 hW _ _ hL _
  have hval : ∀ (j : Nat) t v, Tryd.f5.params[j]? = some t → args[j]? = some v → Value.okWide Tryd.prog W .any base t v := hval0
  have hW' := hW
  obtain ⟨p, q, hA0, hV, rfl, hfz, hnd⟩ := hW
  have hA : DataW.TrodAll enc Tryd.prog W 0 (fun _ => true) true Tryd.f5.params.toList args.toList ds p := hA0
  have hA1 := hA
  rw [Tryd.params5] at hA hval
  obtain ⟨v0, vs0, d0, ds0, pl0, ql0, hargs0, rfl, hpl0, h0, r0⟩ := trodAll_cons hA
  obtain ⟨v1, vs1, d1, ds1, pl1, ql1, hargs1, rfl, hpl1, h1, r1⟩ := trodAll_cons r0
  obtain ⟨v2, vs2, d2, ds2, pl2, ql2, hargs2, rfl, hpl2, h2, r2⟩ := trodAll_cons r1
  obtain ⟨hvn, rfl, hpn⟩ := trodAll_nil r2
  obtain rfl : args = #[v0, v1, v2] := by
    cases args
    simp_all
  obtain ⟨rfl, rfl⟩ := trodVars_none hV
  obtain ⟨c0, hty0, hrep0⟩ := rep_arg kids (m := 6) (show 38 < Tryd.prog.types.size by decide +kernel) (by kernel_rfl) (hval 0 38 v0 rfl rfl) h0
  obtain ⟨s0, l0, e0, rfl, hl0⟩ := shape_dy hty0
  obtain ⟨c1, hty1, hrep1⟩ := rep_arg kids (m := 6) (show 3 < Tryd.prog.types.size by decide +kernel) (by kernel_rfl) (hval 1 3 v1 rfl rfl) h1
  obtain ⟨n1, rfl, hw1⟩ := shape_int hty1
  obtain ⟨c2, hty2, hrep2⟩ := rep_arg kids (m := 6) (show 3 < Tryd.prog.types.size by decide +kernel) (by kernel_rfl) (hval 2 3 v2 rfl rfl) h2
  obtain ⟨n2, rfl, hw2⟩ := shape_int hty2
  obtain ⟨gl, htab, hgl⟩ := of_laid hL
  have hlaw := Tryd.law_fs (P := Tryd.prog) (gl := gl) ⟨rfl, htab⟩ (l0 := l0) (e0 := e0) (s0 := s0) (n1 := n1) (n2 := n2) rfl hl0
  refine (law_calls hlaw W hgl (vs := #[v0, v1, v2]) rfl (fun j hj => ?_)).mono fun e W' ⟨he, hg⟩ => ?_
  · simp only [List.length_cons, List.length_nil] at hj
    rcases (by omega : j = 0 ∨ j = 1 ∨ j = 2) with rfl | rfl | rfl
    · have : isSt Tryd.prog 38 = true := by unfold isSt; rw [Tryd.underlying38]
      simpa [mkEl, this] using hrep0
    · have : isSt Tryd.prog 3 = false := by unfold isSt; rw [Tryd.underlying3]
      simpa [mkEl, this] using hrep1
    · have : isSt Tryd.prog 3 = false := by unfold isSt; rw [Tryd.underlying3]
      simpa [mkEl, this] using hrep2
  subst he
  exact ⟨_, rfl, _, _, _, [], p, [], hW', trodAll_mk1 (shut_bool Tryd.underlying4 _), args_again kids full (fun t ht => by
    rw [Tryd.params5] at ht
    have hall : ([38, 3, 3].all fun u => decide (u < Tryd.prog.types.size)) = true := by decide +kernel
    exact of_decide_eq_true (List.all_eq_true.1 hall t (by simpa using ht))) hA1 hg, rfl, hg.frame _, fun h => by cases h⟩

set_option maxHeartbeats 4000000 in
theorem holds : Rows.FnExactDyRootSaid :=
  OpenClaim.holds_of_wide 5 Tryd.f5 rfl rfl rfl rfl rfl rfl rfl ⟨rfl, rfl, rfl, rfl, rfl⟩ rfl rfl rfl rfl rfl (by kernel_rfl) Tryd.func5 (by kernel_rfl)
    (of_decide_eq_true (by kernel_rfl)) (by unfold Func.isWrapper; first | (rw [if_pos (by decide +kernel)]; kernel_rfl) | (rw [if_neg (by decide +kernel)]; exact ⟨rfl, rfl⟩))
    (fun os started H enc _ => lifted os started H enc)

set_option maxHeartbeats 4000000 in
/-- the statement: the tied card -/
theorem proved : Rows.FnExactDyRootCardSaid :=
  Claim7.holds_tied_plain_at .later [] [.data, .data] true (true, "397f3177479a831b3995b20a78d5d4cdf3376f7ce5cf561b4f549ebaeceb0b2d") false
    holds (fun _ h => by cases h) (by kernel_rfl) (fun _ h => by cases h) fnExactDyRoot_row_tie rfl ⟨rfl, rfl⟩ (by kernel_rfl) rfl
    (fun f fn hf hfn => by
      obtain rfl : f = 5 := Option.some.inj ((show Tryd.prog.funcNamed "loop.example/g00382/laws.FnExactDyRoot" = some 5 by kernel_rfl).symm.trans hf) |>.symm
      obtain rfl : fn = Tryd.f5 := (Option.some.inj (Tryd.func5.symm.trans hfn)).symm
      exact ⟨by kernel_rfl, fun j t ht => by
        rw [Tryd.params5] at ht
        have hm : t ∈ [38, 3, 3] := by simpa using Array.mem_of_getElem? ht
        have hall : ([38, 3, 3].all fun u => !Tryd.prog.wantsStandIn u) = true := by kernel_rfl
        exact (show Tryd.prog.wantsStandIn t = false by simpa using List.all_eq_true.1 hall t hm)⟩)
    (by kernel_rfl)
#print axioms proved
end Go.Proofs.YtcbagjglchpagaaDoor.fnExactDyRoot

