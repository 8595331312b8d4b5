/- Proved: at every argument the law laws.FnExactFlSqrt returns true, and its arguments read as they did; the tables of math/bits are tied to the program's text by the card; no further condition. -/
import Derived.Test.YtcbagjglchpagaaDoorFR0
import Derived.Test.YtcbagjglchpagaaDoorFEvD
import Derived.Test.YtcbagjglchpagaaDoorFPeTq
import Derived.Test.YtcbagjglchpagaaDoorFV60
import Derived.SevenTiedAt
import Derived.Test.YtcbagjglchpagaaDoorCards
import Derived.Test.YtcbagjglchpagaaDoorTie
set_option linter.unusedSimpArgs false
set_option linter.unusedVariables false
namespace Go.Proofs.YtcbagjglchpagaaDoor.fnExactFlSqrt
open Go Go.Pe Go.Dg Go.ChangeShapes Go.WideShapes Go.ChangeAt Go.RowKit
set_option linter.unusedVariables false
set_option maxRecDepth 100000

theorem shape_fl {c : List PV} (h : Typed Tryd.prog 6 23 c) : ∃ (k : Int) (s : Bool) (m e : Int), c = [.val (.int .i64 k), .val (.bool s), .val (.int .i64 m), .val (.int .i64 e)] ∧ (Lit.int .i64 k).wf = true ∧ (Lit.int .i64 m).wf = true ∧ (Lit.int .i64 e).wf = true := by
  obtain ⟨p, q, r, w, h1, h2, h3, h4, rfl⟩ := typed_st4 Tryd.underlying23 h
  obtain ⟨k, rfl, w1⟩ := typed_int Tryd.underlying3 h1
  obtain ⟨s, rfl⟩ := typed_bool Tryd.underlying4 h2
  obtain ⟨m, rfl, w2⟩ := typed_int Tryd.underlying3 h3
  obtain ⟨e, rfl, w3⟩ := typed_int Tryd.underlying3 h4
  exact ⟨k, s, m, e, rfl, w1, w2, w3⟩

theorem shape_int {c : List PV} (h : Typed Tryd.prog 6 3 c) : ∃ (n : Int), c = [.val (.int .i64 n)] ∧ (Lit.int .i64 n).wf = true := by
  exact typed_int Tryd.underlying3 h

theorem lifted (os : Os) (started : os.Started) (H : Type) (enc : TypeId × Value → H) :
    ReturnsInHanded {} Tryd.checked os 3 .any (fun w args => (Rows.fnExactFlSqrtSpec.pre enc Tryd.prog Tryd.f3 [] false w args ∧ laidMetH Tryd.prog laidB w) ∧ sizedMet enc Tryd.prog Tryd.f3 (OpenSpec.ofChange Rows.fnExactFlSqrtSpec) false w args)
      (Rows.fnExactFlSqrtSpec.post enc Tryd.prog Tryd.f3 false true false false) := by
  refine returnsInHanded_of_change_and (C := Tryd.checked) (X := fun w _ => laidMetH Tryd.prog laidB w) (fun _ _ _ hh h => h.of_heap hh) own started (by kernel_rfl) Tryd.func3
    (ChangeSpec.witness_shaped (enc := enc) (C := Tryd.checked) (os := os) (X := fun w _ => laidMetH Tryd.prog laidB w) false (World.doorLaid Tryd.prog 400 os) #[.agg #[.int .i64 0, .bool false, .int .i64 0, .int .i64 0], .int .i64 0] 8 rfl (World.shaped_of_RefB (by kernel_rfl) (by kernel_rfl)) (by kernel_rfl) (by kernel_rfl) (by kernel_rfl) (door_met os _)) ?_
  intro W base args ds gs before hval0 hW _ _ hL _
  have hval : ∀ (j : Nat) t v, Tryd.f3.params[j]? = some t → args[j]? = some v → Value.okWide Tryd.prog W .any base t v := hval0
  have hW' := hW
  obtain ⟨p, q, hA0, hV, rfl, hfz, hnd⟩ := hW
  have hA : DataW.TrodAll enc Tryd.prog W 0 (fun _ => true) true Tryd.f3.params.toList args.toList ds p := hA0
  have hA1 := hA
  rw [Tryd.params3] at hA hval
  obtain ⟨v0, vs0, d0, ds0, pl0, ql0, hargs0, rfl, hpl0, h0, r0⟩ := trodAll_cons hA
  obtain ⟨v1, vs1, d1, ds1, pl1, ql1, hargs1, rfl, hpl1, h1, r1⟩ := trodAll_cons r0
  obtain ⟨hvn, rfl, hpn⟩ := trodAll_nil r1
  obtain rfl : args = #[v0, v1] := by
    cases args
    simp_all
  obtain ⟨rfl, rfl⟩ := trodVars_none hV
  obtain ⟨c0, hty0, hrep0⟩ := rep_arg kids (m := 6) (show 23 < Tryd.prog.types.size by decide +kernel) (by kernel_rfl) (hval 0 23 v0 rfl rfl) h0
  obtain ⟨k0, s0, m0, e0, rfl, hw0, hx0, hy0⟩ := shape_fl hty0
  obtain ⟨c1, hty1, hrep1⟩ := rep_arg kids (m := 6) (show 3 < Tryd.prog.types.size by decide +kernel) (by kernel_rfl) (hval 1 3 v1 rfl rfl) h1
  obtain ⟨n1, rfl, hw1⟩ := shape_int hty1
  obtain ⟨gl, htab, hgl⟩ := of_laid hL
  have hlaw := Tryd.law_fs (P := Tryd.prog) (gl := gl) ⟨rfl, htab⟩ (k0 := k0) (m0 := m0) (e0 := e0) (s0 := s0) (n1 := n1)  
  refine (law_calls hlaw W hgl (vs := #[v0, v1]) rfl (fun j hj => ?_)).mono fun e W' ⟨he, hg⟩ => ?_
  · simp only [List.length_cons, List.length_nil] at hj
    rcases (by omega : j = 0 ∨ j = 1) with rfl | rfl
    · have : isSt Tryd.prog 23 = true := by unfold isSt; rw [Tryd.underlying23]
      simpa [mkEl, this] using hrep0
    · have : isSt Tryd.prog 3 = false := by unfold isSt; rw [Tryd.underlying3]
      simpa [mkEl, this] using hrep1
  subst he
  exact ⟨_, rfl, _, _, _, [], p, [], hW', trodAll_mk1 (shut_bool Tryd.underlying4 _), args_again kids full (fun t ht => by
    rw [Tryd.params3] at ht
    have hall : ([23, 3].all fun u => decide (u < Tryd.prog.types.size)) = true := by decide +kernel
    exact of_decide_eq_true (List.all_eq_true.1 hall t (by simpa using ht))) hA1 hg, rfl, hg.frame _, fun h => by cases h⟩

set_option maxHeartbeats 4000000 in
theorem holds : Rows.FnExactFlSqrtSaid :=
  OpenClaim.holds_of_wide 3 Tryd.f3 rfl rfl rfl rfl rfl rfl rfl ⟨rfl, rfl, rfl, rfl, rfl⟩ rfl rfl rfl rfl rfl (by kernel_rfl) Tryd.func3 (by kernel_rfl)
    (of_decide_eq_true (by kernel_rfl)) (by unfold Func.isWrapper; first | (rw [if_pos (by decide +kernel)]; kernel_rfl) | (rw [if_neg (by decide +kernel)]; exact ⟨rfl, rfl⟩))
    (fun os started H enc _ => lifted os started H enc)

set_option maxHeartbeats 4000000 in
/-- the statement: the tied card -/
theorem proved : Rows.FnExactFlSqrtCardSaid :=
  Claim7.holds_tied_plain_at .later [] [.data, .data] true (true, "397f3177479a831b3995b20a78d5d4cdf3376f7ce5cf561b4f549ebaeceb0b2d") false
    holds (fun _ h => by cases h) (by kernel_rfl) (fun _ h => by cases h) fnExactFlSqrt_row_tie rfl ⟨rfl, rfl⟩ (by kernel_rfl) rfl
    (fun f fn hf hfn => by
      obtain rfl : f = 3 := Option.some.inj ((show Tryd.prog.funcNamed "loop.example/g00382/laws.FnExactFlSqrt" = some 3 by kernel_rfl).symm.trans hf) |>.symm
      obtain rfl : fn = Tryd.f3 := (Option.some.inj (Tryd.func3.symm.trans hfn)).symm
      exact ⟨by kernel_rfl, fun j t ht => by
        rw [Tryd.params3] at ht
        have hm : t ∈ [23, 3] := by simpa using Array.mem_of_getElem? ht
        have hall : ([23, 3].all fun u => !Tryd.prog.wantsStandIn u) = true := by kernel_rfl
        exact (show Tryd.prog.wantsStandIn t = false by simpa using List.all_eq_true.1 hall t hm)⟩)
    (by kernel_rfl)
#print axioms proved
end Go.Proofs.YtcbagjglchpagaaDoor.fnExactFlSqrt
