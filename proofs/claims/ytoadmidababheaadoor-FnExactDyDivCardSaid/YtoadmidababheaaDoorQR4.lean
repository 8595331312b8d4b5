/- Proved: at every argument the law laws.FnExactDyDiv returns true, and its arguments read as they did; the tables of math/bits are tied to the program's text by the card; no further condition. -/
import Derived.Test.YtoadmidababheaaDoorQR0
import Derived.Test.YtoadmidababheaaDoorQV4
import Derived.SevenTiedAt
import Derived.Test.YtoadmidababheaaDoorCards
import Derived.Test.YtoadmidababheaaDoorTie
namespace Go.Proofs.YtoadmidababheaaDoor.fnExactDyDiv
open Go Go.Pe Go.ChangeShapes Go.WideShapes Go.ChangeAt Go.RowKit
set_option linter.unusedVariables false
set_option maxRecDepth 100000

theorem shape_dy {c : List PV} (h : Typed Tryd.prog 6 28 c) : ∃ (s : Bool) (l : List Int) (e : Int), c = [.val (.bool s), .lst (intsL l), .val (.int .i64 e)] ∧ l.length ≤ maxLen := by
  obtain ⟨p, q, h1, h2, rfl⟩ := typed_st2 Tryd.underlying28 h
  obtain ⟨e, rfl, _⟩ := typed_int Tryd.underlying3 h2
  obtain ⟨p1, p2, h3, h4, rfl⟩ := typed_st2 Tryd.underlying26 h1
  obtain ⟨s, rfl⟩ := typed_bool Tryd.underlying4 h3
  obtain ⟨l, rfl, hl⟩ := typed_ints Tryd.underlying22 Tryd.underlying3 (typed_st1 Tryd.underlying24 h4)
  exact ⟨s, l, e, rfl, hl⟩

theorem shape_int {c : List PV} (h : Typed Tryd.prog 6 3 c) : ∃ (n : Int), c = [.val (.int .i64 n)] ∧ (Lit.int .i64 n).wf = true := by
  exact typed_int Tryd.underlying3 h

theorem lifted (os : Os) (started : os.Started) (H : Type) (enc : TypeId × Value → H) :
    ReturnsInHanded {} Tryd.checked os 4 .any (fun w args => (Rows.fnExactDyDivSpec.pre enc Tryd.prog Tryd.f4 [] false w args ∧ laidMetH Tryd.prog laidB w) ∧ sizedMet enc Tryd.prog Tryd.f4 (OpenSpec.ofChange Rows.fnExactDyDivSpec) false w args)
      (Rows.fnExactDyDivSpec.post enc Tryd.prog Tryd.f4 false true false false) := by
  refine returnsInHanded_of_change_and (C := Tryd.checked) (X := fun w _ => laidMetH Tryd.prog laidB w) (fun _ _ _ hh h => h.of_heap hh) own started (by kernel_rfl) Tryd.func4
    (ChangeSpec.witness_shaped (enc := enc) (C := Tryd.checked) (os := os) (X := fun w _ => laidMetH Tryd.prog laidB w) false (World.doorLaid Tryd.prog 400 os) #[.agg #[.bool false, .slice none 0 0, .int .i64 0], .agg #[.bool false, .slice none 0 0, .int .i64 0], .int .i64 0, .int .i64 0] 8 rfl (World.shaped_of_RefB (by kernel_rfl) (by kernel_rfl)) (by kernel_rfl) (by kernel_rfl) (by kernel_rfl) (door_met os _)) ?_
  intro W base args ds gs before hval0 hW _ _ hL _
  have hval : ∀ (j : Nat) t v, Tryd.f4.params[j]? = some t → args[j]? = some v → Value.okWide Tryd.prog W .any base t v := hval0
  have hW' := hW
  obtain ⟨p, q, hA0, hV, rfl, hfz, hnd⟩ := hW
  have hA : DataW.TrodAll enc Tryd.prog W 0 (fun _ => true) true Tryd.f4.params.toList args.toList ds p := hA0
  have hA1 := hA
  rw [Tryd.params4] at hA hval
  obtain ⟨v0, vs0, d0, ds0, pl0, ql0, hargs0, rfl, hpl0, h0, r0⟩ := trodAll_cons hA
  obtain ⟨v1, vs1, d1, ds1, pl1, ql1, hargs1, rfl, hpl1, h1, r1⟩ := trodAll_cons r0
  obtain ⟨v2, vs2, d2, ds2, pl2, ql2, hargs2, rfl, hpl2, h2, r2⟩ := trodAll_cons r1
  obtain ⟨v3, vs3, d3, ds3, pl3, ql3, hargs3, rfl, hpl3, h3, r3⟩ := trodAll_cons r2
  obtain ⟨hvn, rfl, hpn⟩ := trodAll_nil r3
  obtain rfl : args = #[v0, v1, v2, v3] := by
    cases args
    simp_all
  obtain ⟨rfl, rfl⟩ := trodVars_none hV
  obtain ⟨c0, hty0, hrep0⟩ := rep_arg kids (m := 6) (show 28 < Tryd.prog.types.size by decide +kernel) (by kernel_rfl) (hval 0 28 v0 rfl rfl) h0
  obtain ⟨s0, l0, e0, rfl, hl0⟩ := shape_dy hty0
  obtain ⟨c1, hty1, hrep1⟩ := rep_arg kids (m := 6) (show 28 < Tryd.prog.types.size by decide +kernel) (by kernel_rfl) (hval 1 28 v1 rfl rfl) h1
  obtain ⟨s1, l1, e1, rfl, hl1⟩ := shape_dy hty1
  obtain ⟨c2, hty2, hrep2⟩ := rep_arg kids (m := 6) (show 3 < Tryd.prog.types.size by decide +kernel) (by kernel_rfl) (hval 2 3 v2 rfl rfl) h2
  obtain ⟨n2, rfl, hw2⟩ := shape_int hty2
  obtain ⟨c3, hty3, hrep3⟩ := rep_arg kids (m := 6) (show 3 < Tryd.prog.types.size by decide +kernel) (by kernel_rfl) (hval 3 3 v3 rfl rfl) h3
  obtain ⟨n3, rfl, hw3⟩ := shape_int hty3
  obtain ⟨gl, htab, hgl⟩ := of_laid hL
  have hlaw := Tryd.law_fs (P := Tryd.prog) (gl := gl) ⟨rfl, htab⟩ (l0 := l0) (e0 := e0) (s0 := s0) (l1 := l1) (e1 := e1) (s1 := s1) (n2 := n2) (n3 := n3) rfl rfl hl0 hl1
  refine (law_calls hlaw W hgl (vs := #[v0, v1, v2, v3]) rfl (fun j hj => ?_)).mono fun e W' ⟨he, hg⟩ => ?_
  · simp only [List.length_cons, List.length_nil] at hj
    rcases (by omega : j = 0 ∨ j = 1 ∨ j = 2 ∨ j = 3) with rfl | rfl | rfl | rfl
    · have : isSt Tryd.prog 28 = true := by unfold isSt; rw [Tryd.underlying28]
      simpa [mkEl, this] using hrep0
    · have : isSt Tryd.prog 28 = true := by unfold isSt; rw [Tryd.underlying28]
      simpa [mkEl, this] using hrep1
    · have : isSt Tryd.prog 3 = false := by unfold isSt; rw [Tryd.underlying3]
      simpa [mkEl, this] using hrep2
    · have : isSt Tryd.prog 3 = false := by unfold isSt; rw [Tryd.underlying3]
      simpa [mkEl, this] using hrep3
  subst he
  exact ⟨_, rfl, _, _, _, [], p, [], hW', trodAll_mk1 (shut_bool Tryd.underlying4 _), args_again kids full (fun t ht => by
    rw [Tryd.params4] at ht
    have hall : ([28, 28, 3, 3].all fun u => decide (u < Tryd.prog.types.size)) = true := by decide +kernel
    exact of_decide_eq_true (List.all_eq_true.1 hall t (by simpa using ht))) hA1 hg, rfl, hg.frame _, fun h => by cases h⟩

theorem holds : Rows.FnExactDyDivSaid :=
  OpenClaim.holds_of_wide 4 Tryd.f4 rfl rfl rfl rfl rfl rfl rfl ⟨rfl, rfl, rfl, rfl, rfl⟩ rfl rfl rfl rfl rfl (by kernel_rfl) Tryd.func4 (by kernel_rfl)
    (of_decide_eq_true (by kernel_rfl)) (by unfold Func.isWrapper; first | (rw [if_pos (by decide +kernel)]; kernel_rfl) | (rw [if_neg (by decide +kernel)]; exact ⟨rfl, rfl⟩))
    (fun os started H enc _ => lifted os started H enc)

/-- the statement: the tied card -/
theorem proved : Rows.FnExactDyDivCardSaid :=
  Claim7.holds_tied_plain_at .later [] [.data, .data] true (true, "8bd0341bfe25ac440fbf7577a63349b64e8fc5c8e4702445d4c0c04c1d93947c") false
    holds (fun _ h => by cases h) (by kernel_rfl) (fun _ h => by cases h) fnExactDyDiv_row_tie rfl ⟨rfl, rfl⟩ (by kernel_rfl) rfl
    (fun f fn hf hfn => by
      obtain rfl : f = 4 := Option.some.inj ((show Tryd.prog.funcNamed "loop.example/g00382/laws.FnExactDyDiv" = some 4 by kernel_rfl).symm.trans hf) |>.symm
      obtain rfl : fn = Tryd.f4 := (Option.some.inj (Tryd.func4.symm.trans hfn)).symm
      exact ⟨by kernel_rfl, fun j t ht => by
        rw [Tryd.params4] at ht
        have hm : t ∈ [28, 28, 3, 3] := by simpa using Array.mem_of_getElem? ht
        have hall : ([28, 28, 3, 3].all fun u => !Tryd.prog.wantsStandIn u) = true := by kernel_rfl
        exact (show Tryd.prog.wantsStandIn t = false by simpa using List.all_eq_true.1 hall t hm)⟩)
    (by kernel_rfl)
#print axioms proved
end Go.Proofs.YtoadmidababheaaDoor.fnExactDyDiv
