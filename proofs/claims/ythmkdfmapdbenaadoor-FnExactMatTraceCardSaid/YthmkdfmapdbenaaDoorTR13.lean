/- Proved: at every argument the law laws.FnExactMatTrace returns true, and its arguments read as they did; the tables of math/bits are tied to the program's text by the card; no further condition. -/
import Derived.Test.YthmkdfmapdbenaaDoorTR0
import Derived.Test.YthmkdfmapdbenaaDoorTEvD
import Derived.Test.YthmkdfmapdbenaaDoorTV13
import Derived.SevenTiedAt
import Derived.Test.YthmkdfmapdbenaaDoorCards
import Derived.Test.YthmkdfmapdbenaaDoorTie
set_option linter.unusedSimpArgs false
set_option linter.unusedVariables false
namespace Go.Proofs.YthmkdfmapdbenaaDoor.fnExactMatTrace
open Go Go.Pe Go.Dg Go.ChangeShapes Go.WideShapes Go.ChangeAt Go.RowKit
set_option linter.unusedVariables false
set_option maxRecDepth 100000

theorem shape_mat {c : List PV} (h : Typed Tryd.prog 8 24 c) : ∃ (n : Int) (l : List Cell3), c = [.val (.int .i64 n), .lst (cells3 l)] ∧ l.length ≤ maxLen ∧ ∀ y ∈ l, y.2.1.length ≤ maxLen := by
  have dy : ∀ (c : List PV), Typed Tryd.prog 6 66 c → ∃ (s : Bool) (l : List Int) (e : Int), c = [.val (.bool s), .lst (intsL l), .val (.int .i64 e)] ∧ l.length ≤ maxLen := by
    intro c h
    obtain ⟨p, q, h1, h2, rfl⟩ := typed_st2 Tryd.underlying66 h
    obtain ⟨e, rfl, _⟩ := typed_int Tryd.underlying3 h2
    obtain ⟨p1, p2, h3, h4, rfl⟩ := typed_st2 Tryd.underlying64 h1
    obtain ⟨s, rfl⟩ := typed_bool Tryd.underlying4 h3
    obtain ⟨l, rfl, hl⟩ := typed_ints Tryd.underlying26 Tryd.underlying3 (typed_st1 Tryd.underlying62 h4)
    exact ⟨s, l, e, rfl, hl⟩
  obtain ⟨p, q, h1, h2, rfl⟩ := typed_st2 Tryd.underlying24 h
  obtain ⟨n, rfl, _⟩ := typed_int Tryd.underlying3 h1
  obtain ⟨ys, rfl, h3, h4⟩ := typed_dys Tryd.underlying22 (by unfold isSt; rw [Tryd.underlying66]) dy h2
  exact ⟨n, ys, rfl, h3, h4⟩

theorem lifted (os : Os) (started : os.Started) (H : Type) (enc : TypeId × Value → H) :
    ReturnsInHanded {} Tryd.checked os 3 .any (fun w args => (Rows.fnExactMatTraceSpec.pre enc Tryd.prog Tryd.f3 [] false w args ∧ laidMetH Tryd.prog laidB w) ∧ sizedMet enc Tryd.prog Tryd.f3 (OpenSpec.ofChange Rows.fnExactMatTraceSpec) false w args)
      (Rows.fnExactMatTraceSpec.post enc Tryd.prog Tryd.f3 false true false false) := by
  refine returnsInHanded_of_change_and (C := Tryd.checked) (X := fun w _ => laidMetH Tryd.prog laidB w) (fun _ _ _ hh h => h.of_heap hh) own started (by kernel_rfl) Tryd.func3
    (ChangeSpec.witness_shaped (enc := enc) (C := Tryd.checked) (os := os) (X := fun w _ => laidMetH Tryd.prog laidB w) false (World.doorLaid Tryd.prog 400 os) #[.agg #[.int .i64 0, .slice none 0 0]] 8 rfl (World.shaped_of_RefB (by kernel_rfl) (by kernel_rfl)) (by kernel_rfl) (by kernel_rfl) (by kernel_rfl) (door_met os _)) ?_
  intro W base args ds gs before hval0 hW _ _ hL _
  have hval : ∀ (j : Nat) t v, Tryd.f3.params[j]? = some t → args[j]? = some v → Value.okWide Tryd.prog W .any base t v := hval0
  have hW' := hW
  obtain ⟨p, q, hA0, hV, rfl, hfz, hnd⟩ := hW
  have hA : DataW.TrodAll enc Tryd.prog W 0 (fun _ => true) true Tryd.f3.params.toList args.toList ds p := hA0
  have hA1 := hA
  rw [Tryd.params3] at hA hval
  obtain ⟨v0, d0, rfl, rfl, h0⟩ := trodAll_one hA
  obtain ⟨rfl, rfl⟩ := trodVars_none hV
  obtain ⟨c0, hty0, hrep0⟩ := rep_arg kids (m := 8) (show 24 < Tryd.prog.types.size by decide +kernel) (by kernel_rfl) (hval 0 24 v0 rfl rfl) h0
  obtain ⟨n0, l0, rfl, hl0, hyl0⟩ := shape_mat hty0
  obtain ⟨gl, htab, hgl⟩ := of_laid hL
  have hlaw := Tryd.law_fs (P := Tryd.prog) (gl := gl) ⟨rfl, htab⟩ (n0 := n0) (l0 := l0) rfl hl0 hyl0
  refine (law_calls hlaw W hgl (vs := #[v0]) rfl (fun j hj => ?_)).mono fun e W' ⟨he, hg⟩ => ?_
  · simp only [List.length_singleton] at hj
    obtain rfl : j = 0 := by omega
    have : isSt Tryd.prog 24 = true := by unfold isSt; rw [Tryd.underlying24]
    simpa [mkEl, this] using hrep0
  subst he
  exact ⟨_, rfl, _, _, _, [], p, [], hW', trodAll_mk1 (shut_bool Tryd.underlying4 _), args_again kids full (fun t ht => by
    rw [Tryd.params3] at ht
    have hall : ([24].all fun u => decide (u < Tryd.prog.types.size)) = true := by decide +kernel
    exact of_decide_eq_true (List.all_eq_true.1 hall t (by simpa using ht))) hA1 hg, rfl, hg.frame _, fun h => by cases h⟩

theorem holds : Rows.FnExactMatTraceSaid :=
  OpenClaim.holds_of_wide 3 Tryd.f3 rfl rfl rfl rfl rfl rfl rfl ⟨rfl, rfl, rfl, rfl, rfl⟩ rfl rfl rfl rfl rfl (by kernel_rfl) Tryd.func3 (by kernel_rfl)
    (of_decide_eq_true (by kernel_rfl)) (by unfold Func.isWrapper; first | (rw [if_pos (by decide +kernel)]; kernel_rfl) | (rw [if_neg (by decide +kernel)]; exact ⟨rfl, rfl⟩))
    (fun os started H enc _ => lifted os started H enc)

/-- the statement: the tied card -/
theorem proved : Rows.FnExactMatTraceCardSaid :=
  Claim7.holds_tied_plain_at .later [] [.data, .data] true (true, "1dccc150765e023f4003586d0989e1c67bc1d3bef95a86ddcdeabc74afd127ed") false
    holds (fun _ h => by cases h) (by kernel_rfl) (fun _ h => by cases h) fnExactMatTrace_row_tie rfl ⟨rfl, rfl⟩ (by kernel_rfl) rfl
    (fun f fn hf hfn => by
      obtain rfl : f = 3 := Option.some.inj ((show Tryd.prog.funcNamed "loop.example/g00382/laws.FnExactMatTrace" = some 3 by kernel_rfl).symm.trans hf) |>.symm
      obtain rfl : fn = Tryd.f3 := (Option.some.inj (Tryd.func3.symm.trans hfn)).symm
      exact ⟨by kernel_rfl, fun j t ht => by
        rw [Tryd.params3] at ht
        have hm : t ∈ [24] := by simpa using Array.mem_of_getElem? ht
        have hall : ([24].all fun u => !Tryd.prog.wantsStandIn u) = true := by kernel_rfl
        exact (show Tryd.prog.wantsStandIn t = false by simpa using List.all_eq_true.1 hall t hm)⟩)
    (by kernel_rfl)
#print axioms proved
end Go.Proofs.YthmkdfmapdbenaaDoor.fnExactMatTrace
