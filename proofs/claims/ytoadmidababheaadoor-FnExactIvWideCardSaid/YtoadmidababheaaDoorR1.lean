/- Proved: at every interval the law laws.FnExactIvWide returns true, and its argument reads as it did; the tables of math/bits are tied to the program's text by the card; no further condition. -/
import Derived.Test.YtoadmidababheaaDoorR0
import Derived.Test.YtoadmidababheaaDoorW1
import Derived.SevenTiedAt
import Derived.Test.YtoadmidababheaaDoorCards
import Derived.Test.YtoadmidababheaaDoorTie
namespace Go.Proofs.YtoadmidababheaaDoor.fnExactIvWide
open Go Go.Pe Go.ChangeShapes Go.WideShapes Go.ChangeAt Go.RowKit
set_option linter.unusedVariables false
set_option maxRecDepth 100000

theorem shape {c : List PV} (h : Typed Tryd.prog 6 30 c) : ∃ (s t : Bool) (l m : List Int) (e f : Int), c = [.val (.bool s), .lst (intsL l), .val (.int .i64 e), .val (.bool t), .lst (intsL m), .val (.int .i64 f)] ∧ l.length ≤ maxLen ∧ m.length ≤ maxLen := by
  have dy : ∀ {c : List PV}, Typed Tryd.prog 5 28 c → ∃ (s : Bool) (l : List Int) (e : Int), c = [.val (.bool s), .lst (intsL l), .val (.int .i64 e)] ∧ l.length ≤ maxLen := by
    intro c h
    obtain ⟨p, q, h1, h2, rfl⟩ := typed_st2 Tryd.underlying28 h
    obtain ⟨e, rfl, _⟩ := typed_int Tryd.underlying3 h2
    obtain ⟨p1, p2, h3, h4, rfl⟩ := typed_st2 Tryd.underlying26 h1
    obtain ⟨s, rfl⟩ := typed_bool Tryd.underlying4 h3
    obtain ⟨l, rfl, hl⟩ := typed_ints Tryd.underlying22 Tryd.underlying3 (typed_st1 Tryd.underlying24 h4)
    exact ⟨s, l, e, rfl, hl⟩
  obtain ⟨p, q, h1, h2, rfl⟩ := typed_st2 Tryd.underlying30 h
  obtain ⟨s, l, e, rfl, hl⟩ := dy h1
  obtain ⟨t, m, f, rfl, hm⟩ := dy h2
  exact ⟨s, t, l, m, e, f, rfl, hl, hm⟩

set_option maxRecDepth 100000 in
theorem lifted (os : Os) (started : os.Started) (H : Type) (enc : TypeId × Value → H) :
    ReturnsInHanded {} Tryd.checked os 3 .any (fun w args => (Rows.fnExactIvWideSpec.pre enc Tryd.prog Tryd.f3 [] false w args ∧ laidMetH Tryd.prog laidB w) ∧ sizedMet enc Tryd.prog Tryd.f3 (OpenSpec.ofChange Rows.fnExactIvWideSpec) false w args)
      (Rows.fnExactIvWideSpec.post enc Tryd.prog Tryd.f3 false true false false) := by
  refine returnsInHanded_of_change_and (C := Tryd.checked) (X := fun w _ => laidMetH Tryd.prog laidB w) (fun _ _ _ hh h => h.of_heap hh) own started (by kernel_rfl) Tryd.func3
    (ChangeSpec.witness_shaped (enc := enc) (C := Tryd.checked) (os := os) (X := fun w _ => laidMetH Tryd.prog laidB w) false (World.doorLaid Tryd.prog 400 os) #[.agg #[.bool false, .slice none 0 0, .int .i64 0, .bool false, .slice none 0 0, .int .i64 0]] 8 rfl (World.shaped_of_RefB (by kernel_rfl) (by kernel_rfl)) (by kernel_rfl) (by kernel_rfl) (by kernel_rfl) (door_met os _)) ?_
  intro W base args ds gs before hval0 hW _ _ hL _
  have hval : ∀ (j : Nat) t v, Tryd.f3.params[j]? = some t → args[j]? = some v → Value.okWide Tryd.prog W .any base t v := hval0
  have hW' := hW
  obtain ⟨p, q, hA0, hV, rfl, hfz, hnd⟩ := hW
  have hA : DataW.TrodAll enc Tryd.prog W 0 (fun _ => true) true Tryd.f3.params.toList args.toList ds p := hA0
  have hA1 := hA
  rw [Tryd.params3] at hA hval
  obtain ⟨v0, d0, rfl, rfl, h0⟩ := trodAll_one hA
  obtain ⟨rfl, rfl⟩ := trodVars_none hV
  obtain ⟨c, hty, hrep⟩ := rep_arg kids (m := 6) (show 30 < Tryd.prog.types.size by decide +kernel) (by kernel_rfl) (hval 0 30 v0 rfl rfl) h0
  obtain ⟨s, t, l, m, e, f, rfl, hl, hm⟩ := shape hty
  obtain ⟨gl, htab, hgl⟩ := of_laid hL
  have hlaw := Tryd.law_fs (P := Tryd.prog) (gl := gl) ⟨rfl, htab⟩ (l := l) (m := m) (e := e) (f := f) (s := s) (t := t) rfl rfl hl hm
  refine (law_calls hlaw W hgl (vs := #[v0]) rfl (fun j hj => ?_)).mono fun e W' ⟨he, hg⟩ => ?_
  · simp only [List.length_singleton] at hj
    obtain rfl : j = 0 := by omega
    have : isSt Tryd.prog 30 = true := by unfold isSt; rw [Tryd.underlying30]
    simpa [mkEl, this] using hrep
  subst he
  exact ⟨_, rfl, _, _, _, [], p, [], hW', trodAll_mk1 (shut_bool Tryd.underlying4 _), args_again kids full (fun t ht => by rw [Tryd.params3] at ht; simp at ht; rw [ht]; decide +kernel) hA1 hg, rfl, hg.frame _, fun h => by cases h⟩

theorem holds : Rows.FnExactIvWideSaid :=
  OpenClaim.holds_of_wide 3 Tryd.f3 rfl rfl rfl rfl rfl rfl rfl ⟨rfl, rfl, rfl, rfl, rfl⟩ rfl rfl rfl rfl rfl (by kernel_rfl) Tryd.func3 (by kernel_rfl)
    (of_decide_eq_true (by kernel_rfl)) (by unfold Func.isWrapper; first | (rw [if_pos (by decide +kernel)]; kernel_rfl) | (rw [if_neg (by decide +kernel)]; exact ⟨rfl, rfl⟩))
    (fun os started H enc _ => lifted os started H enc)

/-- the statement: the tied card -/
theorem proved : Rows.FnExactIvWideCardSaid :=
  Claim7.holds_tied_plain_at .later [] [.data, .data] true (true, "8bd0341bfe25ac440fbf7577a63349b64e8fc5c8e4702445d4c0c04c1d93947c") false
    holds (fun _ h => by cases h) (by kernel_rfl) (fun _ h => by cases h) fnExactIvWide_row_tie rfl ⟨rfl, rfl⟩ (by kernel_rfl) rfl
    (fun f fn hf hfn => by
      obtain rfl : f = 3 := Option.some.inj ((show Tryd.prog.funcNamed "loop.example/g00382/laws.FnExactIvWide" = some 3 by kernel_rfl).symm.trans hf) |>.symm
      obtain rfl : fn = Tryd.f3 := (Option.some.inj (Tryd.func3.symm.trans hfn)).symm
      exact ⟨by kernel_rfl, fun j t ht => by
        rw [Tryd.params3] at ht
        have hm : t ∈ [30] := by simpa using Array.mem_of_getElem? ht
        have hall : ([30].all fun u => !Tryd.prog.wantsStandIn u) = true := by kernel_rfl
        exact (show Tryd.prog.wantsStandIn t = false by simpa using List.all_eq_true.1 hall t hm)⟩)
    (by kernel_rfl)
#print axioms proved
end Go.Proofs.YtoadmidababheaaDoor.fnExactIvWide
