/- Proved: at every argument the law laws.FnExactSolve returns true, and its arguments read as they did; the tables of math/bits are tied to the program's text by the card; no further condition. -/
import Derived.Test.YtlkiofkkjbodjaaGreatDoorDN40a
import Derived.Test.YtlkiofkkjbodjaaGreatDoorDEvD
import Derived.Test.YtlkiofkkjbodjaaGreatDoorDV57
import Derived.SevenTiedAt
import Derived.Test.YtlkiofkkjbodjaaGreatDoorCards
import Derived.Test.YtlkiofkkjbodjaaGreatDoorTie
set_option maxHeartbeats 4000000
set_option linter.unusedSimpArgs false
set_option linter.unusedVariables false
namespace Go.Proofs.YtlkiofkkjbodjaaGreatDoor.fnExactSolve
open Go Go.Pe Go.Dg Go.ChangeShapes Go.WideShapes Go.ChangeAt Go.RowKit
set_option linter.unusedVariables false
set_option maxRecDepth 100000

theorem shape_dys {c : List PV} (h : Typed Tryz.prog 7 39 c) : ∃ (l : List Cell3), c = [.lst (cells3 l)] ∧ l.length ≤ maxLen ∧ ∀ y ∈ l, y.2.1.length ≤ maxLen := by
 have dy : ∀ (c : List PV), Typed Tryz.prog 6 102 c → ∃ (s : Bool) (l : List Int) (e : Int), c = [.val (.bool s), .lst (intsL l), .val (.int .i64 e)] ∧ l.length ≤ maxLen := by
  intro c h
  obtain ⟨p, q, h1, h2, rfl⟩ := typed_st2 Tryz.underlying102 h
  obtain ⟨e, rfl, _⟩ := typed_int Tryz.underlying3 h2
  obtain ⟨p1, p2, h3, h4, rfl⟩ := typed_st2 Tryz.underlying100 h1
  obtain ⟨s, rfl⟩ := typed_bool Tryz.underlying4 h3
  obtain ⟨l, rfl, hl⟩ := typed_ints Tryz.underlying58 Tryz.underlying3 (typed_st1 Tryz.underlying98 h4)
  exact ⟨s, l, e, rfl, hl⟩
 obtain ⟨ys, rfl, h3, h4⟩ := typed_dys Tryz.underlying39 (by unfold isSt; rw [Tryz.underlying102]) dy h
 exact ⟨ys, rfl, h3, h4⟩

theorem shape_int {c : List PV} (h : Typed Tryz.prog 6 3 c) : ∃ (n : Int), c = [.val (.int .i64 n)] ∧ (Lit.int .i64 n).wf = true := by
 exact typed_int Tryz.underlying3 h

theorem shape_mat {c : List PV} (h : Typed Tryz.prog 8 41 c) : ∃ (n : Int) (l : List Cell3), c = [.val (.int .i64 n), .lst (cells3 l)] ∧ l.length ≤ maxLen ∧ ∀ y ∈ l, y.2.1.length ≤ maxLen := by
 have dy : ∀ (c : List PV), Typed Tryz.prog 6 102 c → ∃ (s : Bool) (l : List Int) (e : Int), c = [.val (.bool s), .lst (intsL l), .val (.int .i64 e)] ∧ l.length ≤ maxLen := by
  intro c h
  obtain ⟨p, q, h1, h2, rfl⟩ := typed_st2 Tryz.underlying102 h
  obtain ⟨e, rfl, _⟩ := typed_int Tryz.underlying3 h2
  obtain ⟨p1, p2, h3, h4, rfl⟩ := typed_st2 Tryz.underlying100 h1
  obtain ⟨s, rfl⟩ := typed_bool Tryz.underlying4 h3
  obtain ⟨l, rfl, hl⟩ := typed_ints Tryz.underlying58 Tryz.underlying3 (typed_st1 Tryz.underlying98 h4)
  exact ⟨s, l, e, rfl, hl⟩
 obtain ⟨p, q, h1, h2, rfl⟩ := typed_st2 Tryz.underlying41 h
 obtain ⟨n, rfl, _⟩ := typed_int Tryz.underlying3 h1
 obtain ⟨ys, rfl, h3, h4⟩ := typed_dys Tryz.underlying39 (by unfold isSt; rw [Tryz.underlying102]) dy h2
 exact ⟨n, ys, rfl, h3, h4⟩

theorem lifted (os : Os) (started : os.Started) (H : Type) (enc : TypeId × Value → H) :
  ReturnsInHanded {} Tryz.checked os 6 .any (fun w args => (Rows.fnExactSolveSpec.pre enc Tryz.prog Tryz.f6 [] false w args ∧ laidMetH Tryz.prog laidB w) ∧ sizedMet enc Tryz.prog Tryz.f6 (OpenSpec.ofChange Rows.fnExactSolveSpec) false w args)
   (Rows.fnExactSolveSpec.post enc Tryz.prog Tryz.f6 false true false false) := by
 refine returnsInHanded_of_change_and (C := Tryz.checked) (X := fun w _ => laidMetH Tryz.prog laidB w) (fun _ _ _ hh h => h.of_heap hh) own started (by kernel_rfl) Tryz.func6
  (ChangeSpec.witness_shaped (enc := enc) (C := Tryz.checked) (os := os) (X := fun w _ => laidMetH Tryz.prog laidB w) false (World.doorLaid Tryz.prog 400 os) #[.agg #[.int .i64 0, .slice none 0 0], .slice none 0 0, .int .i64 0] 8 rfl (World.shaped_of_RefB (by kernel_rfl) (by kernel_rfl)) (by kernel_rfl) (by kernel_rfl) (by kernel_rfl) (door_met os _)) ?_
 intro W base args ds gs before hval0 hW _ _ hL _
 have hval : ∀ (j : Nat) t v, Tryz.f6.params[j]? = some t → args[j]? = some v → Value.okWide Tryz.prog W .any base t v := hval0
 have hW' := hW
 obtain ⟨p, q, hA0, hV, rfl, hfz, hnd⟩ := hW
 have hA : DataW.TrodAll enc Tryz.prog W 0 (fun _ => true) true Tryz.f6.params.toList args.toList ds p := hA0
 have hA1 := hA
 rw [Tryz.params6] at hA hval
 obtain ⟨v0, vs0, d0, ds0, pl0, ql0, hargs0, rfl, hpl0, h0, r0⟩ := trodAll_cons hA
 obtain ⟨v1, vs1, d1, ds1, pl1, ql1, hargs1, rfl, hpl1, h1, r1⟩ := trodAll_cons r0
 obtain ⟨v2, vs2, d2, ds2, pl2, ql2, hargs2, rfl, hpl2, h2, r2⟩ := trodAll_cons r1
 obtain ⟨hvn, rfl, hpn⟩ := trodAll_nil r2
 obtain rfl : args = #[v0, v1, v2] := by
  cases args
  simp_all
 obtain ⟨rfl, rfl⟩ := trodVars_none hV
 obtain ⟨c0, hty0, hrep0⟩ := rep_arg kids (m := 8) (show 41 < Tryz.prog.types.size by decide +kernel) (by kernel_rfl) (hval 0 41 v0 rfl rfl) h0
 obtain ⟨n0, l0, rfl, hl0, hyl0⟩ := shape_mat hty0
 obtain ⟨c1, hty1, hrep1⟩ := rep_arg kids (m := 7) (show 39 < Tryz.prog.types.size by decide +kernel) (by kernel_rfl) (hval 1 39 v1 rfl rfl) h1
 obtain ⟨l1, rfl, hl1, hyl1⟩ := shape_dys hty1
 obtain ⟨c2, hty2, hrep2⟩ := rep_arg kids (m := 6) (show 3 < Tryz.prog.types.size by decide +kernel) (by kernel_rfl) (hval 2 3 v2 rfl rfl) h2
 obtain ⟨n2, rfl, hw2⟩ := shape_int hty2
 obtain ⟨gl, htab, hgl⟩ := of_laid hL
 have hlaw := Tryz.law_fs (P := Tryz.prog) (gl := gl) ⟨rfl, htab⟩ (n0 := n0) (l0 := l0) (l1 := l1) (n2 := n2) rfl rfl hl0 hyl0 hl1 hyl1
 refine (law_calls hlaw W hgl (vs := #[v0, v1, v2]) rfl (fun j hj => ?_)).mono fun e W' ⟨he, hg⟩ => ?_
 ·simp only [List.length_cons, List.length_nil] at hj
  rcases (by omega : j = 0 ∨ j = 1 ∨ j = 2) with rfl | rfl | rfl
  ·have : isSt Tryz.prog 41 = true := by unfold isSt; rw [Tryz.underlying41]
   simpa [mkEl, this] using hrep0
  ·have : isSt Tryz.prog 39 = false := by unfold isSt; rw [Tryz.underlying39]
   simpa [mkEl, this] using hrep1
  ·have : isSt Tryz.prog 3 = false := by unfold isSt; rw [Tryz.underlying3]
   simpa [mkEl, this] using hrep2
 subst he
 exact ⟨_, rfl, _, _, _, [], p, [], hW', trodAll_mk1 (shut_bool Tryz.underlying4 _), args_again kids full (fun t ht => by
  rw [Tryz.params6] at ht
  have hall : ([41, 39, 3].all fun u => decide (u < Tryz.prog.types.size)) = true := by decide +kernel
  exact of_decide_eq_true (List.all_eq_true.1 hall t (by simpa using ht))) hA1 hg, rfl, hg.frame _, fun h => by cases h⟩

theorem holds : Rows.FnExactSolveSaid :=
 OpenClaim.holds_of_wide 6 Tryz.f6 rfl rfl rfl rfl rfl rfl rfl ⟨rfl, rfl, rfl, rfl, rfl⟩ rfl rfl rfl rfl rfl (by kernel_rfl) Tryz.func6 (by kernel_rfl)
  (of_decide_eq_true (by kernel_rfl)) (by unfold Func.isWrapper; first | (rw [if_pos (by decide +kernel)]; kernel_rfl) | (rw [if_neg (by decide +kernel)]; exact ⟨rfl, rfl⟩))
  (fun os started H enc _ => lifted os started H enc)

theorem proved : Rows.FnExactSolveCardSaid :=
 Claim7.holds_tied_plain_at .later [] [.data, .data] true (true, "eee16184b0f779492c3c58285d95aba1854f31bbd6055a02f238ca291f8c3b8c") false
  holds (fun _ h => by cases h) (by kernel_rfl) (fun _ h => by cases h) fnExactSolve_row_tie rfl ⟨rfl, rfl⟩ (by kernel_rfl) rfl
  (fun f fn hf hfn => by
   obtain rfl : f = 6 := Option.some.inj ((show Tryz.prog.funcNamed "loop.example/g00382/laws.FnExactSolve" = some 6 by kernel_rfl).symm.trans hf) |>.symm
   obtain rfl : fn = Tryz.f6 := (Option.some.inj (Tryz.func6.symm.trans hfn)).symm
   exact ⟨by kernel_rfl, fun j t ht => by
    rw [Tryz.params6] at ht
    have hm : t ∈ [41, 39, 3] := by simpa using Array.mem_of_getElem? ht
    have hall : ([41, 39, 3].all fun u => !Tryz.prog.wantsStandIn u) = true := by kernel_rfl
    exact (show Tryz.prog.wantsStandIn t = false by simpa using List.all_eq_true.1 hall t hm)⟩)
  (by kernel_rfl)
#print axioms proved
end Go.Proofs.YtlkiofkkjbodjaaGreatDoor.fnExactSolve
