/- Proved: at every argument the law laws.FnExactInverse returns true, and its arguments read as they did; the tables of math/bits are tied to the program's text by the card; no further condition. -/
import Derived.Test.YtlkiofkkjbodjaaGreatDoorBN40a
import Derived.Test.YtlkiofkkjbodjaaGreatDoorBEvD
import Derived.Test.YtlkiofkkjbodjaaGreatDoorBV59
import Derived.SevenTiedAt
import Derived.Test.YtlkiofkkjbodjaaGreatDoorCards
import Derived.Test.YtlkiofkkjbodjaaGreatDoorTie
set_option maxHeartbeats 4000000
set_option linter.unusedSimpArgs false
set_option linter.unusedVariables false
namespace Go.Proofs.YtlkiofkkjbodjaaGreatDoor.fnExactInverse
open Go Go.Pe Go.Dg Go.ChangeShapes Go.WideShapes Go.ChangeAt Go.RowKit
set_option linter.unusedVariables false
set_option maxRecDepth 100000

theorem shape_int {c : List PV} (h : Typed Tryz.prog 6 3 c) : ∃ (n : Int), c = [.val (.int .i64 n)] ∧ (Lit.int .i64 n).wf = true := by
 exact qM Tryz.underlying3 h

theorem shape_mat {c : List PV} (h : Typed Tryz.prog 8 41 c) : ∃ (n : Int) (l : List aC), c = [.val (.int .i64 n), .lst (aB l)] ∧ l.length ≤ maxLen ∧ ∀ y ∈ l, y.2.1.length ≤ maxLen := by
 have dy : ∀ (c : List PV), Typed Tryz.prog 6 102 c → ∃ (s : Bool) (l : List Int) (e : Int), c = [.val (.bool s), .lst (aA l), .val (.int .i64 e)] ∧ l.length ≤ maxLen := by
  intro c h
  obtain ⟨p, q, h1, h2, rfl⟩ := uX Tryz.underlying102 h
  obtain ⟨e, rfl, _⟩ := qM Tryz.underlying3 h2
  obtain ⟨p1, p2, h3, h4, rfl⟩ := uX Tryz.underlying100 h1
  obtain ⟨s, rfl⟩ := aIE Tryz.underlying4 h3
  obtain ⟨l, rfl, hl⟩ := aIF Tryz.underlying58 Tryz.underlying3 (aL2 Tryz.underlying98 h4)
  exact ⟨s, l, e, rfl, hl⟩
 obtain ⟨p, q, h1, h2, rfl⟩ := uX Tryz.underlying41 h
 obtain ⟨n, rfl, _⟩ := qM Tryz.underlying3 h1
 obtain ⟨ys, rfl, h3, h4⟩ := aMC Tryz.underlying39 (by unfold uW; rw [Tryz.underlying102]) dy h2
 exact ⟨n, ys, rfl, h3, h4⟩

theorem lifted (os : Os) (started : os.Started) (H : Type) (enc : TypeId × Value → H) :
  ReturnsInHanded {} Tryz.checked os 7 .any (fun w args => (Rows.fnExactInverseSpec.pre enc Tryz.prog Tryz.f7 [] false w args ∧ laidMetH Tryz.prog laidB w) ∧ sizedMet enc Tryz.prog Tryz.f7 (OpenSpec.ofChange Rows.fnExactInverseSpec) false w args)
   (Rows.fnExactInverseSpec.post enc Tryz.prog Tryz.f7 false true false false) := by
 refine returnsInHanded_of_change_and (C := Tryz.checked) (X := fun w _ => laidMetH Tryz.prog laidB w) (fun _ _ _ hh h => h.of_heap hh) own started (by kernel_rfl) Tryz.func7
  (ChangeSpec.witness_shaped (enc := enc) (C := Tryz.checked) (os := os) (X := fun w _ => laidMetH Tryz.prog laidB w) false (World.doorLaid Tryz.prog 400 os) #[.agg #[.int .i64 0, .slice none 0 0], .int .i64 0] 8 rfl (World.shaped_of_RefB (by kernel_rfl) (by kernel_rfl)) (by kernel_rfl) (by kernel_rfl) (by kernel_rfl) (aRR os _)) ?_
 intro W base args ds gs before aYP hW _ _ hL _
 have cB : ∀ (j : Nat) t v, Tryz.f7.params[j]? = some t → args[j]? = some v → Value.okWide Tryz.prog W .any base t v := aYP
 have hW' := hW
 obtain ⟨p, q, hA0, hV, rfl, hfz, hnd⟩ := hW
 have hA : DataW.TrodAll enc Tryz.prog W 0 (fun _ => true) true Tryz.f7.params.toList args.toList ds p := hA0
 have hA1 := hA
 rw [Tryz.params7] at hA cB
 obtain ⟨v0, vs0, d0, ds0, pl0, ql0, aZ4, rfl, bBC, h0, r0⟩ := trodAll_cons hA
 obtain ⟨v1, vs1, d1, ds1, pl1, ql1, aZ5, rfl, bBD, h1, r1⟩ := trodAll_cons r0
 obtain ⟨hvn, rfl, hpn⟩ := trodAll_nil r1
 obtain rfl : args = #[v0, v1] := by
  cases args
  simp_all
 obtain ⟨rfl, rfl⟩ := trodVars_none hV
 obtain ⟨c0, aZ6, aYQ⟩ := aKA kids (m := 8) (show 41 < Tryz.prog.types.size by decide +kernel) (by kernel_rfl) (cB 0 41 v0 rfl rfl) h0
 obtain ⟨n0, l0, rfl, hl0, aZ7⟩ := shape_mat aZ6
 obtain ⟨c1, aZ8, aYR⟩ := aKA kids (m := 6) (show 3 < Tryz.prog.types.size by decide +kernel) (by kernel_rfl) (cB 1 3 v1 rfl rfl) h1
 obtain ⟨n1, rfl, hw1⟩ := shape_int aZ8
 obtain ⟨gl, aVY, hgl⟩ := aTM hL
 have aZ9 := Tryz.aWA (P := Tryz.prog) (gl := gl) ⟨rfl, aVY⟩ (n0 := n0) (l0 := l0) (n1 := n1) rfl hl0 aZ7
 refine (aL1 aZ9 W hgl (vs := #[v0, v1]) rfl (fun j hj => ?_)).mono fun e W' ⟨he, hg⟩ => ?_
 ·simp only [List.length_cons, List.length_nil] at hj
  rcases (by omega : j = 0 ∨ j = 1) with rfl | rfl
  ·have : uW Tryz.prog 41 = true := by unfold uW; rw [Tryz.underlying41]
   simpa [kZ, this] using aYQ
  ·have : uW Tryz.prog 3 = false := by unfold uW; rw [Tryz.underlying3]
   simpa [kZ, this] using aYR
 subst he
 exact ⟨_, rfl, _, _, _, [], p, [], hW', trodAll_mk1 (shut_bool Tryz.underlying4 _), aID kids full (fun t ht => by
  rw [Tryz.params7] at ht
  have cU : ([41, 3].all fun u => decide (u < Tryz.prog.types.size)) = true := by decide +kernel
  exact of_decide_eq_true (List.all_eq_true.1 cU t (by simpa using ht))) hA1 hg, rfl, hg.frame _, fun h => by cases h⟩

theorem holds : Rows.FnExactInverseSaid :=
 OpenClaim.holds_of_wide 7 Tryz.f7 rfl rfl rfl rfl rfl rfl rfl ⟨rfl, rfl, rfl, rfl, rfl⟩ rfl rfl rfl rfl rfl (by kernel_rfl) Tryz.func7 (by kernel_rfl)
  (of_decide_eq_true (by kernel_rfl)) (by unfold Func.isWrapper; first | (rw [if_pos (by decide +kernel)]; kernel_rfl) | (rw [if_neg (by decide +kernel)]; exact ⟨rfl, rfl⟩))
  (fun os started H enc _ => lifted os started H enc)

theorem proved : Rows.FnExactInverseCardSaid :=
 Claim7.holds_tied_plain_at .later [] [.data, .data] true (true, "eee16184b0f779492c3c58285d95aba1854f31bbd6055a02f238ca291f8c3b8c") false
  holds (fun _ h => by cases h) (by kernel_rfl) (fun _ h => by cases h) fnExactInverse_row_tie rfl ⟨rfl, rfl⟩ (by kernel_rfl) rfl
  (fun f fn hf hfn => by
   obtain rfl : f = 7 := Option.some.inj ((show Tryz.prog.funcNamed "loop.example/g00382/laws.FnExactInverse" = some 7 by kernel_rfl).symm.trans hf) |>.symm
   obtain rfl : fn = Tryz.f7 := (Option.some.inj (Tryz.func7.symm.trans hfn)).symm
   exact ⟨by kernel_rfl, fun j t ht => by
    rw [Tryz.params7] at ht
    have hm : t ∈ [41, 3] := by simpa using Array.mem_of_getElem? ht
    have cU : ([41, 3].all fun u => !Tryz.prog.wantsStandIn u) = true := by kernel_rfl
    exact (show Tryz.prog.wantsStandIn t = false by simpa using List.all_eq_true.1 cU t hm)⟩)
  (by kernel_rfl)
#print axioms proved
end Go.Proofs.YtlkiofkkjbodjaaGreatDoor.fnExactInverse
