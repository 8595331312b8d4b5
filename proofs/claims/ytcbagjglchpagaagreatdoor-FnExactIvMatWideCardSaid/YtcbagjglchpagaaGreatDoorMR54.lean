/- Proved: at every argument the law laws.FnExactIvMatWide returns true, and its arguments read as they did; the tables of math/bits are tied to the program's text by the card; no further condition. -/
import Derived.Test.YtcbagjglchpagaaGreatDoorMW54
import Derived.Test.YtcbagjglchpagaaGreatDoorMQ54
import Derived.Test.YtcbagjglchpagaaGreatDoorMR0
import Derived.Test.YtcbagjglchpagaaGreatDoorMEvD
import Derived.Test.YtcbagjglchpagaaGreatDoorMPeTm
import Derived.SevenTiedAt
import Derived.Test.YtcbagjglchpagaaGreatDoorCards
import Derived.Test.YtcbagjglchpagaaGreatDoorTie
namespace Go.Proofs
open Go Go.Pe Go.Dg
namespace Tryz
set_option linter.unusedSimpArgs false
set_option linter.unusedVariables false
variable {P : Program} {gl : List (Nat × Obj)}

theorem cells_nought {d : Dyadic} (h : d = 0) : cellsD d false [] 0 := by
  have hz : cZ d = 0 := by rw [h]; exact cZ_eq_zero.2 rfl
  exact ⟨by rw [hz]; rfl, by rw [hz, show Int.natAbs 0 = 0 from rfl, dg_zero], by rw [h]; rfl⟩

theorem law_fs (C : Cx P gl) {l0 : List Cell6} {p0 : List PV} {n0 : Int} (hp0 : p0 = cells6 l0)
    (h0 : l0.length ≤ 9223372036854775807) (y0 : ∀ v ∈ l0, v.1.2.1.length ≤ 9223372036854775807 ∧ v.2.2.1.length ≤ 9223372036854775807) :
    FS P gl 7 [.agg [I n0, .lst p0]] (· = B true) := by
  rcases Nat.lt_or_ge 1048576 (l0.length + tot6 l0) with hbig | hbig
  · exact lawL_fs C hp0 h0 y0 hbig
  have b0 : l0.length ≤ 2000000 := by omega
  have z0 : ∀ v ∈ l0, v.1.2.1.length ≤ 2000000 ∧ v.2.2.1.length ≤ 2000000 := fun v hv => by have := tot6_mem hv; unfold dig6 at this; omega
  obtain ⟨d, hd⟩ : ∃ d, d = normD n0.toNat (fun k => dvB l0 k - dvA l0 k) := ⟨_, rfl⟩
  by_cases hok : ivmOk n0 l0
  · by_cases hf : fits d
    · have hw : true = true ↔ ivmOk n0 l0 ∧ fits d := ⟨fun _ => ⟨hok, hf⟩, fun _ => rfl⟩
      by_cases z : d = 0
      · exact law_n_fs C hp0 hbig (fun P' C' => specIvMatWide_fs C' hp0 (show [] = intsL [] from rfl) hd hw (fun _ => cells_nought z) (fun h => absurd h (by decide)) b0 z0) (fun P' C' => implIvMatWide_n_fs C' hp0 hok hd z b0 z0)
      · exact law_o_fs C hp0 rfl hf.1 hbig (fun P' C' => specIvMatWide_fs C' hp0 rfl hd hw (fun _ => ⟨rfl, rfl, rfl⟩) (fun h => absurd h (by decide)) b0 z0) (fun P' C' => implIvMatWide_o_fn C' hp0 hok hd hf z rfl rfl rfl b0 z0)
    · have hw : false = true ↔ ivmOk n0 l0 ∧ fits d := ⟨fun h => absurd h (by decide), fun h => absurd h.2 hf⟩
      exact law_n_fs C hp0 hbig (fun P' C' => specIvMatWide_fs C' hp0 (show [] = intsL [] from rfl) hd hw (fun h => absurd h (by decide)) (fun _ => ⟨rfl, rfl, rfl⟩) b0 z0) (fun P' C' => implIvMatWide_X_fs C' hp0 hok hd hf b0 z0)
  · have hw : false = true ↔ ivmOk n0 l0 ∧ fits d := ⟨fun h => absurd h (by decide), fun h => absurd h.1 hok⟩
    exact law_n_fs C hp0 hbig (fun P' C' => specIvMatWide_fs C' hp0 (show [] = intsL [] from rfl) hd hw (fun h => absurd h (by decide)) (fun _ => ⟨rfl, rfl, rfl⟩) b0 z0) (fun P' C' => implIvMatWide_N_fs C' hp0 hok b0 z0)

end Tryz
end Go.Proofs

set_option linter.unusedSimpArgs false
set_option linter.unusedVariables false
namespace Go.Proofs.YtcbagjglchpagaaGreatDoor.fnExactIvMatWide
open Go Go.Pe Go.Dg Go.ChangeShapes Go.WideShapes Go.ChangeAt Go.RowKit
set_option linter.unusedVariables false
set_option maxRecDepth 100000

theorem shape_ivm {c : List PV} (h : Typed Tryz.prog 9 49 c) : ∃ (n : Int) (l : List Cell6), c = [.val (.int .i64 n), .lst (cells6 l)] ∧ l.length ≤ maxLen ∧ ∀ y ∈ l, y.1.2.1.length ≤ maxLen ∧ y.2.2.1.length ≤ maxLen := by
  have dy : ∀ {c : List PV}, Typed Tryz.prog 6 28 c → ∃ (s : Bool) (l : List Int) (e : Int), c = [.val (.bool s), .lst (intsL l), .val (.int .i64 e)] ∧ l.length ≤ maxLen := by
    intro c h
    obtain ⟨p, q, h1, h2, rfl⟩ := typed_st2 Tryz.underlying28 h
    obtain ⟨e, rfl, _⟩ := typed_int Tryz.underlying3 h2
    obtain ⟨p1, p2, h3, h4, rfl⟩ := typed_st2 Tryz.underlying26 h1
    obtain ⟨s, rfl⟩ := typed_bool Tryz.underlying4 h3
    obtain ⟨l, rfl, hl⟩ := typed_ints Tryz.underlying22 Tryz.underlying3 (typed_st1 Tryz.underlying24 h4)
    exact ⟨s, l, e, rfl, hl⟩
  have iv : ∀ (c : List PV), Typed Tryz.prog 7 30 c → ∃ (s t : Bool) (l m : List Int) (x y : Int), c = [.val (.bool s), .lst (intsL l), .val (.int .i64 x), .val (.bool t), .lst (intsL m), .val (.int .i64 y)] ∧ l.length ≤ maxLen ∧ m.length ≤ maxLen := by
    intro c h
    obtain ⟨p, q, h1, h2, rfl⟩ := typed_st2 Tryz.underlying30 h
    obtain ⟨s, l, e, rfl, hl⟩ := dy h1
    obtain ⟨t, m, f, rfl, hm⟩ := dy h2
    exact ⟨s, t, l, m, e, f, rfl, hl, hm⟩
  obtain ⟨p, q, h1, h2, rfl⟩ := typed_st2 Tryz.underlying49 h
  obtain ⟨n, rfl, _⟩ := typed_int Tryz.underlying3 h1
  obtain ⟨ys, rfl, h3, h4⟩ := typed_ivs Tryz.underlying47 (by unfold isSt; rw [Tryz.underlying30]) iv h2
  exact ⟨n, ys, rfl, h3, h4⟩

theorem lifted (os : Os) (started : os.Started) (H : Type) (enc : TypeId × Value → H) :
    ReturnsInHanded {} Tryz.checked os 7 .any (fun w args => (Rows.fnExactIvMatWideSpec.pre enc Tryz.prog Tryz.f7 [] false w args ∧ laidMetH Tryz.prog laidB w) ∧ sizedMet enc Tryz.prog Tryz.f7 (OpenSpec.ofChange Rows.fnExactIvMatWideSpec) false w args)
      (Rows.fnExactIvMatWideSpec.post enc Tryz.prog Tryz.f7 false true false false) := by
  refine returnsInHanded_of_change_and (C := Tryz.checked) (X := fun w _ => laidMetH Tryz.prog laidB w) (fun _ _ _ hh h => h.of_heap hh) own started (by kernel_rfl) Tryz.func7
    (ChangeSpec.witness_shaped (enc := enc) (C := Tryz.checked) (os := os) (X := fun w _ => laidMetH Tryz.prog laidB w) false (World.doorLaid Tryz.prog 400 os) #[.agg #[.int .i64 0, .slice none 0 0]] 8 rfl (World.shaped_of_RefB (by kernel_rfl) (by kernel_rfl)) (by kernel_rfl) (by kernel_rfl) (by kernel_rfl) (door_met os _)) ?_
  intro W base args ds gs before hval0 hW _ _ hL _
  have hval : ∀ (j : Nat) t v, Tryz.f7.params[j]? = some t → args[j]? = some v → Value.okWide Tryz.prog W .any base t v := hval0
  have hW' := hW
  obtain ⟨p, q, hA0, hV, rfl, hfz, hnd⟩ := hW
  have hA : DataW.TrodAll enc Tryz.prog W 0 (fun _ => true) true Tryz.f7.params.toList args.toList ds p := hA0
  have hA1 := hA
  rw [Tryz.params7] at hA hval
  obtain ⟨v0, d0, rfl, rfl, h0⟩ := trodAll_one hA
  obtain ⟨rfl, rfl⟩ := trodVars_none hV
  obtain ⟨c0, hty0, hrep0⟩ := rep_arg kids (m := 9) (show 49 < Tryz.prog.types.size by decide +kernel) (by kernel_rfl) (hval 0 49 v0 rfl rfl) h0
  obtain ⟨n0, l0, rfl, hl0, hyl0⟩ := shape_ivm hty0
  obtain ⟨gl, htab, hgl⟩ := of_laid hL
  have hlaw := Tryz.law_fs (P := Tryz.prog) (gl := gl) ⟨rfl, htab⟩ (n0 := n0) (l0 := l0) rfl hl0 hyl0
  refine (law_calls hlaw W hgl (vs := #[v0]) rfl (fun j hj => ?_)).mono fun e W' ⟨he, hg⟩ => ?_
  · simp only [List.length_singleton] at hj
    obtain rfl : j = 0 := by omega
    have : isSt Tryz.prog 49 = true := by unfold isSt; rw [Tryz.underlying49]
    simpa [mkEl, this] using hrep0
  subst he
  exact ⟨_, rfl, _, _, _, [], p, [], hW', trodAll_mk1 (shut_bool Tryz.underlying4 _), args_again kids full (fun t ht => by
    rw [Tryz.params7] at ht
    have hall : ([49].all fun u => decide (u < Tryz.prog.types.size)) = true := by decide +kernel
    exact of_decide_eq_true (List.all_eq_true.1 hall t (by simpa using ht))) hA1 hg, rfl, hg.frame _, fun h => by cases h⟩

set_option maxHeartbeats 4000000 in
theorem holds : Rows.FnExactIvMatWideSaid :=
  OpenClaim.holds_of_wide 7 Tryz.f7 rfl rfl rfl rfl rfl rfl rfl ⟨rfl, rfl, rfl, rfl, rfl⟩ rfl rfl rfl rfl rfl (by kernel_rfl) Tryz.func7 (by kernel_rfl)
    (of_decide_eq_true (by kernel_rfl)) (by unfold Func.isWrapper; first | (rw [if_pos (by decide +kernel)]; kernel_rfl) | (rw [if_neg (by decide +kernel)]; exact ⟨rfl, rfl⟩))
    (fun os started H enc _ => lifted os started H enc)

set_option maxHeartbeats 4000000 in
/-- the statement: the tied card -/
theorem proved : Rows.FnExactIvMatWideCardSaid :=
  Claim7.holds_tied_plain_at .later [] [.data, .data] true (true, "3d24d19e9bd522905fe63cd2129214d3dfb47e503a59817ab88313e2c9feb590") false
    holds (fun _ h => by cases h) (by kernel_rfl) (fun _ h => by cases h) fnExactIvMatWide_row_tie rfl ⟨rfl, rfl⟩ (by kernel_rfl) rfl
    (fun f fn hf hfn => by
      obtain rfl : f = 7 := Option.some.inj ((show Tryz.prog.funcNamed "loop.example/g00382/laws.FnExactIvMatWide" = some 7 by kernel_rfl).symm.trans hf) |>.symm
      obtain rfl : fn = Tryz.f7 := (Option.some.inj (Tryz.func7.symm.trans hfn)).symm
      exact ⟨by kernel_rfl, fun j t ht => by
        rw [Tryz.params7] at ht
        have hm : t ∈ [49] := by simpa using Array.mem_of_getElem? ht
        have hall : ([49].all fun u => !Tryz.prog.wantsStandIn u) = true := by kernel_rfl
        exact (show Tryz.prog.wantsStandIn t = false by simpa using List.all_eq_true.1 hall t hm)⟩)
    (by kernel_rfl)
#print axioms proved
end Go.Proofs.YtcbagjglchpagaaGreatDoor.fnExactIvMatWide

