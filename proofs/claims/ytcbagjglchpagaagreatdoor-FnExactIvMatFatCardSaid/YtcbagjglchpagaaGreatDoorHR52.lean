/- Proved: at every argument the law laws.FnExactIvMatFat returns true, and its arguments read as they did; the tables of math/bits are tied to the program's text by the card; no further condition. -/
import Derived.Test.YtcbagjglchpagaaGreatDoorHW52
import Derived.Test.YtcbagjglchpagaaGreatDoorHQ52
import Derived.Test.YtcbagjglchpagaaGreatDoorHR0
import Derived.Test.YtcbagjglchpagaaGreatDoorHEvD
import Derived.Test.YtcbagjglchpagaaGreatDoorHPeTm
import Derived.SevenTiedAt
import Derived.Test.YtcbagjglchpagaaGreatDoorCards
import Derived.Test.YtcbagjglchpagaaGreatDoorTie
namespace Go.Proofs
open Go Go.Pe Go.Dg
namespace Tryz
set_option linter.unusedSimpArgs false
set_option linter.unusedVariables false
variable {P : Program} {gl : List (Nat × Obj)}

theorem law_fs (C : Cx P gl) {l0 : List Cell6} {p0 : List PV} {n0 : Int} {l1 : List Int} {p1 : List PV} {s1 : Bool} {e1 : Int} (hp0 : p0 = cells6 l0) (hp1 : p1 = intsL l1)
    (h0 : l0.length ≤ 9223372036854775807) (y0 : ∀ v ∈ l0, v.1.2.1.length ≤ 9223372036854775807 ∧ v.2.2.1.length ≤ 9223372036854775807) (h1 : l1.length ≤ 9223372036854775807) :
    FS P gl 8 [.agg [I n0, .lst p0], .agg [B s1, .lst p1, I e1]] (· = B true) := by
  rcases Nat.lt_or_ge 1048576 (l0.length + tot6 l0 + l1.length) with hbig | hbig
  · exact lawL_fs C hp0 hp1 h0 h1 y0 hbig
  have b0 : l0.length ≤ 2000000 := by omega
  have b1 : l1.length ≤ 2000000 := by omega
  have z0 : ∀ v ∈ l0, v.1.2.1.length ≤ 2000000 ∧ v.2.2.1.length ≤ 2000000 := fun v hv => by have := tot6_mem hv; unfold dig6 at this; omega
  by_cases hok : ivmOk n0 l0 ∧ dyOk s1 l1 e1 ∧ s1 = false
  · have hl16 := ivmLen hok.1.1 hok.1.2.1 hok.1.2.2.1
    by_cases hf : ∀ k, k < l0.length → fits ((fun k => dvA l0 k - dval s1 l1 e1) k) ∧ fits ((fun k => dvB l0 k + dval s1 l1 e1) k)
    · have hw : true = true ↔ (ivmOk n0 l0 ∧ dyOk s1 l1 e1 ∧ s1 = false) ∧ ∀ k, k < l0.length → fits ((fun k => dvA l0 k - dval s1 l1 e1) k) ∧ fits ((fun k => dvB l0 k + dval s1 l1 e1) k) := ⟨fun _ => ⟨hok, hf⟩, fun _ => rfl⟩
      refine law_o_fs C hp0 hp1 (u := n0) (w := true) (r := cells6 (canV (fun k => dvA l0 k - dval s1 l1 e1) (fun k => dvB l0 k + dval s1 l1 e1) l0.length)) rfl (by rw [canV_len]; omega) (fun y hy => ?_) hbig (fun P' C' => specIvMatFat_fs C' hp0 hp1 hw (fun _ => ⟨rfl, rfl⟩) (fun h => absurd h (by decide)) b0 z0 b1) (fun P' C' => implIvMatFat_o_fn C' hp0 hp1 hok hf rfl b0 z0 b1)
      obtain ⟨k, hk, rfl⟩ := List.mem_map.1 hy
      exact ⟨(hf k (List.mem_range.1 hk)).1.1, (hf k (List.mem_range.1 hk)).2.1⟩
    · have hw : false = true ↔ (ivmOk n0 l0 ∧ dyOk s1 l1 e1 ∧ s1 = false) ∧ ∀ k, k < l0.length → fits ((fun k => dvA l0 k - dval s1 l1 e1) k) ∧ fits ((fun k => dvB l0 k + dval s1 l1 e1) k) := ⟨fun h => absurd h (by decide), fun h => absurd h.2 hf⟩
      exact law_n_fs C hp0 hp1 (u := 0) (w := false) hbig (fun P' C' => specIvMatFat_fs C' hp0 hp1 hw (fun h => absurd h (by decide)) (fun _ => ⟨rfl, rfl⟩) b0 z0 b1) (fun P' C' => implIvMatFat_X_fs C' hp0 hp1 hok hf b0 z0 b1)
  · have hw : false = true ↔ (ivmOk n0 l0 ∧ dyOk s1 l1 e1 ∧ s1 = false) ∧ ∀ k, k < l0.length → fits ((fun k => dvA l0 k - dval s1 l1 e1) k) ∧ fits ((fun k => dvB l0 k + dval s1 l1 e1) k) := ⟨fun h => absurd h (by decide), fun h => absurd h.1 hok⟩
    exact law_n_fs C hp0 hp1 (u := 0) (w := false) hbig (fun P' C' => specIvMatFat_fs C' hp0 hp1 hw (fun h => absurd h (by decide)) (fun _ => ⟨rfl, rfl⟩) b0 z0 b1) (fun P' C' => implIvMatFat_N_fs C' hp0 hp1 hok b0 z0 b1)

end Tryz
end Go.Proofs

set_option linter.unusedSimpArgs false
set_option linter.unusedVariables false
namespace Go.Proofs.YtcbagjglchpagaaGreatDoor.fnExactIvMatFat
open Go Go.Pe Go.Dg Go.ChangeShapes Go.WideShapes Go.ChangeAt Go.RowKit
set_option linter.unusedVariables false
set_option maxRecDepth 100000

theorem shape_dy {c : List PV} (h : Typed Tryz.prog 6 28 c) : ∃ (s : Bool) (l : List Int) (e : Int), c = [.val (.bool s), .lst (intsL l), .val (.int .i64 e)] ∧ l.length ≤ maxLen := by
  obtain ⟨p, q, h1, h2, rfl⟩ := typed_st2 Tryz.underlying28 h
  obtain ⟨e, rfl, _⟩ := typed_int Tryz.underlying3 h2
  obtain ⟨p1, p2, h3, h4, rfl⟩ := typed_st2 Tryz.underlying26 h1
  obtain ⟨s, rfl⟩ := typed_bool Tryz.underlying4 h3
  obtain ⟨l, rfl, hl⟩ := typed_ints Tryz.underlying22 Tryz.underlying3 (typed_st1 Tryz.underlying24 h4)
  exact ⟨s, l, e, rfl, hl⟩

theorem shape_ivm {c : List PV} (h : Typed Tryz.prog 9 49 c) : ∃ (n : Int) (l : List Cell6), c = [.val (.int .i64 n), .lst (cells6 l)] ∧ l.length ≤ maxLen ∧ ∀ y ∈ l, y.1.2.1.length ≤ maxLen ∧ y.2.2.1.length ≤ maxLen := by
  have dy : ∀ {c : List PV}, Typed Tryz.prog 6 28 c → ∃ (s : Bool) (l : List Int) (e : Int), c = [.val (.bool s), .lst (intsL l), .val (.int .i64 e)] ∧ l.length ≤ maxLen := by
    intro c h
    obtain ⟨p, q, h1, h2, rfl⟩ := typed_st2 Tryz.underlying28 h
    obtain ⟨e, rfl, _⟩ := typed_int Tryz.underlying3 h2
    obtain ⟨p1, p2, h3, h4, rfl⟩ := typed_st2 Tryz.underlying26 h1
    obtain ⟨s, rfl⟩ := typed_bool Tryz.underlying4 h3
    obtain ⟨l, rfl, hl⟩ := typed_ints Tryz.underlying22 Tryz.underlying3 (typed_st1 Tryz.underlying24 h4)
    exact ⟨s, l, e, rfl, hl⟩
  have iv : ∀ (c : List PV), Typed Tryz.prog 7 30 c → ∃ (s t : Bool) (l m : List Int) (x y : Int), c = [.val (.bool s), .lst (intsL l), .val (.int .i64 x), .val (.bool t), .lst (intsL m), .val (.int .i64 y)] ∧ l.length ≤ maxLen ∧ m.length ≤ maxLen := by
    intro c h
    obtain ⟨p, q, h1, h2, rfl⟩ := typed_st2 Tryz.underlying30 h
    obtain ⟨s, l, e, rfl, hl⟩ := dy h1
    obtain ⟨t, m, f, rfl, hm⟩ := dy h2
    exact ⟨s, t, l, m, e, f, rfl, hl, hm⟩
  obtain ⟨p, q, h1, h2, rfl⟩ := typed_st2 Tryz.underlying49 h
  obtain ⟨n, rfl, _⟩ := typed_int Tryz.underlying3 h1
  obtain ⟨ys, rfl, h3, h4⟩ := typed_ivs Tryz.underlying47 (by unfold isSt; rw [Tryz.underlying30]) iv h2
  exact ⟨n, ys, rfl, h3, h4⟩

theorem lifted (os : Os) (started : os.Started) (H : Type) (enc : TypeId × Value → H) :
    ReturnsInHanded {} Tryz.checked os 8 .any (fun w args => (Rows.fnExactIvMatFatSpec.pre enc Tryz.prog Tryz.f8 [] false w args ∧ laidMetH Tryz.prog laidB w) ∧ sizedMet enc Tryz.prog Tryz.f8 (OpenSpec.ofChange Rows.fnExactIvMatFatSpec) false w args)
      (Rows.fnExactIvMatFatSpec.post enc Tryz.prog Tryz.f8 false true false false) := by
  refine returnsInHanded_of_change_and (C := Tryz.checked) (X := fun w _ => laidMetH Tryz.prog laidB w) (fun _ _ _ hh h => h.of_heap hh) own started (by kernel_rfl) Tryz.func8
    (ChangeSpec.witness_shaped (enc := enc) (C := Tryz.checked) (os := os) (X := fun w _ => laidMetH Tryz.prog laidB w) false (World.doorLaid Tryz.prog 400 os) #[.agg #[.int .i64 0, .slice none 0 0], .agg #[.bool false, .slice none 0 0, .int .i64 0]] 8 rfl (World.shaped_of_RefB (by kernel_rfl) (by kernel_rfl)) (by kernel_rfl) (by kernel_rfl) (by kernel_rfl) (door_met os _)) ?_
  intro W base args ds gs before hval0 hW _ _ hL _
  have hval : ∀ (j : Nat) t v, Tryz.f8.params[j]? = some t → args[j]? = some v → Value.okWide Tryz.prog W .any base t v := hval0
  have hW' := hW
  obtain ⟨p, q, hA0, hV, rfl, hfz, hnd⟩ := hW
  have hA : DataW.TrodAll enc Tryz.prog W 0 (fun _ => true) true Tryz.f8.params.toList args.toList ds p := hA0
  have hA1 := hA
  rw [Tryz.params8] at hA hval
  obtain ⟨v0, vs0, d0, ds0, pl0, ql0, hargs0, rfl, hpl0, h0, r0⟩ := trodAll_cons hA
  obtain ⟨v1, vs1, d1, ds1, pl1, ql1, hargs1, rfl, hpl1, h1, r1⟩ := trodAll_cons r0
  obtain ⟨hvn, rfl, hpn⟩ := trodAll_nil r1
  obtain rfl : args = #[v0, v1] := by
    cases args
    simp_all
  obtain ⟨rfl, rfl⟩ := trodVars_none hV
  obtain ⟨c0, hty0, hrep0⟩ := rep_arg kids (m := 9) (show 49 < Tryz.prog.types.size by decide +kernel) (by kernel_rfl) (hval 0 49 v0 rfl rfl) h0
  obtain ⟨n0, l0, rfl, hl0, hyl0⟩ := shape_ivm hty0
  obtain ⟨c1, hty1, hrep1⟩ := rep_arg kids (m := 6) (show 28 < Tryz.prog.types.size by decide +kernel) (by kernel_rfl) (hval 1 28 v1 rfl rfl) h1
  obtain ⟨s1, l1, e1, rfl, hl1⟩ := shape_dy hty1
  obtain ⟨gl, htab, hgl⟩ := of_laid hL
  have hlaw := Tryz.law_fs (P := Tryz.prog) (gl := gl) ⟨rfl, htab⟩ (n0 := n0) (l0 := l0) (l1 := l1) (e1 := e1) (s1 := s1) rfl rfl hl0 hyl0 hl1
  refine (law_calls hlaw W hgl (vs := #[v0, v1]) rfl (fun j hj => ?_)).mono fun e W' ⟨he, hg⟩ => ?_
  · simp only [List.length_cons, List.length_nil] at hj
    rcases (by omega : j = 0 ∨ j = 1) with rfl | rfl
    · have : isSt Tryz.prog 49 = true := by unfold isSt; rw [Tryz.underlying49]
      simpa [mkEl, this] using hrep0
    · have : isSt Tryz.prog 28 = true := by unfold isSt; rw [Tryz.underlying28]
      simpa [mkEl, this] using hrep1
  subst he
  exact ⟨_, rfl, _, _, _, [], p, [], hW', trodAll_mk1 (shut_bool Tryz.underlying4 _), args_again kids full (fun t ht => by
    rw [Tryz.params8] at ht
    have hall : ([49, 28].all fun u => decide (u < Tryz.prog.types.size)) = true := by decide +kernel
    exact of_decide_eq_true (List.all_eq_true.1 hall t (by simpa using ht))) hA1 hg, rfl, hg.frame _, fun h => by cases h⟩

set_option maxHeartbeats 4000000 in
theorem holds : Rows.FnExactIvMatFatSaid :=
  OpenClaim.holds_of_wide 8 Tryz.f8 rfl rfl rfl rfl rfl rfl rfl ⟨rfl, rfl, rfl, rfl, rfl⟩ rfl rfl rfl rfl rfl (by kernel_rfl) Tryz.func8 (by kernel_rfl)
    (of_decide_eq_true (by kernel_rfl)) (by unfold Func.isWrapper; first | (rw [if_pos (by decide +kernel)]; kernel_rfl) | (rw [if_neg (by decide +kernel)]; exact ⟨rfl, rfl⟩))
    (fun os started H enc _ => lifted os started H enc)

set_option maxHeartbeats 4000000 in
/-- the statement: the tied card -/
theorem proved : Rows.FnExactIvMatFatCardSaid :=
  Claim7.holds_tied_plain_at .later [] [.data, .data] true (true, "3d24d19e9bd522905fe63cd2129214d3dfb47e503a59817ab88313e2c9feb590") false
    holds (fun _ h => by cases h) (by kernel_rfl) (fun _ h => by cases h) fnExactIvMatFat_row_tie rfl ⟨rfl, rfl⟩ (by kernel_rfl) rfl
    (fun f fn hf hfn => by
      obtain rfl : f = 8 := Option.some.inj ((show Tryz.prog.funcNamed "loop.example/g00382/laws.FnExactIvMatFat" = some 8 by kernel_rfl).symm.trans hf) |>.symm
      obtain rfl : fn = Tryz.f8 := (Option.some.inj (Tryz.func8.symm.trans hfn)).symm
      exact ⟨by kernel_rfl, fun j t ht => by
        rw [Tryz.params8] at ht
        have hm : t ∈ [49, 28] := by simpa using Array.mem_of_getElem? ht
        have hall : ([49, 28].all fun u => !Tryz.prog.wantsStandIn u) = true := by kernel_rfl
        exact (show Tryz.prog.wantsStandIn t = false by simpa using List.all_eq_true.1 hall t hm)⟩)
    (by kernel_rfl)
#print axioms proved
end Go.Proofs.YtcbagjglchpagaaGreatDoor.fnExactIvMatFat

